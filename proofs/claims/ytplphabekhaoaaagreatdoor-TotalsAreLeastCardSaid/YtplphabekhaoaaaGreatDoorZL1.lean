/- Part 1 of a proof: the walks and laws that it needs. -/
import Derived.Test.YtplphabekhaoaaaGreatDoorZB5
namespace Go.Proofs.YtplphabekhaoaaaGreatDoor
open Go.RowKit
set_option linter.unusedVariables false
set_option linter.unusedSimpArgs false
theorem set_ne {s : List ByteArray} {i j : Nat} {x : ByteArray} (h : i ≠ j) : (s.set i x).getD j ByteArray.empty = s.getD j ByteArray.empty := by
 simp only [List.getD_eq_getElem?_getD, List.getElem?_set]
 rw [if_neg h]
theorem set_at {s : List ByteArray} {i : Nat} {x : ByteArray} (h : i < s.length) : (s.set i x).getD i ByteArray.empty = x := by simp [h]
section
variable {s parts : List ByteArray} {later : List (List ByteArray)}
theorem miss_slot (hf : Fits s parts) {q : Nat} (hq : q < (missF s parts).length) : (slotF (nextL parts later s ((missF s parts).take q)) parts later).toNat < s.length ∧
  (nextL parts later s ((missF s parts).take q)).getD (slotF (nextL parts later s ((missF s parts).take q)) parts later).toNat ByteArray.empty ∉ parts := by
 have hnd := missF_nodup (s := s) hf.pnd
 have hns : ∀ x ∈ missF s parts, x ∉ s := fun x hx => (missF_mem.1 hx).2
 have hx := nextL_not (parts := parts) (later := later) hnd hns hq
 have hxm : (missF s parts).getD q ByteArray.empty ∈ missF s parts := by simp [hq]
 obtain ⟨k1, k2, k3⟩ := slotF_in (later := later) (nextL_fits (later := later) hf hnd hns q (by omega)) (missF_mem.1 hxm).1 hx
 have hcl : (nextL parts later s ((missF s parts).take q)).length = s.length := nextL_len _ _ _ _
 exact ⟨by omega, has_not.1 k3⟩
theorem next_keep (hf : Fits s parts) : ∀ q, q ≤ (missF s parts).length → ∀ j, s.getD j ByteArray.empty ∈ parts → (nextL parts later s ((missF s parts).take q)).getD j ByteArray.empty = s.getD j ByteArray.empty
 | 0, _, j, _ => rfl
 | q + 1, hq, j, hj => by
  have ih := next_keep hf q (by omega) j hj
  obtain ⟨_, k2⟩ := miss_slot (later := later) hf (q := q) (by omega)
  rw [nextL_take_succ (by omega), set_ne (fun e => k2 (by rw [e, ih]; exact hj)), ih]
theorem next_put (hf : Fits s parts) : ∀ q, q ≤ (missF s parts).length → ∀ i, i < q → ∃ j, j < s.length ∧ (nextL parts later s ((missF s parts).take q)).getD j ByteArray.empty = (missF s parts).getD i ByteArray.empty
 | 0, _, i, hi => by omega
 | q + 1, hq, i, hi => by
  obtain ⟨k1, k2⟩ := miss_slot (later := later) hf (q := q) (by omega)
  have hcl : (nextL parts later s ((missF s parts).take q)).length = s.length := nextL_len _ _ _ _
  rw [nextL_take_succ (by omega)]
  by_cases e : i = q
  ·subst e
   exact ⟨_, k1, set_at (by omega)⟩
  ·obtain ⟨j, hj, h⟩ := next_put hf q (by omega) i (by omega)
   have hm : (missF s parts).getD i ByteArray.empty ∈ missF s parts := by simp [show i < (missF s parts).length by omega]
   exact ⟨j, hj, by rw [set_ne (fun e => k2 (by rw [e, h]; exact (missF_mem.1 hm).1)), h]⟩
theorem nextF_keep (hf : Fits s parts) {j : Nat} (hj : s.getD j ByteArray.empty ∈ parts) : (nextF s parts later).getD j ByteArray.empty = s.getD j ByteArray.empty := by
 have := next_keep (later := later) hf (missF s parts).length (Nat.le_refl _) j hj
 rwa [List.take_length] at this
theorem nextF_has (hf : Fits s parts) {x : ByteArray} (hx : x ∈ parts) : x ∈ nextF s parts later := by
 have hl := nextL_len parts later (missF s parts) s
 by_cases hs : x ∈ s
 ·obtain ⟨j, hj, rfl⟩ := getD_mem hs
  have := nextF_keep (later := later) hf hx
  rw [← this]
  have hj' : j < (nextF s parts later).length := by rw [nextF]; omega
  simp [hj']
 ·obtain ⟨i, hi, rfl⟩ := getD_mem (missF_mem.2 ⟨hx, hs⟩)
  obtain ⟨j, hj, h⟩ := next_put (later := later) hf (missF s parts).length (Nat.le_refl _) i hi
  rw [List.take_length] at h
  rw [← h]
  have hj' : j < (nextF s parts later).length := by rw [nextF]; omega
  rw [nextF] at hj'
  rw [nextF]
  simp [hj']
theorem nextF_none (hf : Fits s parts) : missF (nextF s parts later) parts = [] := by
 refine List.filter_eq_nil_iff.2 fun x hx => ?_
 rw [has_iff.2 (nextF_has (later := later) hf hx)]
 simp
end
end Go.Proofs.YtplphabekhaoaaaGreatDoor
namespace Go.Proofs.YtplphabekhaoaaaGreatDoor
open Go.RowKit
set_option linter.unusedVariables false
set_option linter.unusedSimpArgs false
def used (L : List (List ByteArray)) (t : Nat) (x : ByteArray) : Bool := (L.take t).any fun l => has l x
theorem used_zero (L : List (List ByteArray)) (x : ByteArray) : used L 0 x = false := by simp [used]
theorem used_succ (R : List ByteArray) (L : List (List ByteArray)) (t : Nat) (x : ByteArray) : used (R :: L) (t + 1) x = (has R x || used L t x) := by simp [used]
theorem used_need {L : List (List ByteArray)} {t : Nat} {x : ByteArray} (ht : t ≤ L.length) : used L t x = true ↔ needF x L < t := by
 unfold used needF
 rw [List.any_eq_true]
 constructor
 ·rintro ⟨l, hl, hx⟩
  obtain ⟨j, hj, rfl⟩ := List.mem_iff_getElem.1 hl
  have hj' : j < t ∧ j < L.length := by simp at hj; omega
  have hx' : has (L.getD j default) x = true := by
   rw [List.getElem_take] at hx
   simpa [hj'.2] using hx
  have h0 : 0 ≤ fidx (fun l => has l x) L := by
   have := fidx_any (fun l => has l x) L
   rw [any_found (d := default) hj'.2 hx'] at this
   exact of_decide_eq_true this
  rw [if_pos h0]
  obtain ⟨k1, k2, k3⟩ := fidx_at (d := default) h0
  by_cases hc : fidx (fun l => has l x) L < t
  ·exact hc
  ·have := k3 j (by omega)
   rw [this] at hx'; cases hx'
 ·intro h
  split at h
  ·rename_i h0
   obtain ⟨k1, k2, k3⟩ := fidx_at (d := default) h0
   refine ⟨L.getD (fidx (fun l => has l x) L).toNat default, ?_, k2⟩
   have hlt : (fidx (fun l => has l x) L).toNat < (L.take t).length := by simp; omega
   have : (L.take t)[(fidx (fun l => has l x) L).toNat] = L.getD (fidx (fun l => has l x) L).toNat default := by simp [k1]
   rw [← this]; exact List.getElem_mem hlt
  ·omega
theorem used_eps {L : List (List ByteArray)} (h : ∀ l ∈ L, ε ∉ l) (t : Nat) : used L t ε = false := by
 unfold used
 refine List.any_eq_false.2 fun l hl => ?_
 rw [has_not.2 (h l (List.mem_of_mem_take hl))]; simp
theorem countP_not {p : ByteArray → Bool} : ∀ X : List ByteArray, X.countP p + X.countP (fun x => !p x) = X.length
 | [] => rfl
 | x :: r => by
  have ih := countP_not (p := p) r
  simp only [List.countP_cons, List.length_cons, ← ih]
  cases p x <;> simp <;> omega
section
variable {s parts : List ByteArray} {L : List (List ByteArray)}
theorem vic_max : ∀ q : Nat, ∀ j, j < q → has parts (s.getD j ByteArray.empty) = false → needF (s.getD j ByteArray.empty) L ≤ (vic s parts L q).2
 | 0, j, hj, _ => by omega
 | q + 1, j, hj, hp => by
  by_cases e : j = q
  ·subst e
   by_cases h2 : (vic s parts L j).2 < needF (s.getD j ByteArray.empty) L ∨ (needF (s.getD j ByteArray.empty) L = (vic s parts L j).2 ∧ sLe (s.getD j ByteArray.empty) (s.getD (vic s parts L j).1.toNat ByteArray.empty) = false)
   ·rw [vic_new hp h2]; exact Int.le_refl _
   ·rw [vic_old hp h2]; omega
  ·have ih := vic_max q j (by omega) hp
   cases hq : has parts (s.getD q ByteArray.empty) with
   | true => rw [vic_has hq]; exact ih
   | false =>
    by_cases h2 : (vic s parts L q).2 < needF (s.getD q ByteArray.empty) L ∨ (needF (s.getD q ByteArray.empty) L = (vic s parts L q).2 ∧ sLe (s.getD q ByteArray.empty) (s.getD (vic s parts L q).1.toNat ByteArray.empty) = false)
    ·rw [vic_new hq h2]; simp only; omega
    ·rw [vic_old hq h2]; exact ih
theorem slot_near (hf : Fits s parts) (hL : ∀ l ∈ L, ε ∉ l) {t : Nat} (ht : t ≤ L.length) {x : ByteArray} (hx : x ∈ parts) (hs : x ∉ s) (hu : used L t (s.getD (slotF s parts L).toNat ByteArray.empty) = true) : ∀ y ∈ s, y ∈ parts ∨ used L t y = true := by
 intro y hy
 obtain ⟨j, hj, rfl⟩ := getD_mem hy
 by_cases hp : s.getD j ByteArray.empty ∈ parts
 ·exact .inl hp
 ·refine .inr ?_
  obtain ⟨k1, k2, k3⟩ := slotF_in (later := L) hf hx hs
  by_cases hfd : fidx (fun x => sEq ε x) s < 0
  ·rw [slotF_of_neg hfd] at hu k1 k2
   rw [used_need ht] at hu ⊢
   have h1 := vic_max (s := s) (parts := parts) (L := L) s.length j hj (has_not.2 hp)
   have h2 := vic_need (s := s) (parts := parts) (later := L) s.length k1
   omega
  ·exfalso
   rw [slotF_of_pos (by omega)] at hu
   obtain ⟨_, h2, _⟩ := fidx_at (d := ByteArray.empty) (p := fun x => sEq ε x) (xs := s) (by omega)
   rw [← sEq_eq.1 h2, used_eps hL] at hu
   cases hu
def nearE (parts : List ByteArray) (L : List (List ByteArray)) (t : Nat) (X : List ByteArray) : Nat := X.countP fun x => !has parts x && used L t x
theorem nearE_set {X : List ByteArray} {i : Nat} {x : ByteArray} {later : List (List ByteArray)} {t : Nat} (hi : i < X.length) (hx : x ∈ parts) :
  nearE parts L t (X.set i x) ≤ nearE parts L t X ∧ (used L t (X.getD i ByteArray.empty) = false → nearE parts L t (X.set i x) = nearE parts L t X) := by
 have hg : X.getD i ByteArray.empty = X[i] := by simp [hi]
 unfold nearE
 rw [List.countP_set hi, has_iff.2 hx, hg]
 simp only [Bool.not_true, Bool.false_and, if_false, Nat.add_zero, Bool.false_eq_true]
 refine ⟨Nat.sub_le _ _, fun h => ?_⟩
 rw [h]; simp
theorem near_step (hf : Fits s parts) (hL : ∀ l ∈ L, ε ∉ l) {t : Nat} (ht : t ≤ L.length) : ∀ q, q ≤ (missF s parts).length →
  nearE parts L t (nextL parts L s ((missF s parts).take q)) = nearE parts L t s ∨ ∀ y ∈ nextL parts L s ((missF s parts).take q), y ∈ parts ∨ used L t y = true
 | 0, _ => .inl rfl
 | q + 1, hq => by
  have ih := near_step hf hL ht q (by omega)
  have hnd := missF_nodup (s := s) hf.pnd
  have hns : ∀ x ∈ missF s parts, x ∉ s := fun x hx => (missF_mem.1 hx).2
  have hx := nextL_not (parts := parts) (later := L) hnd hns (q := q) (by omega)
  have hxm : (missF s parts).getD q ByteArray.empty ∈ missF s parts := by simp [show q < (missF s parts).length by omega]
  have hxp := (missF_mem.1 hxm).1
  have hcl : (nextL parts L s ((missF s parts).take q)).length = s.length := nextL_len _ _ _ _
  obtain ⟨k1, k2⟩ := miss_slot (later := L) hf (q := q) (by omega)
  rw [nextL_take_succ (by omega)]
  have right : (∀ y ∈ nextL parts L s ((missF s parts).take q), y ∈ parts ∨ used L t y = true) → ∀ y ∈ (nextL parts L s ((missF s parts).take q)).set (slotF (nextL parts L s ((missF s parts).take q)) parts L).toNat ((missF s parts).getD q ByteArray.empty), y ∈ parts ∨ used L t y = true := fun h y hy => by
   rcases List.mem_or_eq_of_mem_set hy with h1 | h1
   ·exact h y h1
   ·rw [h1]; exact .inl hxp
  rcases ih with ih | ih
  ·cases hu : used L t ((nextL parts L s ((missF s parts).take q)).getD (slotF (nextL parts L s ((missF s parts).take q)) parts L).toNat ByteArray.empty) with
   | true => exact .inr (right (slot_near (nextL_fits (later := L) hf hnd hns q (by omega)) hL ht hxp hx hu))
   | false => exact .inl (((nearE_set (later := L) (by omega) hxp).2 hu).trans ih)
  ·exact .inr (right ih)
theorem near_less (hf : Fits s parts) {later : List (List ByteArray)} {t : Nat} : ∀ q, q ≤ (missF s parts).length → nearE parts L t (nextL parts later s ((missF s parts).take q)) ≤ nearE parts L t s
 | 0, _ => Nat.le_refl _
 | q + 1, hq => by
  have ih := near_less hf (later := later) (t := t) q (by omega)
  have hxm : (missF s parts).getD q ByteArray.empty ∈ missF s parts := by simp [show q < (missF s parts).length by omega]
  have hcl : (nextL parts later s ((missF s parts).take q)).length = s.length := nextL_len _ _ _ _
  obtain ⟨k1, k2⟩ := miss_slot (later := later) hf (q := q) (by omega)
  rw [nextL_take_succ (by omega)]
  exact Nat.le_trans (nearE_set (later := later) (by omega) (missF_mem.1 hxm).1).1 ih
theorem miss_count (hf : Fits s parts) : (missF s parts).length + s.countP (has parts) = parts.length := by
 have h1 : (parts.filter (has s)).length + (missF s parts).length = parts.length := by
  have := countP_not (p := has s) parts
  rw [List.countP_eq_length_filter, List.countP_eq_length_filter] at this
  exact this
 have h2 : (parts.filter (has s)).Nodup := hf.pnd.sublist List.filter_sublist
 have h3 : (s.filter (has parts)).Nodup := by
  rw [List.Nodup, List.pairwise_filter, List.pairwise_iff_getElem]
  intro i j hi hj hij h4 h5 e
  have := hf.once i j hij hj (by simp [hi, hj, e])
  have e2 : s.getD j ByteArray.empty = s[j] := by simp [hj]
  rw [e2] at this
  rw [this, has_iff] at h5
  exact hf.keys _ h5 rfl
 have h6 := nodup_sub h2 (m := s.filter (has parts)) fun x hx => by
  obtain ⟨k1, k2⟩ := List.mem_filter.1 hx
  exact List.mem_filter.2 ⟨has_iff.1 k2, has_iff.2 k1⟩
 have h7 := nodup_sub h3 (m := parts.filter (has s)) fun x hx => by
  obtain ⟨k1, k2⟩ := List.mem_filter.1 hx
  exact List.mem_filter.2 ⟨has_iff.1 k2, has_iff.2 k1⟩
 rw [List.countP_eq_length_filter]
 omega
end
theorem countP_or {p q : ByteArray → Bool} : ∀ X : List ByteArray, X.countP (fun x => p x || q x) = X.countP p + X.countP (fun x => !p x && q x)
 | [] => rfl
 | x :: r => by
  have ih := countP_or (p := p) (q := q) r
  simp only [List.countP_cons, ih]
  cases p x <;> cases q x <;> simp <;> omega
theorem countP_and {p q : ByteArray → Bool} : ∀ X : List ByteArray, X.countP q = X.countP (fun x => p x && q x) + X.countP (fun x => !p x && q x)
 | [] => rfl
 | x :: r => by
  have ih := countP_and (p := p) (q := q) r
  simp only [List.countP_cons, ih]
  cases p x <;> cases q x <;> simp <;> omega
theorem in_count {s parts : List ByteArray} (hf : Fits s parts) (ha : ∀ x ∈ parts, x ∈ s) (u : ByteArray → Bool) : s.countP (fun x => has parts x && u x) = parts.countP u := by
 rw [List.countP_eq_length_filter, List.countP_eq_length_filter]
 have h3 : (s.filter fun x => has parts x && u x).Nodup := by
  rw [List.Nodup, List.pairwise_filter, List.pairwise_iff_getElem]
  intro i j hi hj hij h4 h5 e
  have := hf.once i j hij hj (by simp [hi, hj, e])
  have e2 : s.getD j ByteArray.empty = s[j] := by simp [hj]
  rw [e2] at this
  rw [this, Bool.and_eq_true, has_iff] at h5
  exact hf.keys _ h5.1 rfl
 have h2 : (parts.filter u).Nodup := hf.pnd.sublist List.filter_sublist
 have h6 := nodup_sub h2 (m := s.filter fun x => has parts x && u x) fun x hx => by
  obtain ⟨k1, k2⟩ := List.mem_filter.1 hx
  exact List.mem_filter.2 ⟨ha x k1, by rw [has_iff.2 k1, k2]; rfl⟩
 have h7 := nodup_sub h3 (m := parts.filter u) fun x hx => by
  obtain ⟨k1, k2⟩ := List.mem_filter.1 hx
  rw [Bool.and_eq_true, has_iff] at k2
  exact List.mem_filter.2 ⟨k2.1, k2.2⟩
 omega
def onS (s : List ByteArray) (p : List (List ByteArray)) : Nat → List ByteArray
 | 0 => s
 | q + 1 => nextF (onS s p q) (p.getD q default) []
def onT (s : List ByteArray) (p : List (List ByteArray)) : Nat → Int
 | 0 => 0
 | q + 1 => onT s p q + (missF (onS s p q) (p.getD q default)).length
theorem onS_good {s : List ByteArray} {p : List (List ByteArray)} (h : Good' s) (hp : ∀ q, q < p.length → RightP s.length (p.getD q default)) : ∀ q, q ≤ p.length → Good' (onS s p q) ∧ (onS s p q).length = s.length
 | 0, _ => ⟨h, rfl⟩
 | q + 1, hq => by
  obtain ⟨h1, h2⟩ := onS_good h hp q (by omega)
  exact ⟨h1.nextF (by rw [h2]; exact hp q (by omega)) _, by rw [onS, nextF_len, h2]⟩
theorem drop_getD {p : List (List ByteArray)} {q : Nat} (h : q < p.length) : p.drop q = p.getD q default :: p.drop (q + 1) := by
 rw [List.drop_eq_getElem_cons h]; simp [h]
section
variable {s : List ByteArray} {p : List (List ByteArray)}
theorem ahead (hs : Good' s) (hp : ∀ q, q < p.length → RightP s.length (p.getD q default)) : ∀ q, q ≤ p.length → totF s p q ≤ onT s p q ∧
  ∀ t, t ≤ p.length - q → totF s p q - onT s p q ≤ ((stF s p q).countP (used (p.drop q) t) : Int) - ((onS s p q).countP (used (p.drop q) t) : Int)
 | 0, _ => ⟨Int.le_refl _, fun t _ => by show (0 : Int) - 0 ≤ (s.countP (used (p.drop 0) t) : Int) - (s.countP (used (p.drop 0) t) : Int); omega⟩
 | q + 1, hq => by
  obtain ⟨i1, i2⟩ := ahead hs hp q (by omega)
  have hR := hp q (by omega)
  have gG := stF_good hs hp q (by omega)
  have lG := stF_len s p q
  obtain ⟨gO, lO⟩ := onS_good hs hp q (by omega)
  have fG : Fits (stF s p q) (p.getD q default) := (by rw [lG]; exact hR : RightP (stF s p q).length (p.getD q default)).fits gG.once
  have fO : Fits (onS s p q) (p.getD q default) := (by rw [lO]; exact hR : RightP (onS s p q).length (p.getD q default)).fits gO.once
  have mG := miss_count fG
  have mO := miss_count fO
  have hd := drop_getD (p := p) (q := q) (by omega)
  have hdl : (p.drop (q + 1)).length = p.length - (q + 1) := List.length_drop
  have hL : ∀ l ∈ p.drop (q + 1), ε ∉ l := fun l hl he => by
   obtain ⟨j, hj, e⟩ := List.mem_iff_getElem.1 (List.mem_of_mem_drop hl)
   have := (hp j hj).keys ε (by rw [List.getD_eq_getElem?_getD, List.getElem?_eq_getElem hj, Option.getD_some, e]; exact he)
   exact absurd this.1 (by decide)
  have bef : ∀ X : List ByteArray, ∀ t, X.countP (used (p.drop q) (t + 1)) = X.countP (has (p.getD q default)) + nearE (p.getD q default) (p.drop (q + 1)) t X := fun X t => by
   unfold nearE
   rw [hd, ← countP_or]
   exact congrArg (fun f => X.countP f) (funext fun x => used_succ _ _ _ _)
  have cost : ∀ t, t ≤ p.length - (q + 1) → totF s p (q + 1) - onT s p (q + 1) ≤ (nearE (p.getD q default) (p.drop (q + 1)) t (stF s p q) : Int) - (nearE (p.getD q default) (p.drop (q + 1)) t (onS s p q) : Int) := fun t ht => by
   have := i2 (t + 1) (by omega)
   rw [bef, bef] at this
   rw [totF, onT]
   omega
  have nz : ∀ X : List ByteArray, nearE (p.getD q default) (p.drop (q + 1)) 0 X = 0 := fun X => by
   unfold nearE
   rw [List.countP_eq_zero]
   intro x _
   rw [used_zero]; simp
  have le0 : totF s p (q + 1) ≤ onT s p (q + 1) := by
   have := cost 0 (by omega)
   rw [nz, nz] at this
   omega
  refine ⟨le0, fun t ht => ?_⟩
  have hc := cost t ht
  have gG' := stF_good hs hp (q + 1) hq
  have lG' := stF_len s p (q + 1)
  obtain ⟨gO', lO'⟩ := onS_good hs hp (q + 1) hq
  have fG' : Fits (stF s p (q + 1)) (p.getD q default) := (by rw [lG']; exact hR : RightP (stF s p (q + 1)).length (p.getD q default)).fits gG'.once
  have fO' : Fits (onS s p (q + 1)) (p.getD q default) := (by rw [lO']; exact hR : RightP (onS s p (q + 1)).length (p.getD q default)).fits gO'.once
  have aG : ∀ x ∈ p.getD q default, x ∈ stF s p (q + 1) := fun x hx => nextF_has fG hx
  have aO : ∀ x ∈ p.getD q default, x ∈ onS s p (q + 1) := fun x hx => nextF_has fO hx
  have dG : (stF s p (q + 1)).countP (used (p.drop (q + 1)) t) = (p.getD q default).countP (used (p.drop (q + 1)) t) + nearE (p.getD q default) (p.drop (q + 1)) t (stF s p (q + 1)) := by
   rw [countP_and (p := has (p.getD q default)) (stF s p (q + 1)), in_count fG' aG]; rfl
  have dO : (onS s p (q + 1)).countP (used (p.drop (q + 1)) t) = (p.getD q default).countP (used (p.drop (q + 1)) t) + nearE (p.getD q default) (p.drop (q + 1)) t (onS s p (q + 1)) := by
   rw [countP_and (p := has (p.getD q default)) (onS s p (q + 1)), in_count fO' aO]; rfl
  have eO : nearE (p.getD q default) (p.drop (q + 1)) t (onS s p (q + 1)) ≤ nearE (p.getD q default) (p.drop (q + 1)) t (onS s p q) := by
   have := near_less (L := p.drop (q + 1)) fO (later := []) (t := t) (missF (onS s p q) (p.getD q default)).length (Nat.le_refl _)
   rwa [List.take_length] at this
  have eG := near_step (L := p.drop (q + 1)) fG hL (t := t) (by omega) (missF (stF s p q) (p.getD q default)).length (Nat.le_refl _)
  rw [List.take_length] at eG
  rw [dG, dO]
  rcases eG with eG | eG
  ·have eG' : nearE (p.getD q default) (p.drop (q + 1)) t (stF s p (q + 1)) = nearE (p.getD q default) (p.drop (q + 1)) t (stF s p q) := eG
   omega
  ·have full : nearE (p.getD q default) (p.drop (q + 1)) t (stF s p (q + 1)) = (stF s p (q + 1)).countP (fun x => !has (p.getD q default) x) := by
    unfold nearE
    refine List.countP_congr fun x hx => ?_
    have : x ∈ p.getD q default ∨ used (p.drop (q + 1)) t x = true := eG x hx
    rcases this with h | h
    ·rw [has_iff.2 h]; simp
    ·rw [h]; simp
   have most : nearE (p.getD q default) (p.drop (q + 1)) t (onS s p (q + 1)) ≤ (onS s p (q + 1)).countP (fun x => !has (p.getD q default) x) := by
    unfold nearE
    refine List.countP_mono_left fun x _ h => ?_
    rw [Bool.and_eq_true] at h; exact h.1
   have nG := countP_not (p := has (p.getD q default)) (stF s p (q + 1))
   have nO := countP_not (p := has (p.getD q default)) (onS s p (q + 1))
   have cG := miss_count fG'
   have cO := miss_count fO'
   have zG : missF (stF s p (q + 1)) (p.getD q default) = [] := nextF_none fG
   have zO : missF (onS s p (q + 1)) (p.getD q default) = [] := nextF_none fO
   rw [zG] at cG
   rw [zO] at cO
   simp only [List.length_nil, Nat.zero_add] at cG cO
   omega
theorem tot_least (hs : Good' s) (hp : ∀ q, q < p.length → RightP s.length (p.getD q default)) : totF s p p.length ≤ onT s p p.length := (ahead hs hp p.length (Nat.le_refl _)).1
theorem near_num (hs : Good' s) (hp : ∀ q, q < p.length → RightP s.length (p.getD q default)) {k : Nat} : ∀ m, k < m → m ≤ p.length → (near s p m).2.1.getD k 0 = bestN (near s p k).1 p (near s p k).2.1 p.length
 | 0, h, _ => by omega
 | m + 1, h, hm => by
  have hn := (near_ok hs hp m (by omega)).num
  by_cases e : k = m
  ·subst e
   show ((near s p k).2.1 ++ [_]).getD k 0 = _
   rw [List.getD_eq_getElem?_getD, List.getElem?_append_right (by omega), hn, Nat.sub_self]
   rfl
  ·show ((near s p m).2.1 ++ [_]).getD k 0 = _
   rw [List.getD_eq_getElem?_getD, List.getElem?_append_left (by omega), ← List.getD_eq_getElem?_getD]
   exact near_num hs hp m (by omega) (by omega)
theorem near_on (hs : Good' s) (hp : ∀ q, q < p.length → RightP s.length (p.getD q default)) : ∀ k, k ≤ p.length → (near s p k).1 = onS s (pickP p (near s p p.length).2.1) k ∧ (near s p k).2.2 = onT s (pickP p (near s p p.length).2.1) k
 | 0, _ => ⟨rfl, rfl⟩
 | k + 1, hk => by
  obtain ⟨h1, h2⟩ := near_on hs hp k (by omega)
  have hn := (near_ok hs hp p.length (Nat.le_refl _)).num
  have e : (pickP p (near s p p.length).2.1).getD k default = p.getD (bestN (near s p k).1 p (near s p k).2.1 p.length).toNat default := by
   rw [pickP_get (by omega), near_num hs hp p.length (by omega) (Nat.le_refl _)]
  rw [onS, onT, e, ← h1, ← h2]
  exact ⟨rfl, rfl⟩
theorem ext_least {n : Nat} {step : BestT → List Int → BestT} {c : List Int → Int} (hc : ∀ a o, Ord n o → o.length = n → (step a o).least ≤ c o ∧ (step a o).least ≤ a.least) (d : Nat) (o : List Int) (a : BestT) (ho : Ord n o) (hd : o.length + d = n) :
  ∀ o', Ord n o' → o'.length = n → o'.take o.length = o → (ext n step d o a).least ≤ c o' :=
 (ext_hit (S := fun o' a => a.least ≤ c o') (fun a o h1 h2 => (hc a o h1 h2).1) (fun a o o' h1 h2 h3 => Int.le_trans (hc a o h1 h2).2 h3) d o a ho hd).2
theorem stepP_le (a : BestT) (o : List Int) : (stepP s p a o).least ≤ a.least := by
 unfold stepP
 split
 ·simp only; omega
 ·exact Int.le_refl _
theorem stepP_tot (a : BestT) {o : List Int} (h0 : 0 ≤ totF s (pickP p o) (pickP p o).length) : (stepP s p a o).least ≤ totF s (pickP p o) (pickP p o).length := by
 unfold stepP totalF
 by_cases h : (pickP p o).length = 0
 ·rw [if_pos h]
  split
  ·exact h0
  ·omega
 ·rw [if_neg h]
  by_cases h2 : a.least ≤ totF s (pickP p o) (pickP p o).length
  ·rw [if_pos h2, if_neg (by omega)]; exact h2
  ·rw [if_neg h2, if_pos (by omega)]; exact Int.le_refl _
theorem stepP_is (a : BestT) (o : List Int) : stepP s p a o = a ∨ ((stepP s p a o).best = o ∧ (stepP s p a o).least = totF s (pickP p o) (pickP p o).length) := by
 unfold stepP
 split
 ·rename_i h
  refine .inr ⟨rfl, ?_⟩
  simp only
  unfold totalF at h ⊢
  split
  ·rename_i h0; rw [h0]; rfl
  ·rename_i h0
   rw [if_neg h0] at h
   split
   ·rename_i h2; rw [if_pos h2] at h; omega
   ·rfl
 ·exact .inl rfl
theorem pick_id (p : List (List ByteArray)) : pickP p (idO p.length) = p := by
 apply List.ext_getElem (by simp [pickP, idO])
 intro i h1 h2
 simp [pickP, idO, h2]
theorem best_facts (hf : setsF s p = 0) (h8 : p.length ≤ 8) : Ord p.length (bestP s p).best ∧ (bestP s p).best.length = p.length ∧ (bestP s p).least = totF s (pickP p (bestP s p).best) (pickP p (bestP s p).best).length ∧
  (bestP s p).least ≤ totF s p p.length ∧ (bestP s p).least ≤ (near s p p.length).2.2 := by
 have hg := (setsF_zero hf).2.1
 have hp := (setsF_zero hf).2.2.2.1
 have hle := ext_least (n := p.length) (step := stepP s p) (c := fun o => totF s (pickP p o) (pickP p o).length) (fun a o ho hl => ⟨stepP_tot a (totF_in hg.len (pickP_right hp ho) _ (Nat.le_refl _)).1, stepP_le a o⟩) p.length [] ⟨[], 20001⟩ (Ord.nil _) (by simp)
 have hall : ∀ o', Ord p.length o' → o'.length = p.length → (bestP s p).least ≤ totF s (pickP p o') (pickP p o').length := fun o' h1 h2 => hle o' h1 h2 rfl
 have hid := hall (idO p.length) (idO_ord _) (idO_len _)
 rw [pick_id] at hid
 have hnk := near_ok hg hp p.length (Nat.le_refl _)
 have hne := hall (near s p p.length).2.1 hnk.ord hnk.num
 have hln : (pickP p (near s p p.length).2.1).length = p.length := by rw [pickP_len, hnk.num]
 have hon := tot_least (p := pickP p (near s p p.length).2.1) hg (pickP_right hp hnk.ord)
 have hn2 := (near_on hg hp p.length (Nat.le_refl _)).2
 rw [hln] at hne hon
 have hinv := ext_inv (n := p.length) (step := stepP s p) (I := fun a => a.least = 20001 ∨ (Ord p.length a.best ∧ a.best.length = p.length ∧ a.least = totF s (pickP p a.best) (pickP p a.best).length)) (fun a o ho hl h => by
  rcases stepP_is (s := s) (p := p) a o with h1 | ⟨h1, h2⟩
  ·rw [h1]; exact h
  ·rw [h2, h1]; exact .inr ⟨ho, hl, rfl⟩) p.length [] ⟨[], 20001⟩ (Ord.nil _) (by simp) (.inl rfl)
 have hti := totF_in hg.len hp p.length (Nat.le_refl _)
 rcases hinv with h1 | ⟨h1, h2, h3⟩
 ·exfalso
  have : (bestP s p).least = 20001 := h1
  omega
 ·exact ⟨h1, h2, h3, hid, by omega⟩
end
def newI (a acc R : List ByteArray) : Nat → List ByteArray
 | 0 => acc
 | q + 1 => if has a (R.getD q ByteArray.empty) = true ∨ has (newI a acc R q) (R.getD q ByteArray.empty) = true then newI a acc R q else newI a acc R q ++ [R.getD q ByteArray.empty]
theorem newI_in {a acc R : List ByteArray} {q : Nat} (h : has a (R.getD q ByteArray.empty) = true ∨ has (newI a acc R q) (R.getD q ByteArray.empty) = true) : newI a acc R (q + 1) = newI a acc R q := by rw [newI, if_pos h]
theorem newI_out {a acc R : List ByteArray} {q : Nat} (h : has a (R.getD q ByteArray.empty) = false) (h2 : has (newI a acc R q) (R.getD q ByteArray.empty) = false) : newI a acc R (q + 1) = newI a acc R q ++ [R.getD q ByteArray.empty] := by rw [newI, if_neg (by rw [h, h2]; simp)]
def newL (a : List ByteArray) (p : List (List ByteArray)) : Nat → List ByteArray
 | 0 => []
 | q + 1 => newI a (newL a p q) (p.getD q default) (p.getD q default).length
theorem newI_len (a acc R : List ByteArray) : ∀ q, (newI a acc R q).length ≤ acc.length + q
 | 0 => Nat.le_refl _
 | q + 1 => by have := newI_len a acc R q; rw [newI]; split <;> simp <;> omega
theorem newI_old {a acc R : List ByteArray} {x : ByteArray} (h : x ∈ acc) : ∀ q, x ∈ newI a acc R q
 | 0 => h
 | q + 1 => by
  have := newI_old (a := a) (R := R) h q
  rw [newI]; split
  ·exact this
  ·exact List.mem_append.2 (.inl this)
theorem newI_all {a acc R : List ByteArray} : ∀ q, ∀ j, j < q → R.getD j ByteArray.empty ∈ a ∨ R.getD j ByteArray.empty ∈ newI a acc R q
 | 0, j, h => by omega
 | q + 1, j, h => by
  rw [newI]
  by_cases e : j = q
  ·subst e
   split
   ·rename_i h1
    rcases h1 with h1 | h1
    ·exact .inl (has_iff.1 h1)
    ·exact .inr (has_iff.1 h1)
   ·exact .inr (by simp)
  ·rcases newI_all (a := a) (acc := acc) (R := R) q j (by omega) with h1 | h1
   ·exact .inl h1
   ·refine .inr ?_
    split
    ·exact h1
    ·exact List.mem_append.2 (.inl h1)
theorem newI_miss {a acc R S : List ByteArray} (hS : ∀ x ∈ S, x ∈ a ∨ x ∈ acc ∨ x = ε) (hR : ∀ x ∈ R, x ≠ ε) : ∀ q, q ≤ R.length → (newI a acc R q).length ≤ acc.length + (missF S (R.take q)).length
 | 0, _ => by simp [newI]
 | q + 1, hq => by
  have ih := newI_miss hS hR q (by omega)
  have hm : (missF S (R.take q)).length ≤ (missF S (R.take (q + 1))).length := by
   rw [take_succ_getD (d := ByteArray.empty) (by omega), missF, missF, List.filter_append, List.length_append]; omega
  rw [newI]
  split
  ·omega
  ·rename_i h
   have hx : R.getD q ByteArray.empty ∉ S := fun hc => by
    rcases hS _ hc with h1 | h1 | h1
    ·exact h (.inl (has_iff.2 h1))
    ·exact h (.inr (has_iff.2 (newI_old h1 q)))
    ·exact hR _ (by simp [show q < R.length by omega]) h1
   rw [missF_yes (by omega) (has_not.2 hx), List.length_append, List.length_append]
   simp only [List.length_singleton]
   omega
theorem new_tot {s : List ByteArray} {p : List (List ByteArray)} (hs : Good' s) (hp : ∀ q, q < p.length → RightP s.length (p.getD q default)) : ∀ q, q ≤ p.length → ((newL s p q).length : Int) ≤ totF s p q ∧ ∀ x ∈ stF s p q, x ∈ s ∨ x ∈ newL s p q ∨ x = ε
 | 0, _ => ⟨Int.le_refl _, fun x hx => .inl hx⟩
 | q + 1, hq => by
  obtain ⟨h1, h2⟩ := new_tot hs hp q (by omega)
  have hR := hp q (by omega)
  have hk : ∀ x ∈ p.getD q default, x ≠ ε := fun x hx e => by have := hR.keys x hx; rw [e] at this; exact absurd this.1 (by decide)
  have := newI_miss (a := s) (acc := newL s p q) (R := p.getD q default) (S := stF s p q) h2 hk _ (Nat.le_refl _)
  rw [List.take_length] at this
  refine ⟨by rw [newL, totF]; omega, fun x hx => ?_⟩
  rcases nextL_mem _ _ _ hx with h3 | h3
  ·rcases h2 x h3 with h4 | h4 | h4
   ·exact .inl h4
   ·exact .inr (.inl (newI_old h4 _))
   ·exact .inr (.inr h4)
  ·obtain ⟨j, hj, rfl⟩ := getD_mem (missF_mem.1 h3).1
   rcases newI_all (a := s) (acc := newL s p q) (R := p.getD q default) _ j hj with h4 | h4
   ·exact .inl h4
   ·exact .inr (.inl h4)
end Go.Proofs.YtplphabekhaoaaaGreatDoor
namespace Go.Proofs.YtplphabekhaoaaaGreatDoor
open Go.RowKit
set_option linter.unusedVariables false
set_option linter.unusedSimpArgs false
theorem totE_ok {a : List ByteArray} {p : List (List ByteArray)} (h : setsF a p = 0) : totE a p = totF a p p.length := by rw [totE, if_pos h]
theorem sets_pick {a : List ByteArray} {p : List (List ByteArray)} {o : List Int} (h : setsF a p = 0) (ho : Ord p.length o) (hl : o.length = p.length) : setsF a (pickP p o) = 0 := by
 obtain ⟨z1, z2, z3, z4, z5⟩ := setsF_zero h
 obtain ⟨k1, k2, k3⟩ := partsF_zero z5
 rw [setsF, if_neg (by omega)]
 refine partsF_ok k1 (by rw [pickP_len]; omega) fun j hj => ?_
 rw [pickP_len] at hj
 rw [pickP_get hj]
 have := ho.lt (o.getD j 0) (by simp [hj])
 exact k3 _ (by omega)
set_option maxRecDepth 100000 in
set_option maxHeartbeats 40000000 in
theorem totalsAreLeast_any (a0 : Option Addr) (cap0 : Nat) (L : List Int) (w : World) (hin : Inp w a0 L) :
  Calls Tryz.prog 10 #[.slice a0 L.length cap0] w fun e w' => e = .returned (.bool true) ∧ Chg NoB w w' := by
 refine law_calls Tryz.func10 rfl Tryz.ntmps10 (Nle rfl) Tryz.results10 ?_
 have hB := B0.ok w (fun _ => True) 168
 have hnew : True := trivial
 refine VC.sr ?_
 refine VO.ma rfl rfl rfl rfl ?_
 refine VO.nil ?_
 refine VC.sr ?_
 refine VO.mv rfl rfl rfl rfl ?_
 refine VO.val rfl rfl (OpV.build (pls := #[(0, 1), (1, 1)]) rfl Tryz.zeroValue25 Tryz.underlying25 (fun w => by kernel_rfl) rfl rfl) ?_
 refine VO.op rfl (OpE.box rfl hB rfl rfl rfl ?_)
 intro g
 refine VO.ma rfl rfl rfl rfl ?_
 refine VO.nil ?_
 refine VC.stream (i := 0) (sl := [(3, sp g)]) (by exact rfl) (by exact rfl) hin (by exact ⟨rfl, trivial⟩) (fun p hp => by simp at hp; subst hp; exact ⟨_, rfl⟩) (fun w1 hge hB => ?_)
 refine VC.sr ?_
 refine VO.mv rfl rfl rfl rfl ?_
 refine VO.op rfl (OpE.callT' (0) rfl rfl hB rfl Tryz.call49 rfl ((range_T (by omega) (by omega) (by omega))) (by omega) ?_)
 rintro _ ⟨r27, hr27, rfl⟩
 obtain ⟨n, rfl⟩ : ∃ n : Nat, r27 = n := ⟨r27.toNat, by omega⟩
 refine VO.ma rfl rfl rfl rfl ?_
 refine VO.nil ?_
 refine VC.sr ?_
 refine VO.mv rfl rfl rfl rfl ?_
 refine VO.mv rfl rfl rfl rfl ?_
 refine VO.op rfl (OpE.callT' (0 + 1) rfl rfl hB rfl Tryz.call72 rfl (aSetup_T (n := n) (by omega)) (by omega) ?_)
 rintro _ ⟨a, ha, rfl⟩
 refine VO.mv rfl rfl rfl rfl ?_
 refine VO.mv rfl rfl rfl rfl ?_
 refine VO.op rfl (OpE.callT' (0 + 1 + 30) rfl rfl hB rfl Tryz.call58 rfl (partLists_M (by omega) (by decide)) (by omega) ?_)
 rintro _ ⟨p, hp, rfl⟩
 refine VO.ma rfl rfl rfl rfl ?_
 refine VO.ma rfl rfl rfl rfl ?_
 refine VO.nil ?_
 refine VC.seq ?_
 refine VC.seq ?_
 have has := ha.sms (by decide)
 have hps := hp.1.smss
 have hls := has.1
 have hal := ha.1
 have hpl := hp.1.1
 have hp5 := hp.2
 refine VC.region ?_
 refine VO.mv rfl rfl rfl rfl ?_
 refine VO.op rfl (OpE.call rfl hB rfl Tryz.call73 rfl (SpecN.spec (rf_SetupFault has)) ?_)
 rintro _ rfl
 refine VO.val rfl rfl (OpV.neq rfl rfl rfl) ?_
 refine VO.mv rfl rfl rfl rfl ?_
 refine VO.opG rfl rfl rfl rfl (fun aK1b => ?_) (fun aK1b => ?_)
 ·replace aK1b : _ = false := aK1b
  have aK1 := aK1b
  try simp only [qqT, qqF, qqN, qqM, qqL, qqE] at aK1
  refine OpE.val (W := NoB) (OpV.move (.inl rfl) rfl) rfl ?_
  refine VO.opY rfl rfl rfl rfl aK1b ?_
  refine OpE.val (W := NoB) (OpV.len_im rfl Tryz.underlying94 rfl) rfl ?_
  refine VO.opY rfl rfl rfl rfl aK1b ?_
  refine OpE.val (W := NoB) (OpV.move (.inl rfl) rfl) rfl ?_
  refine VO.opY rfl rfl rfl rfl aK1b ?_
  refine OpE.val (W := NoB) (OpV.neq rfl rfl rfl) rfl ?_
  refine VO.val rfl rfl (OpV.pickF rfl rfl rfl rfl aK1b) ?_
  refine VO.mv rfl rfl rfl rfl ?_
  refine VO.opG rfl rfl rfl rfl (fun aK2b => ?_) (fun aK2b => ?_)
  ·replace aK2b : _ = false := aK2b
   have aK2 := aK2b
   try simp only [qqT, qqF, qqN, qqM, qqL, qqE] at aK2
   refine OpE.val (W := NoB) (OpV.move (.inl rfl) rfl) rfl ?_
   refine VO.opY rfl rfl rfl rfl aK2b ?_
   refine OpE.val (W := NoB) (OpV.move (.inl rfl) rfl) rfl ?_
   refine VO.opY rfl rfl rfl rfl aK2b ?_
   refine OpE.call rfl hB rfl Tryz.call59 rfl (SpecN.spec (rf_PartsFault hps)) ?_
   rintro _ rfl
   refine VO.opY rfl rfl rfl rfl aK2b ?_
   refine OpE.val (W := NoB) (OpV.neq rfl rfl rfl) rfl ?_
   refine VO.val rfl rfl (OpV.pickF rfl rfl rfl rfl aK2b) ?_
   refine VO.nil ?_
   refine VC.cond rfl (fun aH3b => ?_) (fun aH3b => ?_)
   ·have aH3 := aH3b
    try simp only [qqT, qqF, qqN, qqM, qqL, qqE] at aH3
    refine VC.sr ?_
    refine VO.op rfl (OpE.call rfl hB rfl Tryz.call51 rfl (SpecN.spec (rk_ready)) ?_)
    rintro _ rfl
    refine VO.ma rfl rfl rfl rfl ?_
    refine VO.nil ?_
    refine VC.ret ?_
    exact And.intro rfl rfl
   ·have aH3 := aH3b
    try simp only [qqT, qqF, qqN, qqM, qqL, qqE] at aH3
    refine VC.skip ?_
    refine VC.seq ?_
    have hnn : a.length = n := by omega
    have hset : setsF a p = 0 := by rw [setsF, if_neg (by omega), hnn]; omega
    obtain ⟨z1, z2, z3, z4, z5⟩ := setsF_zero hset
    obtain ⟨b1, b2, b3, b4, b5⟩ := best_facts hset (by omega)
    have hbE : bestE a p = 0 := by rw [bestE, if_neg (by omega), if_neg (by omega)]
    have hBs := setup_Best has hps
    rw [bestL, if_pos hbE, bestK, if_pos hbE, hbE] at hBs
    have hNr := setup_Nearest has hps
    rw [nearLo, if_pos hset, nearK, if_pos hset, hset] at hNr
    have hTo := setup_Total has hps
    rw [totE_ok hset, hset] at hTo
    have hnn2 := (near_ok z2 z4 p.length (Nat.le_refl _)).num
    generalize (bestP a p).best = o at *
    generalize (bestP a p).least = k at *
    generalize (near a p p.length).2.1 = q2 at *
    generalize (near a p p.length).2.2 = m at *
    have hti := totF_in z2.len z4 p.length (Nat.le_refl _)
    have hPl : (pickP p o).length = p.length := by rw [pickP_len, b2]
    have hPs : SmSS (pickP p o) := pickP_sm hps (by omega)
    have hPr := pickP_right z4 b1
    have hAg := setup_Total has hPs
    rw [totE_ok (sets_pick hset b1 b2), sets_pick hset b1 b2] at hAg
    have hnw := new_tot z2 hPr (pickP p o).length (Nat.le_refl _)
    have hnw1 : ((newL a (pickP p o) o.length).length : Int) ≤ totF a (pickP p o) (pickP p o).length := by rw [show o.length = (pickP p o).length from (pickP_len p o).symm]; exact hnw.1
    clear hnw
    refine VC.region ?_
    refine VO.mv rfl rfl rfl rfl ?_
    refine VO.mv rfl rfl rfl rfl ?_
    refine VO.op rfl (OpE.callH (hp := []) (rest := _) rfl hB rfl Tryz.call74 rfl rfl (hBs) (List.Perm.refl _) (fun _ h => by obtain ⟨e, he, _⟩ := h; cases he) ?_)
    rintro _ _ ⟨u53, rfl, rfl⟩
    refine VO.mv rfl rfl rfl rfl ?_
    refine VO.val rfl rfl (OpV.extract rfl rfl rfl) ?_
    refine VO.le _ (Le.rowI (t := 54) (i := 0) hB hnew rfl rfl (by first | rfl | simp)) ?_
    refine VO.val rfl rfl (OpV.extract rfl rfl rfl) ?_
    refine VO.val rfl rfl (OpV.extract rfl rfl rfl) ?_
    refine VO.ma rfl rfl rfl rfl ?_
    refine VO.ma rfl rfl rfl rfl ?_
    refine VO.ma rfl rfl rfl rfl ?_
    refine VO.nil ?_
    refine VC.sr ?_
    refine VO.mv rfl rfl rfl rfl ?_
    refine VO.mv rfl rfl rfl rfl ?_
    refine VO.op rfl (OpE.callH (hp := []) (rest := _) rfl hB rfl Tryz.call75 rfl rfl (hNr) (List.Perm.refl _) (fun _ h => by obtain ⟨e, he, _⟩ := h; cases he) ?_)
    rintro _ _ ⟨u60, rfl, rfl⟩
    refine VO.mv rfl rfl rfl rfl ?_
    refine VO.val rfl rfl (OpV.extract rfl rfl rfl) ?_
    refine VO.le _ (Le.rowI (t := 61) (i := 0) hB hnew rfl rfl (by first | rfl | simp)) ?_
    refine VO.val rfl rfl (OpV.extract rfl rfl rfl) ?_
    refine VO.val rfl rfl (OpV.extract rfl rfl rfl) ?_
    refine VO.ma rfl rfl rfl rfl ?_
    refine VO.ma rfl rfl rfl rfl ?_
    refine VO.ma rfl rfl rfl rfl ?_
    refine VO.nil ?_
    refine VC.sr ?_
    refine VO.mv rfl rfl rfl rfl ?_
    refine VO.mv rfl rfl rfl rfl ?_
    refine VO.op rfl (OpE.call rfl hB rfl Tryz.call76 rfl (SpecN.spec (hTo)) ?_)
    rintro _ rfl
    refine VO.mv rfl rfl rfl rfl ?_
    refine VO.val rfl rfl (OpV.extract rfl rfl rfl) ?_
    refine VO.val rfl rfl (OpV.extract rfl rfl rfl) ?_
    refine VO.ma rfl rfl rfl rfl ?_
    refine VO.ma rfl rfl rfl rfl ?_
    refine VO.nil ?_
    refine VC.seq ?_
    refine VC.sr ?_
    refine VO.mv rfl rfl rfl rfl ?_
    refine VO.mv rfl rfl rfl rfl ?_
    refine VO.mv rfl rfl rfl rfl ?_
    refine VO.op rfl (OpE.buildSlice (zc := #[.int .i64 0, .int .i64 0, .int .i64 0]) rfl hB rfl Tryz.underlying130 Tryz.sizeOf38 Tryz.zeroValue38 (by decide) (by decide) (by kernel_rfl) rfl rfl ?_)
    refine VO.le _ (Le.lits (t := 73) (xs := [0, 0, 0]) rfl rfl) ?_
    refine VO.op rfl (OpE.call rfl hB rfl Tryz.call56 rfl (SpecN.spec (rk_errs (by simp))) ?_)
    rintro _ rfl
    refine VO.val rfl rfl (OpV.neq rfl rfl rfl) ?_
    refine VO.le _ (Le.boolF (t := 75) rfl rfl) ?_
    refine VO.mv rfl rfl rfl rfl ?_
    refine VO.opY rfl rfl rfl rfl rfl ?_
    refine OpE.val (W := NoB) (OpV.move (.inl rfl) rfl) rfl ?_
    refine VO.opY rfl rfl rfl rfl rfl ?_
    refine OpE.val (W := NoB) (OpV.move (.inl rfl) rfl) rfl ?_
    refine VO.opY rfl rfl rfl rfl rfl ?_
    refine OpE.val (W := NoB) (OpV.gtr rfl rfl rfl) rfl ?_
    refine VO.le _ (Le.boolF (t := 79) rfl (decide_eq_false (by omega))) ?_
    refine VO.val rfl rfl (OpV.pickF rfl rfl rfl rfl rfl) ?_
    refine VO.mv rfl rfl rfl rfl ?_
    refine VO.opY rfl rfl rfl rfl rfl ?_
    refine OpE.val (W := NoB) (OpV.move (.inl rfl) rfl) rfl ?_
    refine VO.opY rfl rfl rfl rfl rfl ?_
    refine OpE.val (W := NoB) (OpV.move (.inl rfl) rfl) rfl ?_
    refine VO.opY rfl rfl rfl rfl rfl ?_
    refine OpE.val (W := NoB) (OpV.gtr rfl rfl rfl) rfl ?_
    refine VO.le _ (Le.boolF (t := 84) rfl (decide_eq_false (by omega))) ?_
    refine VO.val rfl rfl (OpV.pickF rfl rfl rfl rfl rfl) ?_
    refine VO.mv rfl rfl rfl rfl ?_
    refine VO.opY rfl rfl rfl rfl rfl ?_
    refine OpE.val (W := NoB) (OpV.move (.inl rfl) rfl) rfl ?_
    refine VO.opY rfl rfl rfl rfl rfl ?_
    refine OpE.val (W := NoB) (OpV.len_im rfl Tryz.underlying22 rfl) rfl ?_
    refine VO.opY rfl rfl rfl rfl rfl ?_
    refine OpE.val (W := NoB) (OpV.move (.inl rfl) rfl) rfl ?_
    refine VO.opY rfl rfl rfl rfl rfl ?_
    refine OpE.val (W := NoB) (OpV.len_im rfl Tryz.underlying91 rfl) rfl ?_
    refine VO.opY rfl rfl rfl rfl rfl ?_
    refine OpE.val (W := NoB) (OpV.neq rfl rfl rfl) rfl ?_
    refine VO.le _ (Le.boolF (t := 91) rfl (by simp [b2])) ?_
    refine VO.val rfl rfl (OpV.pickF rfl rfl rfl rfl rfl) ?_
    refine VO.mv rfl rfl rfl rfl ?_
    refine VO.opY rfl rfl rfl rfl rfl ?_
    refine OpE.val (W := NoB) (OpV.move (.inl rfl) rfl) rfl ?_
    refine VO.opY rfl rfl rfl rfl rfl ?_
    refine OpE.val (W := NoB) (OpV.len_im rfl Tryz.underlying22 rfl) rfl ?_
    refine VO.opY rfl rfl rfl rfl rfl ?_
    refine OpE.val (W := NoB) (OpV.move (.inl rfl) rfl) rfl ?_
    refine VO.opY rfl rfl rfl rfl rfl ?_
    refine OpE.val (W := NoB) (OpV.len_im rfl Tryz.underlying91 rfl) rfl ?_
    refine VO.opY rfl rfl rfl rfl rfl ?_
    refine OpE.val (W := NoB) (OpV.neq rfl rfl rfl) rfl ?_
    refine VO.le _ (Le.boolF (t := 98) rfl (by simp [hnn2])) ?_
    refine VO.val rfl rfl (OpV.pickF rfl rfl rfl rfl rfl) ?_
    refine VO.nil ?_
    refine VC.condF rfl rfl ?_
    refine VC.skip ?_
    refine VC.sr ?_
    refine VO.ma rfl rfl rfl rfl ?_
    refine VO.nil ?_
    refine VC.sr ?_
    refine VO.ma rfl rfl rfl rfl ?_
    refine VO.nil ?_
    refine VC.seq ?_
    refine VC.sr ?_
    refine VO.mv rfl rfl rfl rfl ?_
    refine VO.val rfl rfl (OpV.len_im rfl Tryz.underlying22 rfl) ?_
    refine VO.mv rfl rfl rfl rfl ?_
    refine VO.nil ?_
    refine VC.block ?_
    refine VC.le _ (Le.nilRow 1 94) ?_
    refine VC.le _ (Le.nilRow 1 9) ?_
    refine VC.loopK [(5, _), (6, _), (8, _), (100, _), (101, _)] ⟨rfl, rfl, rfl, rfl, rfl, trivial⟩ ({z : (Value × Value) × Nat // z.2 ≤ o.length}) (fun (iZ : {z : (Value × Value) × Nat // z.2 ≤ o.length}) => match iZ with | ⟨⟨⟨uo, un⟩, q⟩, hq⟩ => [(15, .v uo), (16, .v un), (102, avI (q : Int))]) (fun (iZ : {z : (Value × Value) × Nat // z.2 ≤ o.length}) => match iZ with | ⟨⟨⟨uo, un⟩, q⟩, hq⟩ => [.row uo q 1 (listM (pickP p (o.take q))) 94, .row un (newL a (pickP p o) q).length 1 (strsL (newL a (pickP p o) q)) 9]) (fun (iZ : {z : (Value × Value) × Nat // z.2 ≤ o.length}) => match iZ with | ⟨⟨⟨uo, un⟩, q⟩, hq⟩ => 100000) (fun (iZ : {z : (Value × Value) × Nat // z.2 ≤ o.length}) => match iZ with | ⟨⟨⟨uo, un⟩, q⟩, hq⟩ => o.length - q) ⟨((.slice none 0 0, .slice none 0 0), 0), Nat.zero_le _⟩ (Le.mk hB [0, 1] ⟨rfl, rfl, rfl, rfl, rfl, rfl, rfl, rfl, trivial⟩ rfl rfl (Nle rfl)) ?_
    rintro ⟨⟨⟨uo, un⟩, q⟩, hq⟩
    show VC _ _ _ _ ⟨[(15, .v uo), (16, .v un), (102, avI (q : Int))] ++ [(5, _), (6, _), (8, _), (100, _), (101, _)], [.row uo q 1 (listM (pickP p (o.take q))) 94, .row un (newL a (pickP p o) q).length 1 (strsL (newL a (pickP p o) q)) 9], 100000⟩
    simp only at hq
    refine VC.sr ?_
    refine VO.val rfl rfl (OpV.lss rfl rfl rfl) ?_
    refine VO.nil ?_
    refine VC.seq ?_
    refine VC.cond rfl (fun aH4b => ?_) (fun aH4b => ?_)
    ·have aH4 := aH4b
     try simp only [qqT, qqF, qqN, qqM, qqL, qqE] at aH4
     refine VC.skip ?_
     refine VC.seq ?_
     refine VC.block ?_
     refine VC.seq ?_
     have hoq := b1.lt (o.getD q 0) (by simp [show q < o.length by omega])
     have hlq := (new_tot z2 hPr q (by omega)).1
     have htm := totF_in z2.len hPr q (by omega)
     obtain ⟨R, hR⟩ : ∃ R, p.getD (o.getD q 0).toNat default = R := ⟨_, rfl⟩
     have hPq : (pickP p o).getD q default = R := by rw [pickP_get (by omega), hR]
     have hRr : RightP a.length R := by rw [← hPq]; exact hPr q (by omega)
     have hRl := hRr.len
     refine VC.region ?_
     refine VO.val rfl rfl (OpV.indexAddr_1 rfl Tryz.underlying22 Tryz.sizeOf3 rfl rfl rfl (by omega)) ?_
     refine VO.val rfl rfl (OpV.load_at rfl hB OutW.no Tryz.isAgg3 rfl rfl) ?_
     refine VO.ma rfl rfl rfl rfl ?_
     refine VO.nil ?_
     refine VC.seq ?_
     refine VC.sr ?_
     refine VO.mv rfl rfl rfl rfl ?_
     refine VO.val rfl rfl (OpV.lss rfl rfl rfl) ?_
     refine VO.le _ (Le.boolF (t := 107) rfl (decide_eq_false (by omega))) ?_
     refine VO.mv rfl rfl rfl rfl ?_
     refine VO.opY rfl rfl rfl rfl rfl ?_
     refine OpE.val (W := NoB) (OpV.move (.inl rfl) rfl) rfl ?_
     refine VO.opY rfl rfl rfl rfl rfl ?_
     refine OpE.val (W := NoB) (OpV.move (.inl rfl) rfl) rfl ?_
     refine VO.opY rfl rfl rfl rfl rfl ?_
     refine OpE.val (W := NoB) (OpV.len_im rfl Tryz.underlying91 rfl) rfl ?_
     refine VO.opY rfl rfl rfl rfl rfl ?_
     refine OpE.val (W := NoB) (OpV.geq rfl rfl rfl) rfl ?_
     refine VO.le _ (Le.boolF (t := 112) rfl (decide_eq_false (by omega))) ?_
     refine VO.val rfl rfl (OpV.pickF rfl rfl rfl rfl rfl) ?_
     refine VO.nil ?_
     refine VC.condF rfl rfl ?_
     refine VC.skip ?_
     refine VC.sr ?_
     refine VO.mv rfl rfl rfl rfl ?_
     refine VO.mv rfl rfl rfl rfl ?_
     refine VO.mv rfl rfl rfl rfl ?_
     refine VO.val rfl rfl (OpV.indexAddr_1 rfl Tryz.underlying91 Tryz.sizeOf94 rfl rfl (Int.toNat_of_nonneg hoq.1).symm (by omega)) ?_
     refine VO.val rfl rfl (OpV.load_at rfl hB OutW.no Tryz.isAgg94 rfl rfl) ?_
     refine VO.op rfl (OpE.buildSlice (zc := #[.slice none 0 0]) rfl hB rfl Tryz.underlying91 Tryz.sizeOf94 Tryz.zeroValue94 (by decide) (by decide) (by kernel_rfl) rfl rfl ?_)
     refine VO.op rfl (OpE.append1 (i := 0) rfl hB rfl Tryz.underlying91 (infoOf Tryz.t94 1 (by kernel_rfl) rfl rfl) rfl (by decide) (by decide) rfl rfl rfl rfl ((listM_snoc _ _).trans (congrArg listM (pickP_take (by omega)))) (by omega) (fun _ _ => trivial) ?_)
     intro uo2
     refine VO.ma rfl rfl rfl rfl ?_
     refine VO.nil ?_
     refine VC.sr ?_
     refine VO.mv rfl rfl rfl rfl ?_
     refine VO.mv rfl rfl rfl rfl ?_
     refine VO.val rfl rfl (OpV.indexAddr_1 rfl Tryz.underlying91 Tryz.sizeOf94 rfl rfl (Int.toNat_of_nonneg hoq.1).symm (by omega)) ?_
     refine VO.val rfl rfl (OpV.load_at rfl hB OutW.no Tryz.isAgg94 rfl rfl) ?_
     refine VO.le _ (Le.recast (t := 124) (y := avStrs R) rfl (fun w Z u h => by rw [← hR]; exact h)) ?_
     refine VO.val rfl rfl (OpV.len_im rfl Tryz.underlying94 rfl) ?_
     refine VO.mv rfl rfl rfl rfl ?_
     refine VO.nil ?_
     refine VC.block ?_
     refine VC.loopK [(5, _), (6, _), (8, _), (15, _), (100, _), (101, _), (102, _), (124, _), (125, _)] ⟨rfl, rfl, rfl, rfl, rfl, rfl, rfl, rfl, rfl, trivial⟩ ({z : Value × Nat // z.2 ≤ R.length}) (fun (iZ : {z : Value × Nat // z.2 ≤ R.length}) => match iZ with | ⟨⟨un, r⟩, hr⟩ => [(16, .v un), (126, avI (r : Int))]) (fun (iZ : {z : Value × Nat // z.2 ≤ R.length}) => match iZ with | ⟨⟨un, r⟩, hr⟩ => [.row uo2 (q + 1) 1 (listM (pickP p (o.take (q + 1)))) 94, .row un (newI a (newL a (pickP p o) q) R r).length 1 (strsL (newI a (newL a (pickP p o) q) R r)) 9]) (fun (iZ : {z : Value × Nat // z.2 ≤ R.length}) => match iZ with | ⟨⟨un, r⟩, hr⟩ => 100000) (fun (iZ : {z : Value × Nat // z.2 ≤ R.length}) => match iZ with | ⟨⟨un, r⟩, hr⟩ => R.length - r) ⟨(un, 0), Nat.zero_le _⟩ (Le.mk hB [0, 1] ⟨rfl, rfl, rfl, rfl, rfl, rfl, rfl, rfl, rfl, rfl, rfl, trivial⟩ rfl rfl (Nle rfl)) ?_
     rintro ⟨⟨un, r⟩, hr⟩
     show VC _ _ _ _ ⟨[(16, .v un), (126, avI (r : Int))] ++ [(5, _), (6, _), (8, _), (15, _), (100, _), (101, _), (102, _), (124, _), (125, _)], [.row uo2 (q + 1) 1 (listM (pickP p (o.take (q + 1)))) 94, .row un (newI a (newL a (pickP p o) q) R r).length 1 (strsL (newI a (newL a (pickP p o) q) R r)) 9], 100000⟩
     simp only at hr
     have hnl := newI_len a (newL a (pickP p o) q) R r
     refine VC.sr ?_
     refine VO.val rfl rfl (OpV.lss rfl rfl rfl) ?_
     refine VO.nil ?_
     refine VC.seq ?_
     refine VC.cond rfl (fun aH5b => ?_) (fun aH5b => ?_)
     ·have aH5 := aH5b
      try simp only [qqT, qqF, qqN, qqM, qqL, qqE] at aH5
      refine VC.skip ?_
      refine VC.seq ?_
      refine VC.block ?_
      refine VC.sr ?_
      refine VO.val rfl rfl (OpV.indexAddr_1 rfl Tryz.underlying94 Tryz.sizeOf9 rfl rfl rfl (by omega)) ?_
      refine VO.val rfl rfl (OpV.load_at rfl hB OutW.no Tryz.isAgg9 rfl rfl) ?_
      refine VO.ma rfl rfl rfl rfl ?_
      refine VO.nil ?_
      refine VC.sr ?_
      refine VO.mv rfl rfl rfl rfl ?_
      refine VO.mv rfl rfl rfl rfl ?_
      refine VO.op rfl (OpE.call rfl hB rfl Tryz.call77 rfl (SpecN.spec (slices_Contains_str (by omega))) ?_)
      rintro _ rfl
      refine VO.val rfl rfl (OpV.not rfl rfl) ?_
      refine VO.mv rfl rfl rfl rfl ?_
      refine VO.opG rfl rfl rfl rfl (fun aK6b => ?_) (fun aK6b => ?_)
      ·replace aK6b : _ = true := aK6b
       have aK6 := aK6b
       try simp only [qqT, qqF, qqN, qqM, qqL, qqE] at aK6
       refine OpE.val (W := NoB) (OpV.move (.inl rfl) rfl) rfl ?_
       refine VO.opY rfl rfl rfl rfl aK6b ?_
       refine OpE.val (W := NoB) (OpV.move (.inl rfl) rfl) rfl ?_
       refine VO.opY rfl rfl rfl rfl aK6b ?_
       refine OpE.callL rfl hB rfl Tryz.call77 (slices_Contains_str (by omega)) (ArgsP.cons (ArgP.rowS (i := 1) rfl rfl rfl) (ArgsP.cons (ArgP.ev rfl) (ArgsP.nil))) ?_
       rintro _ rfl
       refine VO.opY rfl rfl rfl rfl aK6b ?_
       refine OpE.val (W := NoB) (OpV.not rfl rfl) rfl ?_
       refine VO.val rfl rfl (OpV.pickT rfl rfl rfl rfl aK6b) ?_
       refine VO.nil ?_
       refine VC.cond rfl (fun aH7b => ?_) (fun aH7b => ?_)
       ·have aH7 := aH7b
        try simp only [qqT, qqF, qqN, qqM, qqL, qqE] at aH7
        refine VC.region ?_
        refine VO.mv rfl rfl rfl rfl ?_
        refine VO.mv rfl rfl rfl rfl ?_
        refine VO.op rfl (OpE.buildSlice (zc := #[.string ⟨#[]⟩]) rfl hB rfl Tryz.underlying94 Tryz.sizeOf9 Tryz.zeroValue9 (by decide) (by decide) (by kernel_rfl) rfl rfl ?_)
        refine VO.op rfl (OpE.append1 (i := 1) rfl hB rfl Tryz.underlying94 (infoOf Tryz.t9 1 (by kernel_rfl) rfl rfl) rfl (by decide) (by decide) rfl rfl rfl rfl (strsL_snoc _ _) (by omega) (fun _ _ => trivial) ?_)
        intro un2
        refine VO.ma rfl rfl rfl rfl ?_
        refine VO.nil ?_
        refine VC.region ?_
        refine VO.val rfl rfl (OpV.add rfl rfl rfl (by unfold fits; omega)) ?_
        refine VO.mv rfl rfl rfl rfl ?_
        refine VO.nil ?_
        exact Exists.intro (⟨(un2, r + 1), by show r + 1 ≤ _; omega⟩) (And.intro (Le.mk hB [0, 1] ⟨rfl, rfl, rfl, rfl, rfl, rfl, rfl, rfl, rfl, rfl, rfl, trivial⟩ rfl (by dsimp only; first | (rw [newI_out (by assumption) (by assumption), List.length_append]; rfl) | (rw [newI_in (.inl (by assumption))]; rfl) | (rw [newI_in (.inr (by assumption))]; rfl)) (Nle rfl)) (by first | omega | (show _ < _; omega) | (simp only []; omega)))
       ·have aH7 := aH7b
        try simp only [qqT, qqF, qqN, qqM, qqL, qqE] at aH7
        refine VC.skip ?_
        refine VC.region ?_
        refine VO.val rfl rfl (OpV.add rfl rfl rfl (by unfold fits; omega)) ?_
        refine VO.mv rfl rfl rfl rfl ?_
        refine VO.nil ?_
        exact Exists.intro (⟨(un, r + 1), by show r + 1 ≤ _; omega⟩) (And.intro (Le.mk hB [0, 1] ⟨rfl, rfl, rfl, rfl, rfl, rfl, rfl, rfl, rfl, rfl, rfl, trivial⟩ rfl (by dsimp only; first | (rw [newI_out (by assumption) (by assumption), List.length_append]; rfl) | (rw [newI_in (.inl (by assumption))]; rfl) | (rw [newI_in (.inr (by assumption))]; rfl)) (Nle rfl)) (by first | omega | (show _ < _; omega) | (simp only []; omega)))
      ·replace aK6b : _ = false := aK6b
       have aK6 := aK6b
       try simp only [qqT, qqF, qqN, qqM, qqL, qqE] at aK6
       refine VO.opX rfl rfl rfl rfl aK6b ?_
       refine VO.opX rfl rfl rfl rfl aK6b ?_
       refine VO.opX rfl rfl rfl rfl aK6b ?_
       refine VO.val rfl rfl (OpV.pickF rfl rfl rfl rfl aK6b) ?_
       refine VO.nil ?_
       refine VC.condF rfl rfl ?_
       refine VC.skip ?_
       refine VC.region ?_
       refine VO.val rfl rfl (OpV.add rfl rfl rfl (by unfold fits; omega)) ?_
       refine VO.mv rfl rfl rfl rfl ?_
       refine VO.nil ?_
       exact Exists.intro (⟨(un, r + 1), by show r + 1 ≤ _; omega⟩) (And.intro (Le.mk hB [0, 1] ⟨rfl, rfl, rfl, rfl, rfl, rfl, rfl, rfl, rfl, rfl, rfl, trivial⟩ rfl (by dsimp only; first | (rw [newI_out (by assumption) (by assumption), List.length_append]; rfl) | (rw [newI_in (.inl (by assumption))]; rfl) | (rw [newI_in (.inr (by assumption))]; rfl)) (Nle rfl)) (by first | omega | (show _ < _; omega) | (simp only []; omega)))
     ·have aH5 := aH5b
      try simp only [qqT, qqF, qqN, qqM, qqL, qqE] at aH5
      obtain rfl : r = R.length := by omega
      have hnl1 : newI a (newL a (pickP p o) q) R R.length = newL a (pickP p o) (q + 1) := by rw [newL, hPq]
      rw [hnl1]
      refine VC.exit ?_
      refine VC.region ?_
      refine VO.val rfl rfl (OpV.add rfl rfl rfl (by unfold fits; omega)) ?_
      refine VO.mv rfl rfl rfl rfl ?_
      refine VO.nil ?_
      exact Exists.intro (⟨((uo2, un), q + 1), by show q + 1 ≤ _; omega⟩) (And.intro (Le.mk hB [0, 1] ⟨rfl, rfl, rfl, rfl, rfl, rfl, rfl, rfl, trivial⟩ rfl rfl (Nle rfl)) (by first | omega | (show _ < _; omega) | (simp only []; omega)))
    ·have aH4 := aH4b
     try simp only [qqT, qqF, qqN, qqM, qqL, qqE] at aH4
     obtain rfl : q = o.length := by omega
     rw [List.take_length]
     refine VC.exit ?_
     refine VC.sr ?_
     refine VO.mv rfl rfl rfl rfl ?_
     refine VO.mv rfl rfl rfl rfl ?_
     refine VO.op rfl (OpE.callL rfl hB rfl Tryz.call76 (hAg) (ArgsP.cons (ArgP.ev rfl) (ArgsP.cons (ArgP.rowsM (i := 0) rfl rfl (by rw [pickP_len])) (ArgsP.nil))) ?_)
     rintro _ rfl
     refine VO.mv rfl rfl rfl rfl ?_
     refine VO.val rfl rfl (OpV.extract rfl rfl rfl) ?_
     refine VO.val rfl rfl (OpV.extract rfl rfl rfl) ?_
     refine VO.ma rfl rfl rfl rfl ?_
     refine VO.ma rfl rfl rfl rfl ?_
     refine VO.nil ?_
     refine VC.sr ?_
     refine VO.mv rfl rfl rfl rfl ?_
     refine VO.val rfl rfl (OpV.eql rfl rfl rfl) ?_
     refine VO.le _ (Le.boolT (t := 153) rfl (decide_eq_true rfl)) ?_
     refine VO.mv rfl rfl rfl rfl ?_
     refine VO.opY rfl rfl rfl rfl rfl ?_
     refine OpE.val (W := NoB) (OpV.move (.inl rfl) rfl) rfl ?_
     refine VO.opY rfl rfl rfl rfl rfl ?_
     refine OpE.val (W := NoB) (OpV.move (.inl rfl) rfl) rfl ?_
     refine VO.opY rfl rfl rfl rfl rfl ?_
     refine OpE.val (W := NoB) (OpV.eql rfl rfl rfl) rfl ?_
     refine VO.le _ (Le.boolT (t := 157) rfl (decide_eq_true (by omega))) ?_
     refine VO.val rfl rfl (OpV.pickT rfl rfl rfl rfl rfl) ?_
     refine VO.mv rfl rfl rfl rfl ?_
     refine VO.opY rfl rfl rfl rfl rfl ?_
     refine OpE.val (W := NoB) (OpV.move (.inl rfl) rfl) rfl ?_
     refine VO.opY rfl rfl rfl rfl rfl ?_
     refine OpE.val (W := NoB) (OpV.move (.inl rfl) rfl) rfl ?_
     refine VO.opY rfl rfl rfl rfl rfl ?_
     refine OpE.val (W := NoB) (OpV.len_row (i := 1) rfl Tryz.underlying94 rfl rfl) rfl ?_
     refine VO.opY rfl rfl rfl rfl rfl ?_
     refine OpE.val (W := NoB) (OpV.geq rfl rfl rfl) rfl ?_
     refine VO.le _ (Le.boolT (t := 163) rfl (decide_eq_true (by omega))) ?_
     refine VO.val rfl rfl (OpV.pickT rfl rfl rfl rfl rfl) ?_
     refine VO.mv rfl rfl rfl rfl ?_
     refine VO.opY rfl rfl rfl rfl rfl ?_
     refine OpE.call rfl hB rfl Tryz.call51 rfl (SpecN.spec (rk_ready)) ?_
     rintro _ rfl
     refine VO.val rfl rfl (OpV.pickT rfl rfl rfl rfl rfl) ?_
     refine VO.ma rfl rfl rfl rfl ?_
     refine VO.nil ?_
     refine VC.ret ?_
     exact And.intro rfl rfl
  ·replace aK2b : _ = true := aK2b
   have aK2 := aK2b
   try simp only [qqT, qqF, qqN, qqM, qqL, qqE] at aK2
   refine VO.opX rfl rfl rfl rfl aK2b ?_
   refine VO.opX rfl rfl rfl rfl aK2b ?_
   refine VO.opX rfl rfl rfl rfl aK2b ?_
   refine VO.val rfl rfl (OpV.pickT rfl rfl rfl rfl aK2b) ?_
   refine VO.nil ?_
   refine VC.condT rfl rfl ?_
   refine VC.sr ?_
   refine VO.op rfl (OpE.call rfl hB rfl Tryz.call51 rfl (SpecN.spec (rk_ready)) ?_)
   rintro _ rfl
   refine VO.ma rfl rfl rfl rfl ?_
   refine VO.nil ?_
   refine VC.ret ?_
   exact And.intro rfl rfl
 ·replace aK1b : _ = true := aK1b
  have aK1 := aK1b
  try simp only [qqT, qqF, qqN, qqM, qqL, qqE] at aK1
  refine VO.opX rfl rfl rfl rfl aK1b ?_
  refine VO.opX rfl rfl rfl rfl aK1b ?_
  refine VO.opX rfl rfl rfl rfl aK1b ?_
  refine VO.val rfl rfl (OpV.pickT rfl rfl rfl rfl aK1b) ?_
  refine VO.mv rfl rfl rfl rfl ?_
  refine VO.opX rfl rfl rfl rfl rfl ?_
  refine VO.opX rfl rfl rfl rfl rfl ?_
  refine VO.opX rfl rfl rfl rfl rfl ?_
  refine VO.opX rfl rfl rfl rfl rfl ?_
  refine VO.val rfl rfl (OpV.pickT rfl rfl rfl rfl rfl) ?_
  refine VO.nil ?_
  refine VC.condT rfl rfl ?_
  refine VC.sr ?_
  refine VO.op rfl (OpE.call rfl hB rfl Tryz.call51 rfl (SpecN.spec (rk_ready)) ?_)
  rintro _ rfl
  refine VO.ma rfl rfl rfl rfl ?_
  refine VO.nil ?_
  refine VC.ret ?_
  exact And.intro rfl rfl
end Go.Proofs.YtplphabekhaoaaaGreatDoor
