/- Setups one after the other: plain facts. -/
import Derived.Test.YtpajnlcikmhpdaaDoorSetS2
namespace Go.Proofs.YtpajnlcikmhpdaaDoor
open Go.RowKit
set_option linter.unusedVariables false
set_option linter.unusedSimpArgs false

theorem missF_mem {s p : List ByteArray} {x : ByteArray} : x ∈ missF s p ↔ x ∈ p ∧ x ∉ s := by
  unfold missF
  rw [List.mem_filter]
  constructor
  · rintro ⟨h1, h2⟩; exact ⟨h1, has_not.1 (by simpa using h2)⟩
  · rintro ⟨h1, h2⟩; exact ⟨h1, by rw [has_not.2 h2]; rfl⟩
theorem missF_nodup {s p : List ByteArray} (h : p.Nodup) : (missF s p).Nodup := h.sublist List.filter_sublist
theorem missF_len (s p : List ByteArray) : (missF s p).length ≤ p.length := List.length_filter_le _ _
section
variable {parts : List ByteArray} {later : List (List ByteArray)}
theorem nextL_mem : ∀ (l s : List ByteArray) (x : ByteArray), x ∈ nextL parts later s l → x ∈ s ∨ x ∈ l
  | [], s, x, h => .inl h
  | y :: l, s, x, h => by
    rcases nextL_mem l _ x h with h1 | h1
    · rcases List.mem_or_eq_of_mem_set h1 with h2 | h2
      · exact .inl h2
      · exact .inr (by simp [h2])
    · exact .inr (by simp [h1])
theorem nextL_take_succ {s l : List ByteArray} {q : Nat} (h : q < l.length) : nextL parts later s (l.take (q + 1)) = (nextL parts later s (l.take q)).set (slotF (nextL parts later s (l.take q)) parts later).toNat (l.getD q ByteArray.empty) := by
  rw [take_succ_getD (d := ByteArray.empty) h, nextL_snoc]
theorem nextL_fits {s l : List ByteArray} (hf : Fits s parts) (hl : l.Nodup) (hs : ∀ x ∈ l, x ∉ s) : ∀ q, q ≤ l.length → Fits (nextL parts later s (l.take q)) parts
  | 0, _ => by simpa [nextL] using hf
  | q + 1, hq => by
    rw [nextL_take_succ (by omega)]
    refine (nextL_fits hf hl hs q (by omega)).set (fun hc => ?_) _
    have hx : l.getD q ByteArray.empty ∈ l := by simp [show q < l.length by omega]
    rcases nextL_mem _ _ _ hc with h1 | h1
    · exact hs _ hx h1
    · obtain ⟨j, hj, e⟩ := List.mem_iff_getElem.1 h1
      have hj' : j < q ∧ j < l.length := by simp at hj; omega
      rw [List.getElem_take] at e
      have hd := List.pairwise_iff_getElem.1 hl j q hj'.2 (by omega) hj'.1
      apply hd
      rw [e]
      simp [show q < l.length by omega]
theorem nextL_not {s l : List ByteArray} (hl : l.Nodup) (hs : ∀ x ∈ l, x ∉ s) {q : Nat} (hq : q < l.length) : l.getD q ByteArray.empty ∉ nextL parts later s (l.take q) := fun hc => by
  have hx : l.getD q ByteArray.empty ∈ l := by simp [hq]
  rcases nextL_mem _ _ _ hc with h1 | h1
  · exact hs _ hx h1
  · obtain ⟨j, hj, e⟩ := List.mem_iff_getElem.1 h1
    have hj' : j < q ∧ j < l.length := by simp at hj; omega
    rw [List.getElem_take] at e
    have hd := List.pairwise_iff_getElem.1 hl j q hj'.2 (by omega) hj'.1
    apply hd
    rw [e]
    simp [hq]
end
theorem slotF_of_neg {s parts : List ByteArray} {later : List (List ByteArray)} (h : fidx (fun x => sEq ε x) s < 0) : slotF s parts later = (vic s parts later s.length).1 := by rw [slotF, if_pos h]
theorem slotF_of_pos {s parts : List ByteArray} {later : List (List ByteArray)} (h : 0 ≤ fidx (fun x => sEq ε x) s) : slotF s parts later = fidx (fun x => sEq ε x) s := by rw [slotF, if_neg (by omega)]
/-- A key is short and is not empty. -/
theorem keyF_size {x : ByteArray} (h : keyF x = true) : 1 ≤ x.size ∧ x.size ≤ 40 := by
  unfold keyF at h
  simp only [Bool.and_eq_true, decide_eq_true_eq] at h
  exact ⟨h.1.1.1, h.1.1.2⟩
theorem canE_key {l : List ByteArray} {i : Nat} (h : canE l i = 0) : keyF (l.getD i ByteArray.empty) = true := by
  cases hk : keyF (l.getD i ByteArray.empty) with
  | true => rfl
  | false => rw [canE_5 hk] at h; cases h
theorem canE_lt {l : List ByteArray} {i : Nat} (h : canE l i = 0) (h0 : 0 < i) : sLt (l.getD (i - 1) ByteArray.empty) (l.getD i ByteArray.empty) = true := by
  have hk := canE_key h
  cases hs : sLe (l.getD i ByteArray.empty) (l.getD (i - 1) ByteArray.empty) with
  | true => rw [canE_7 hk h0 hs] at h; cases h
  | false => exact sLt_of_not hs
theorem can_sort {l : List ByteArray} (h : ∀ j, j < l.length → canE l j = 0) : SortS l := by
  intro a b hab hb
  induction b with
  | zero => omega
  | succ b ih =>
    have h1 := canE_lt (h (b + 1) hb) (by omega)
    simp only [Nat.add_sub_cancel] at h1
    by_cases e : a = b
    · subst e; exact h1
    · exact sLt_trans (ih (by omega) (by omega)) h1
theorem sort_nodup {l : List ByteArray} (h : SortS l) : l.Nodup := by
  rw [List.Nodup, List.pairwise_iff_getElem]
  intro i j hi hj hij e
  have := h i j hij hj
  simp only [List.getD_eq_getElem?_getD, List.getElem?_eq_getElem hi, List.getElem?_eq_getElem hj, Option.getD_some, e] at this
  rw [sLt_irr] at this; cases this
theorem getD_mem {l : List ByteArray} {x : ByteArray} (h : x ∈ l) : ∃ j, j < l.length ∧ l.getD j ByteArray.empty = x := by
  obtain ⟨j, hj, rfl⟩ := List.mem_iff_getElem.1 h
  exact ⟨j, hj, by simp [hj]⟩
theorem size_getD {l : List ByteArray} {m : Nat} (h : ∀ x ∈ l, x.size ≤ m) (i : Nat) : (l.getD i ByteArray.empty).size ≤ m := by
  by_cases hi : i < l.length
  · have := h _ (List.getElem_mem hi)
    simpa [hi] using this
  · simp [List.getD_eq_getElem?_getD, List.getElem?_eq_none (by omega : l.length ≤ i)]
/-- What right arguments are. -/
structure RightP (n : Nat) (l : List ByteArray) : Prop where
  len : l.length ≤ n
  can : ∀ j, j < l.length → canE l j = 0
theorem RightP.of {n : Int} {m : Nat} (hn : n = m) {p : List (List ByteArray)} (h : partsF n p = 0) {q : Nat} (hq : q < p.length) : RightP m (p.getD q default) := by
  obtain ⟨_, _, h3⟩ := partsF_zero h
  obtain ⟨k1, k2⟩ := partE_zero (h3 q hq)
  exact ⟨by omega, k2⟩
theorem RightP.nil (n : Nat) : RightP n [] := ⟨by simp, fun j hj => by simp at hj⟩
section
variable {n : Nat} {l s : List ByteArray}
theorem RightP.keys (h : RightP n l) : ∀ x ∈ l, 1 ≤ x.size ∧ x.size ≤ 40 := fun x hx => by
  obtain ⟨j, hj, rfl⟩ := getD_mem hx
  exact keyF_size (canE_key (h.can j hj))
theorem RightP.sms (h : RightP n l) (hn : n ≤ 1000000000) : SmS l := ⟨by have := h.len; omega, size_getD fun x hx => by have := h.keys x hx; omega⟩
theorem setup_once (h : setupF s = 0) : ∀ i j, i < j → j < s.length → s.getD i ByteArray.empty = s.getD j ByteArray.empty → s.getD j ByteArray.empty = ε := fun i j hij hj e => by
  have h0 := setupF_zero h j hj
  cases he : sEq (s.getD j ByteArray.empty) ε with
  | true => exact sEq_eq.1 he
  | false =>
    exfalso
    cases hk : keyF (s.getD j ByteArray.empty) with
    | false => rw [setupE_5 he hk] at h0; cases h0
    | true =>
      have hh : has (s.take j) (s.getD j ByteArray.empty) = true := by
        rw [has_iff, ← e]
        have hi : i < (s.take j).length := by simp; omega
        have : (s.take j)[i] = s.getD i ByteArray.empty := by simp [show i < s.length by omega]
        rw [← this]; exact List.getElem_mem hi
      rw [setupE_6 he hk hh] at h0; cases h0
theorem setup_size (h : setupF s = 0) : ∀ x ∈ s, x.size ≤ 40 := fun x hx => by
  obtain ⟨j, hj, rfl⟩ := getD_mem hx
  have h0 := setupF_zero h j hj
  cases he : sEq (s.getD j ByteArray.empty) ε with
  | true => rw [sEq_eq.1 he]; decide
  | false =>
    cases hk : keyF (s.getD j ByteArray.empty) with
    | false => rw [setupE_5 he hk] at h0; cases h0
    | true => exact (keyF_size hk).2
theorem RightP.fits (h : RightP s.length l) (ho : ∀ i j, i < j → j < s.length → s.getD i ByteArray.empty = s.getD j ByteArray.empty → s.getD j ByteArray.empty = ε) : Fits s l :=
  ⟨ho, h.len, fun x hx e => by have := h.keys x hx; rw [e] at this; exact absurd this.1 (by decide), sort_nodup (can_sort h.can)⟩
end
/-- A setup among the steps: no part twice, short names. -/
structure Good' (s : List ByteArray) : Prop where
  pos : 0 < s.length
  len : s.length ≤ 100
  once : ∀ i j, i < j → j < s.length → s.getD i ByteArray.empty = s.getD j ByteArray.empty → s.getD j ByteArray.empty = ε
  size : ∀ x ∈ s, x.size ≤ 40
theorem Good'.of {s : List ByteArray} (h : setupF s = 0) : Good' s := ⟨(setupF_len h).1, (setupF_len h).2, setup_once h, setup_size h⟩
theorem Good'.sms {s : List ByteArray} (h : Good' s) : SmS s := ⟨by have := h.len; omega, size_getD fun x hx => by have := h.size x hx; omega⟩
theorem Good'.next {s l : List ByteArray} (h : Good' s) (hl : RightP s.length l) (later : List (List ByteArray)) (q : Nat) (hq : q ≤ (missF s l).length) : Good' (nextL l later s ((missF s l).take q)) := by
  have hf := hl.fits h.once
  have hn := nextL_fits (later := later) hf (missF_nodup hf.pnd) (fun x hx => (missF_mem.1 hx).2) q hq
  refine ⟨by rw [nextL_len]; exact h.pos, by rw [nextL_len]; exact h.len, hn.once, fun x hx => ?_⟩
  rcases nextL_mem _ _ _ hx with h1 | h1
  · exact h.size x h1
  · exact (hl.keys x (missF_mem.1 (List.mem_of_mem_take h1)).1).2
theorem Good'.nextF {s l : List ByteArray} (h : Good' s) (hl : RightP s.length l) (later : List (List ByteArray)) : Good' (nextF s l later) := by
  have := h.next hl later (missF s l).length (Nat.le_refl _)
  rwa [List.take_length] at this
theorem nextF_len (s l : List ByteArray) (later : List (List ByteArray)) : (nextF s l later).length = s.length := nextL_len _ _ _ _
/-- The setup behind the first q products, and how many parts have been put in. -/
def stF (s : List ByteArray) (p : List (List ByteArray)) : Nat → List ByteArray
  | 0 => s
  | q + 1 => nextF (stF s p q) (p.getD q default) (p.drop (q + 1))
def totF (s : List ByteArray) (p : List (List ByteArray)) : Nat → Int
  | 0 => 0
  | q + 1 => totF s p q + (missF (stF s p q) (p.getD q default)).length
theorem stF_len (s : List ByteArray) (p : List (List ByteArray)) : ∀ q, (stF s p q).length = s.length
  | 0 => rfl
  | q + 1 => by rw [stF, nextF_len, stF_len s p q]
theorem stF_good {s : List ByteArray} {p : List (List ByteArray)} (h : Good' s) (hp : ∀ q, q < p.length → RightP s.length (p.getD q default)) : ∀ q, q ≤ p.length → Good' (stF s p q)
  | 0, _ => h
  | q + 1, hq => (stF_good h hp q (by omega)).nextF (by rw [stF_len]; exact hp q (by omega)) _
theorem totF_in {s : List ByteArray} {p : List (List ByteArray)} (hs : s.length ≤ 100) (hp : ∀ q, q < p.length → RightP s.length (p.getD q default)) : ∀ q, q ≤ p.length → 0 ≤ totF s p q ∧ totF s p q ≤ 100 * q
  | 0, _ => by simp [totF]
  | q + 1, hq => by
    have ih := totF_in hs hp q (by omega)
    have h1 := missF_len (stF s p q) (p.getD q default)
    have h2 := (hp q (by omega)).len
    rw [totF]
    omega
theorem totF_mono {s : List ByteArray} {p : List (List ByteArray)} {a b : Nat} (h : a ≤ b) : totF s p a ≤ totF s p b := by
  induction b with
  | zero => rw [show a = 0 by omega]; exact Int.le_refl _
  | succ b ih =>
    by_cases e : a = b + 1
    · rw [e]; exact Int.le_refl _
    · have := ih (by omega)
      rw [totF]; omega
def totalF (s : List ByteArray) (p : List (List ByteArray)) (most : Int) : Int := if p.length = 0 then 0 else if most ≤ totF s p p.length then most else totF s p p.length
end Go.Proofs.YtpajnlcikmhpdaaDoor
