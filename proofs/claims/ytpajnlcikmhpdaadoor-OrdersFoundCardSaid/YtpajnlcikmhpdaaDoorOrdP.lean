/- The best order and the order by the rule of thumb, as plain functions. -/
import Derived.Test.YtpajnlcikmhpdaaDoorNextQ
import Derived.Test.YtpajnlcikmhpdaaDoorOrdS
namespace Go.Proofs.YtpajnlcikmhpdaaDoor
open Go.RowKit
set_option linter.unusedVariables false
set_option linter.unusedSimpArgs false

theorem nodup_le {α : Type} [DecidableEq α] : ∀ {l m : List α}, l.Nodup → (∀ x ∈ l, x ∈ m) → l.length ≤ m.length
  | [], m, _, _ => Nat.zero_le _
  | x :: r, m, h, hs => by
    have hx := hs x (by simp)
    have := nodup_le (l := r) (m := m.erase x) (List.nodup_cons.1 h).2 (fun y hy => (List.mem_erase_of_ne (fun e => by subst e; exact (List.nodup_cons.1 h).1 hy)).2 (hs y (by simp [hy])))
    rw [List.length_erase_of_mem hx] at this
    have : 0 < m.length := List.length_pos_of_mem hx
    simp; omega
/-- Something is left. -/
theorem Ord.more {n : Nat} {o : List Int} (h : o.length < n) : ∃ i : Nat, i < n ∧ (i : Int) ∉ o := by
  by_cases hc : ∃ i : Nat, i < n ∧ (i : Int) ∉ o
  · exact hc
  · exfalso
    have := nodup_le (l := (List.range n).map (fun (i : Nat) => (i : Int))) (m := o) (by
      rw [List.Nodup, List.pairwise_map]
      exact List.Pairwise.imp (fun h e => h (by omega)) List.nodup_range) (fun x hx => by
      obtain ⟨i, hi, rfl⟩ := List.mem_map.1 hx
      have hi := List.mem_range.1 hi
      by_cases hm : (i : Int) ∈ o
      · exact hm
      · exact absurd ⟨i, hi, hm⟩ hc)
    simp at this
    omega
structure BestT where
  best : List Int
  least : Int
def pickP (p : List (List ByteArray)) (o : List Int) : List (List ByteArray) := o.map fun i => p.getD i.toNat default
theorem pickP_len (p : List (List ByteArray)) (o : List Int) : (pickP p o).length = o.length := by simp [pickP]
theorem pickP_get {p : List (List ByteArray)} {o : List Int} {q : Nat} (h : q < o.length) : (pickP p o).getD q default = p.getD (o.getD q 0).toNat default := by simp [pickP, h]
def stepP (s : List ByteArray) (p : List (List ByteArray)) (a : BestT) (o : List Int) : BestT := if totalF s (pickP p o) a.least < a.least then ⟨o, totalF s (pickP p o) a.least⟩ else a
def stepR (s : List ByteArray) (p : List (List ByteArray)) (a : BestT) (o : List Int) : BestT := if a.least < 0 ∨ totF s (pickP p o) (pickP p o).length < a.least then ⟨o, totF s (pickP p o) (pickP p o).length⟩ else a
def bestP (s : List ByteArray) (p : List (List ByteArray)) : BestT := ext p.length (stepP s p) p.length [] ⟨[], 20001⟩
def bestR (s : List ByteArray) (p : List (List ByteArray)) : BestT := ext p.length (stepR s p) p.length [] ⟨[], -1⟩
theorem pickP_right {s : List ByteArray} {p : List (List ByteArray)} (hp : ∀ q, q < p.length → RightP s.length (p.getD q default)) {o : List Int} (ho : Ord p.length o) : ∀ q, q < (pickP p o).length → RightP s.length ((pickP p o).getD q default) := fun q hq => by
  rw [pickP_len] at hq
  rw [pickP_get hq]
  have := ho.lt (o.getD q 0) (by simp [hq])
  exact hp _ (by omega)
section
variable {s : List ByteArray} {p : List (List ByteArray)}
/-- Both keep the same. -/
def Rel (a b : BestT) : Prop := a = b ∧ 0 ≤ a.least ∧ a.least ≤ 20001
def Rel0 (a b : BestT) : Prop := a = ⟨[], 20001⟩ ∧ b = ⟨[], -1⟩
theorem step_hit (hs : s.length ≤ 100) (hl : p.length ≤ 8) (hp : ∀ q, q < p.length → RightP s.length (p.getD q default)) {o : List Int} (ho : Ord p.length o) (hol : o.length ≤ p.length) {a b : BestT} (h : Rel a b ∨ Rel0 a b) : Rel (stepP s p a o) (stepR s p b o) := by
  have hpl := pickP_len p o
  have hti := totF_in hs (pickP_right hp ho) (pickP p o).length (Nat.le_refl _)
  have hT : ∀ m : Int, 0 < m → (totalF s (pickP p o) m < m ↔ totF s (pickP p o) (pickP p o).length < m) ∧ (totF s (pickP p o) (pickP p o).length < m → totalF s (pickP p o) m = totF s (pickP p o) (pickP p o).length) := fun m hm => by
    unfold totalF
    split
    · rename_i h0; rw [h0]; simp [totF]
    · split <;> omega
  rcases h with ⟨rfl, h1, h2⟩ | ⟨rfl, rfl⟩
  · unfold stepP stepR
    by_cases h0 : a.least = 0
    · rw [if_neg (by rw [h0]; unfold totalF; split; omega; split <;> omega), if_neg (by omega)]
      exact ⟨rfl, h1, h2⟩
    · obtain ⟨k1, k2⟩ := hT a.least (by omega)
      by_cases hc : totF s (pickP p o) (pickP p o).length < a.least
      · rw [if_pos (k1.2 hc), if_pos (.inr hc), k2 hc]
        exact ⟨rfl, hti.1, by show totF _ _ _ ≤ _; omega⟩
      · rw [if_neg (fun h => hc (k1.1 h)), if_neg (by omega)]
        exact ⟨rfl, h1, h2⟩
  · obtain ⟨k1, k2⟩ := hT 20001 (by decide)
    have hc : totF s (pickP p o) (pickP p o).length < 20001 := by omega
    unfold stepP stepR
    rw [if_pos (k1.2 hc), if_pos (.inl (by decide)), k2 hc]
    exact ⟨rfl, hti.1, by show totF _ _ _ ≤ _; omega⟩
theorem ext_hits (hs : s.length ≤ 100) (hl : p.length ≤ 8) (hp : ∀ q, q < p.length → RightP s.length (p.getD q default)) : ∀ (d : Nat) (o : List Int) (a b : BestT), Ord p.length o → o.length + d = p.length → Rel a b ∨ Rel0 a b →
    Rel (ext p.length (stepP s p) d o a) (ext p.length (stepR s p) d o b)
  | 0, o, a, b, ho, hd, h => step_hit hs hl hp ho (by omega) h
  | d + 1, o, a, b, ho, hd, h => by
    have key : ∀ q : Nat, q ≤ p.length → (Rel (extQ p.length (stepP s p) d o a q) (extQ p.length (stepR s p) d o b q) ∨ Rel0 (extQ p.length (stepP s p) d o a q) (extQ p.length (stepR s p) d o b q)) ∧
        ((∃ i : Nat, i < q ∧ (i : Int) ∉ o) → Rel (extQ p.length (stepP s p) d o a q) (extQ p.length (stepR s p) d o b q)) := by
      intro q
      induction q with
      | zero => exact fun _ => ⟨h, fun ⟨i, hi, _⟩ => by omega⟩
      | succ q ih =>
        intro hq
        obtain ⟨i1, i2⟩ := ih (by omega)
        by_cases hm : (q : Int) ∈ o
        · rw [extQ_in hm, extQ_in hm]
          exact ⟨i1, fun ⟨i, hi, hn⟩ => i2 ⟨i, by
            by_cases e : i = q
            · subst e; exact absurd hm hn
            · omega, hn⟩⟩
        · rw [extQ_out hm, extQ_out hm]
          have := ext_hits hs hl hp d (o ++ [(q : Int)]) _ _ (ho.snoc (by omega) hm) (by rw [List.length_append]; simp; omega) i1
          exact ⟨.inl this, fun _ => this⟩
    obtain ⟨i, hi, hn⟩ := Ord.more (n := p.length) (o := o) (by omega)
    have := (key p.length (Nat.le_refl _)).2 ⟨i, hi, hn⟩
    rwa [extQ_all, extQ_all] at this
theorem best_eq (hs : s.length ≤ 100) (hl : p.length ≤ 8) (hp : ∀ q, q < p.length → RightP s.length (p.getD q default)) : bestP s p = bestR s p :=
  (ext_hits hs hl hp p.length [] _ _ (Ord.nil _) (by simp) (.inr ⟨rfl, rfl⟩)).1
/-- What holds of all states on the way. -/
theorem ext_inv {τ : Type} {n : Nat} {step : τ → List Int → τ} {I : τ → Prop} (hI : ∀ a o, Ord n o → o.length = n → I a → I (step a o)) : ∀ (d : Nat) (o : List Int) (a : τ), Ord n o → o.length + d = n → I a → I (ext n step d o a)
  | 0, o, a, ho, hd, h => hI a o ho (by omega) h
  | d + 1, o, a, ho, hd, h => by
    have key : ∀ q : Nat, q ≤ n → I (extQ n step d o a q) := by
      intro q
      induction q with
      | zero => exact fun _ => h
      | succ q ih =>
        intro hq
        by_cases hm : (q : Int) ∈ o
        · rw [extQ_in hm]; exact ih (by omega)
        · rw [extQ_out hm]; exact ext_inv hI d _ _ (ho.snoc (by omega) hm) (by rw [List.length_append]; simp; omega) (ih (by omega))
    have := key n (Nat.le_refl _)
    rwa [extQ_all] at this
/-- The next one by the rule of thumb, among the first q. -/
def bestN (s : List ByteArray) (p : List (List ByteArray)) (out : List Int) : Nat → Int
  | 0 => -1
  | q + 1 => if (q : Int) ∈ out then bestN s p out q else if bestN s p out q < 0 then (q : Int)
    else if (missF s (p.getD q default)).length < (missF s (p.getD (bestN s p out q).toNat default)).length then (q : Int) else bestN s p out q
def leastN (s : List ByteArray) (p : List (List ByteArray)) (b : Int) : Int := if b < 0 then 0 else ((missF s (p.getD b.toNat default)).length : Int)
variable {out : List Int}
theorem bestN_in : ∀ q : Nat, (bestN s p out q = -1 ∧ ∀ j : Nat, j < q → (j : Int) ∈ out) ∨ (0 ≤ bestN s p out q ∧ bestN s p out q < q ∧ bestN s p out q ∉ out)
  | 0 => .inl ⟨rfl, fun j hj => by omega⟩
  | q + 1 => by
    have ih := bestN_in q
    rw [bestN]
    by_cases hm : (q : Int) ∈ out
    · rw [if_pos hm]
      rcases ih with ⟨h1, h2⟩ | ⟨h1, h2, h3⟩
      · exact .inl ⟨h1, fun j hj => by
          by_cases e : j = q
          · subst e; exact hm
          · exact h2 j (by omega)⟩
      · exact .inr ⟨h1, by omega, h3⟩
    · rw [if_neg hm]
      split
      · exact .inr ⟨by omega, by omega, hm⟩
      · split
        · exact .inr ⟨by omega, by omega, hm⟩
        · rcases ih with ⟨h1, h2⟩ | ⟨h1, h2, h3⟩
          · omega
          · exact .inr ⟨h1, by omega, h3⟩
theorem bestN_used {q : Nat} (h : (q : Int) ∈ out) : bestN s p out (q + 1) = bestN s p out q := by rw [bestN, if_pos h]
theorem bestN_first {q : Nat} (h : (q : Int) ∉ out) (h2 : bestN s p out q < 0) : bestN s p out (q + 1) = q := by rw [bestN, if_neg h, if_pos h2]
theorem bestN_new {q : Nat} (h : (q : Int) ∉ out) (h2 : ¬ bestN s p out q < 0) (h3 : (missF s (p.getD q default)).length < (missF s (p.getD (bestN s p out q).toNat default)).length) : bestN s p out (q + 1) = q := by rw [bestN, if_neg h, if_neg h2, if_pos h3]
theorem bestN_old {q : Nat} (h : (q : Int) ∉ out) (h2 : ¬ bestN s p out q < 0) (h3 : ¬ (missF s (p.getD q default)).length < (missF s (p.getD (bestN s p out q).toNat default)).length) : bestN s p out (q + 1) = bestN s p out q := by rw [bestN, if_neg h, if_neg h2, if_neg h3]
theorem leastN_q (q : Nat) : leastN s p (q : Int) = (missF s (p.getD q default)).length := by rw [leastN, if_neg (by omega)]; rfl
theorem leastN_pos {b : Int} (h : ¬ b < 0) : leastN s p b = (missF s (p.getD b.toNat default)).length := by rw [leastN, if_neg h]
end
/-- The setup, the order and the loads behind k products by the rule of thumb. -/
def near (s : List ByteArray) (p : List (List ByteArray)) : Nat → List ByteArray × List Int × Int
  | 0 => (s, [], 0)
  | k + 1 => (nextF (near s p k).1 (p.getD (bestN (near s p k).1 p (near s p k).2.1 p.length).toNat default) [], (near s p k).2.1 ++ [bestN (near s p k).1 p (near s p k).2.1 p.length],
      (near s p k).2.2 + (missF (near s p k).1 (p.getD (bestN (near s p k).1 p (near s p k).2.1 p.length).toNat default)).length)
structure NearOk (s : List ByteArray) (p : List (List ByteArray)) (k : Nat) (r : List ByteArray × List Int × Int) : Prop where
  good : Good' r.1
  len : r.1.length = s.length
  ord : Ord p.length r.2.1
  num : r.2.1.length = k
  lo : 0 ≤ r.2.2
  hi : r.2.2 ≤ 100 * k
theorem NearOk.best {s : List ByteArray} {p : List (List ByteArray)} {k : Nat} {r : List ByteArray × List Int × Int} (h : NearOk s p k r) (hk : k < p.length) : 0 ≤ bestN r.1 p r.2.1 p.length ∧ bestN r.1 p r.2.1 p.length < p.length ∧ bestN r.1 p r.2.1 p.length ∉ r.2.1 := by
  rcases bestN_in (s := r.1) (p := p) (out := r.2.1) p.length with ⟨_, h2⟩ | h2
  · obtain ⟨i, hi, hn⟩ := Ord.more (n := p.length) (o := r.2.1) (by rw [h.num]; exact hk)
    exact absurd (h2 i hi) hn
  · exact h2
theorem near_ok {s : List ByteArray} {p : List (List ByteArray)} (hs : Good' s) (hp : ∀ q, q < p.length → RightP s.length (p.getD q default)) : ∀ k, k ≤ p.length → NearOk s p k (near s p k)
  | 0, _ => ⟨hs, rfl, Ord.nil _, rfl, Int.le_refl _, by simp [near]⟩
  | k + 1, hk => by
    have ih := near_ok hs hp k (by omega)
    obtain ⟨h1, h2, h3⟩ := ih.best (by omega)
    have hr := hp (bestN (near s p k).1 p (near s p k).2.1 p.length).toNat (by omega)
    have hms := missF_len (near s p k).1 (p.getD (bestN (near s p k).1 p (near s p k).2.1 p.length).toNat default)
    have hl := hr.len
    have hs100 := hs.len
    have h0 := ih.lo
    have h9 := ih.hi
    refine ⟨ih.good.nextF (by rw [ih.len]; exact hr) _, by rw [near, nextF_len]; exact ih.len, ?_, by rw [near, List.length_append, ih.num]; rfl, by rw [near]; simp only; omega, by rw [near]; simp only; omega⟩
    have := ih.ord.snoc (q := (bestN (near s p k).1 p (near s p k).2.1 p.length).toNat) (by omega) (by rw [Int.toNat_of_nonneg h1]; exact h3)
    rw [Int.toNat_of_nonneg h1] at this
    exact this
end Go.Proofs.YtpajnlcikmhpdaaDoor
