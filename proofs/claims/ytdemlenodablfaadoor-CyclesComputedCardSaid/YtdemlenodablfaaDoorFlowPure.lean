/- How boards move through a line, as plain functions: 'pas' as the program reckons it, 'mov' as the reference does; both agree. -/
import Derived.Test.YtdemlenodablfaaDoorBase
namespace Go.Proofs.YtdemlenodablfaaDoor
set_option linter.unusedVariables false
set_option linter.unusedSimpArgs false

structure Pass where
  taken : Int
  left : Int

instance : Enc Pass where
  sz := 2
  Is _ _ p f := f 0 = some (.int .i64 p.taken) ∧ f 1 = some (.int .i64 p.left)
  keep h _ _ := h
  low h _ := h
  ext h e := ⟨(e 0 (by omega)) ▸ h.1, (e 1 (by omega)) ▸ h.2⟩
  one h j hj := by
    rcases (show j = 0 ∨ j = 1 by omega) with rfl | rfl
    · exact ⟨_, h.1, rfl⟩
    · exact ⟨_, h.2, rfl⟩
  pos := by omega
instance : Flat Pass := ⟨fun h => h⟩

def at' (l : List Int) (k : Nat) : Int := l.getD k 0

/-- What the program reckons of board b at machine k. -/
def pas (c bf : List Int) (b k : Nat) : Pass :=
  let here : Int := if hk : k = 0 then 0 else (pas c bf b (k - 1)).left
  let taken : Int := if hb : b = 0 then here else max here (pas c bf (b - 1) k).left
  let left : Int := taken + at' c k
  ⟨taken, if k + 1 < c.length then
      (if at' bf k = 0 then (if hb : b = 0 then left else max left (pas c bf (b - 1) (k + 1)).left)
       else if hr : 0 < at' bf k ∧ at' bf k ≤ b then max left (pas c bf (b - (at' bf k).toNat) (k + 1)).taken else left)
    else left⟩
termination_by (b, k)
decreasing_by
  all_goals simp_wf
  all_goals first
    | (apply Prod.Lex.right; omega)
    | (apply Prod.Lex.left; omega)

def here (c bf : List Int) (b k : Nat) : Int := if k = 0 then 0 else (pas c bf b (k - 1)).left

theorem pas_taken (c bf : List Int) (b k : Nat) : (pas c bf b k).taken = if b = 0 then here c bf b k else max (here c bf b k) (pas c bf (b - 1) k).left := by
  rw [pas]; simp only [here]; split <;> simp_all
theorem pas_left (c bf : List Int) (b k : Nat) : (pas c bf b k).left =
    if k + 1 < c.length then
      (if at' bf k = 0 then (if b = 0 then (pas c bf b k).taken + at' c k else max ((pas c bf b k).taken + at' c k) (pas c bf (b - 1) (k + 1)).left)
       else if 0 < at' bf k ∧ at' bf k ≤ b then max ((pas c bf b k).taken + at' c k) (pas c bf (b - (at' bf k).toNat) (k + 1)).taken else (pas c bf b k).taken + at' c k)
    else (pas c bf b k).taken + at' c k := by
  conv => lhs; rw [pas]
  conv => rhs; rw [pas_taken]
  simp only [here]
  repeat' split
  all_goals simp_all

/-- The right lines: what flowF lets by. -/
structure RightLine (c bf : List Int) : Prop where
  len : c.length ≤ 6
  pos : 0 < c.length
  c1 : ∀ k, k < c.length → 1 ≤ at' c k ∧ at' c k ≤ 10000000
  b0 : ∀ k, 0 ≤ at' bf k
  bl : bf.length + 1 = c.length

theorem pas_bd {c bf : List Int} (h : RightLine c bf) (b : Nat) : ∀ k, k < c.length →
    0 ≤ (pas c bf b k).taken ∧ (pas c bf b k).taken + at' c k ≤ (pas c bf b k).left ∧ (pas c bf b k).left ≤ 10000000 * (b + k + 1) := by
  induction b using Nat.strongRecOn with
  | _ b ihb =>
    intro k
    induction k with
    | zero =>
      intro hk
      have hc := h.c1 0 hk
      have ht := pas_taken c bf b 0
      have hl := pas_left c bf b 0
      have hh : here c bf b 0 = 0 := by simp [here]
      rw [hh] at ht
      have h1 : 0 < b → _ := fun hb => ihb (b - 1) (by omega) 0 hk
      have h2 : 0 < b → 1 < c.length → _ := fun hb hk1 => ihb (b - 1) (by omega) 1 hk1
      have h3 : 0 < at' bf 0 ∧ at' bf 0 ≤ b → 1 < c.length → _ := fun hb hk1 => ihb (b - (at' bf 0).toNat) (by omega) 1 hk1
      have hc1 := h.c1 1
      split at ht <;> (split at hl <;> (try split at hl) <;> (try split at hl)) <;> grind
    | succ k ihk =>
      intro hk
      have hc := h.c1 (k + 1) hk
      have hcp := h.c1 k (by omega)
      have hp := ihk (by omega)
      have ht := pas_taken c bf b (k + 1)
      have hl := pas_left c bf b (k + 1)
      have hh : here c bf b (k + 1) = (pas c bf b k).left := by simp [here]
      rw [hh] at ht
      have h1 : 0 < b → _ := fun hb => ihb (b - 1) (by omega) (k + 1) hk
      have h2 : 0 < b → k + 2 < c.length → _ := fun hb hk1 => ihb (b - 1) (by omega) (k + 2) hk1
      have h3 : 0 < at' bf (k + 1) ∧ at' bf (k + 1) ≤ b → k + 2 < c.length → _ := fun hb hk1 => ihb (b - (at' bf (k + 1)).toNat) (by omega) (k + 2) hk1
      have hc1 := h.c1 (k + 2)
      split at ht <;> (split at hl <;> (try split at hl) <;> (try split at hl)) <;> grind

/-- What the reference reckons of board b at machine k: when it begins, and when it has gone. -/
def mov (c bf : List Int) (b k : Nat) : Pass :=
  let t0 : Int := if hb : b = 0 then 0 else (mov c bf (b - 1) k).left
  let taken : Int := if hk : k = 0 then t0 else max t0 (mov c bf b (k - 1)).left
  let left : Int := taken + at' c k
  ⟨taken, if h : k + 1 < c.length ∧ 0 ≤ at' bf k ∧ at' bf k < b then max left (mov c bf (b - (at' bf k).toNat - 1) (k + 1)).left else left⟩
termination_by (b, k)
decreasing_by
  all_goals simp_wf
  all_goals first
    | (apply Prod.Lex.right; omega)
    | (apply Prod.Lex.left; omega)

theorem mov_taken (c bf : List Int) (b k : Nat) : (mov c bf b k).taken =
    if k = 0 then (if b = 0 then 0 else (mov c bf (b - 1) k).left) else max (if b = 0 then 0 else (mov c bf (b - 1) k).left) (mov c bf b (k - 1)).left := by
  rw [mov]; simp only; split <;> simp_all
theorem mov_left (c bf : List Int) (b k : Nat) : (mov c bf b k).left =
    if k + 1 < c.length ∧ 0 ≤ at' bf k ∧ at' bf k < b then max ((mov c bf b k).taken + at' c k) (mov c bf (b - (at' bf k).toNat - 1) (k + 1)).left else (mov c bf b k).taken + at' c k := by
  conv => lhs; rw [mov]
  conv => rhs; rw [mov_taken]
  simp only
  repeat' split
  all_goals simp_all

theorem pas_up {c bf : List Int} (h : RightLine c bf) (k : Nat) (hk : k < c.length) (b b' : Nat) (hb : b ≤ b') : (pas c bf b k).left ≤ (pas c bf b' k).left := by
  induction b' with
  | zero => obtain rfl : b = 0 := by omega
            omega
  | succ n ih =>
    by_cases hbn : b = n + 1
    · subst hbn; omega
    · have h1 := ih (by omega)
      have h2 := pas_taken c bf (n + 1) k
      have h3 := pas_bd h (n + 1) k hk
      have h4 := h.c1 k hk
      simp only [Nat.add_sub_cancel, Nat.add_eq_zero_iff, Nat.one_ne_zero, and_false, if_false] at h2
      omega

theorem pas_mov_left {c bf : List Int} (h : RightLine c bf) (b k : Nat) (hk : k < c.length) (e1 : (pas c bf b k).taken = (mov c bf b k).taken)
    (ih : ∀ b', b' < b → ∀ k, k < c.length → (pas c bf b' k).left = (mov c bf b' k).left) : (pas c bf b k).left = (mov c bf b k).left := by
  have hl := pas_left c bf b k
  have hm := mov_left c bf b k
  have h0 := h.b0 k
  have hc := h.c1 k hk
  by_cases hk1 : k + 1 < c.length
  · by_cases hr : at' bf k = 0
    · by_cases hb : b = 0
      · rw [if_pos hk1, if_pos hr, if_pos hb] at hl
        rw [if_neg (by omega)] at hm
        omega
      · rw [if_pos hk1, if_pos hr, if_neg hb] at hl
        rw [if_pos ⟨hk1, h0, by omega⟩, hr] at hm
        simp only [Int.toNat_zero, Nat.sub_zero] at hm
        rw [hl, hm, e1, ih (b - 1) (by omega) (k + 1) hk1]
    · by_cases hrb : at' bf k ≤ b
      · rw [if_pos hk1, if_neg hr, if_pos ⟨by omega, hrb⟩] at hl
        have ht := pas_taken c bf (b - (at' bf k).toNat) (k + 1)
        have hh : here c bf (b - (at' bf k).toNat) (k + 1) = (pas c bf (b - (at' bf k).toNat) k).left := by simp [here]
        rw [hh] at ht
        have hup := pas_up h k hk (b - (at' bf k).toNat) (b - 1) (by omega)
        have htk := pas_taken c bf b k
        rw [if_neg (by omega)] at htk
        by_cases hbe : at' bf k < b
        · rw [if_pos ⟨hk1, h0, hbe⟩] at hm
          rw [if_neg (by omega)] at ht
          have := ih (b - (at' bf k).toNat - 1) (by omega) (k + 1) hk1
          rw [hl, hm, ht, this, e1]
          omega
        · rw [if_neg (by omega)] at hm
          rw [if_pos (by omega)] at ht
          rw [hl, hm, ht]
          omega
      · rw [if_pos hk1, if_neg hr, if_neg (by omega)] at hl
        rw [if_neg (by omega)] at hm
        omega
  · rw [if_neg hk1] at hl
    rw [if_neg (by omega)] at hm
    omega

theorem pas_mov {c bf : List Int} (h : RightLine c bf) (b : Nat) : ∀ k, k < c.length → (pas c bf b k).taken = (mov c bf b k).taken ∧ (pas c bf b k).left = (mov c bf b k).left := by
  induction b using Nat.strongRecOn with
  | _ b ihb =>
    intro k
    induction k with
    | zero =>
      intro hk
      have ht := pas_taken c bf b 0
      have hm := mov_taken c bf b 0
      have hh : here c bf b 0 = 0 := by simp [here]
      rw [hh] at ht
      have h1 : 0 < b → _ := fun hb => ihb (b - 1) (by omega) 0 hk
      have hbd := pas_bd h (b - 1) 0 hk
      have hc := h.c1 0 hk
      have e1 : (pas c bf b 0).taken = (mov c bf b 0).taken := by grind
      exact ⟨e1, pas_mov_left h b 0 hk e1 fun b' hb' k hk => (ihb b' hb' k hk).2⟩
    | succ k ihk =>
      intro hk
      have ht := pas_taken c bf b (k + 1)
      have hm := mov_taken c bf b (k + 1)
      have hh : here c bf b (k + 1) = (pas c bf b k).left := by simp [here]
      rw [hh, (ihk (by omega)).2] at ht
      have h1 : 0 < b → _ := fun hb => ihb (b - 1) (by omega) (k + 1) hk
      have hbd := pas_bd h b k (by omega)
      have hc := h.c1 k (by omega)
      have e1 : (pas c bf b (k + 1)).taken = (mov c bf b (k + 1)).taken := by
        rw [if_neg (by omega)] at hm
        simp only [Nat.add_sub_cancel] at hm
        by_cases hb : b = 0
        · subst hb
          simp only [if_true] at ht hm
          have := ihk (by omega)
          omega
        · rw [if_neg hb] at ht hm
          have := h1 (by omega)
          omega
      exact ⟨e1, pas_mov_left h b (k + 1) hk e1 fun b' hb' k hk => (ihb b' hb' k hk).2⟩
end Go.Proofs.YtdemlenodablfaaDoor
