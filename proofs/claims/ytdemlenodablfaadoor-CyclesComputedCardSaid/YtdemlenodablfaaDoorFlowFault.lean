/- What is wrong with cycles, buffers and boards: the program's flowFault and the reference's BoardsFault answer the same number. -/
import Derived.Test.YtdemlenodablfaaDoorSlicesI
namespace Go.Proofs.YtdemlenodablfaaDoor
open Go.RowKit
set_option linter.unusedVariables false
set_option linter.unusedSimpArgs false

def outB (lo hi x : Int) : Bool := decide (x < lo) || decide (hi < x)
theorem outB_in (lo hi x : Int) : (!(decide (lo ≤ x) && decide (x ≤ hi))) = outB lo hi x := by
  unfold outB
  by_cases h1 : lo ≤ x <;> by_cases h2 : x ≤ hi <;> simp [h1, h2] <;> omega

def cycF (c : List Int) : Int := if c.length = 0 then 8 else if 6 < c.length then 2 else if c.any (outB 1 10000000) then 1 else 0
def flowF (c b : List Int) (n : Int) : Int :=
  if cycF c ≠ 0 then cycF c else if (b.length : Int) ≠ c.length - 1 then 3 else if b.any (outB 0 2000) || outB 1 2000 n then 1 else 0

theorem outside_b (n lo hi : Int) (w : World) :
    Calls Tryd.prog 40 #[.int .i64 n, .int .i64 lo, .int .i64 hi] w fun e w' => e = .returned (.bool (outB lo hi n)) ∧ w = w' := outside_any n lo hi w
theorem in_b (n lo hi : Int) (w : World) :
    Calls Tryd.prog 36 #[.int .i64 n, .int .i64 lo, .int .i64 hi] w fun e w' => e = .returned (.bool (!outB lo hi n)) ∧ w = w' :=
  (in_any n lo hi w).mono fun e w' h => ⟨by rw [h.1, ← outB_in]; simp, h.2⟩

set_option maxHeartbeats 400000 in
theorem cycPred1 (w : World) (xs : List Int) : PredI 73 #[] (outB 1 10000000) w xs := by
  refine ⟨enters_of Tryd.func73 (by kernel_rfl) rfl, fun x hx w1 hc => ?_⟩
  go_enter Tryd.func73, Tryd.ntmps73
  go_wp2_with (go_at_call 40; refine (outside_b _ _ _ _).mono ?_; rintro e w' ⟨rfl, rfl⟩)
  go_ret
  exact ⟨rfl, Chg.refl _ _⟩
set_option maxHeartbeats 400000 in
theorem flowPred (w : World) (xs : List Int) : PredI 65 #[] (outB 0 2000) w xs := by
  refine ⟨enters_of Tryd.func65 (by kernel_rfl) rfl, fun x hx w1 hc => ?_⟩
  go_enter Tryd.func65, Tryd.ntmps65
  go_wp2_with (go_at_call 40; refine (outside_b _ _ _ _).mono ?_; rintro e w' ⟨rfl, rfl⟩)
  go_ret
  exact ⟨ret_bool (rfl), Chg.refl _ _⟩

set_option maxHeartbeats 400000 in
theorem cyclesFault_any (v : Value) (c : List Int) (A : Nat → Prop) (w : World) (hv : IsSl w A v c) :
    Calls Tryd.prog 63 #[v] w fun e w' => e = .returned (.int .i64 (cycF c)) ∧ Chg NoB w w' := by
  have hcf := containsFuncI v c _ _ _ A w hv (cycPred1 w c)
  have HC := hid hcf; clear hcf
  obtain ⟨a, cap, rfl, h1, h2⟩ := hv.shape
  unfold maxLen at h2
  by_cases h0 : c.length = 0
  · have hb : ((c.length : Int) == 0) = true := by simp [h0]
    have H0 := hid h0; clear h0
    go_enter Tryd.func63, Tryd.ntmps63
    go_wp2_with fail
    go_ret
    exact ⟨ret_int (by rw [cycF, if_pos H0.out]), Chg.refl _ _⟩
  · have hb : ((c.length : Int) == 0) = false := beq_eq_false_iff_ne.2 (by omega)
    by_cases h6 : 6 < c.length
    · go_enter Tryd.func63, Tryd.ntmps63
      go_wp2_with fail
      go_ret
      exact ⟨ret_int (by rw [cycF, if_neg h0, if_pos h6]), Chg.refl _ _⟩
    · obtain ⟨q, hq⟩ : ∃ q, q = c.any (outB 1 10000000) := ⟨_, rfl⟩
      have HF : Hid (cycF c = if q then 1 else 0) := by rw [hq, cycF, if_neg h0, if_neg h6]; rfl
      rw [← hq] at HC
      clear hq
      cases q <;>
      · go_enter Tryd.func63, Tryd.ntmps63
        go_wp2_with (go_at_call 64; refine HC.out.mono ?_; rintro e w1 ⟨rfl, hc1⟩)
        go_ret
        exact ⟨ret_int HF.out.symm, hc1⟩

set_option maxHeartbeats 400000 in
theorem flowFault_any (v1 v2 : Value) (c b : List Int) (n : Int) (A1 A2 : Nat → Prop) (w : World) (h1 : IsSl w A1 v1 c) (h2 : IsSl w A2 v2 b) :
    Calls Tryd.prog 52 #[v1, v2, .int .i64 n] w fun e w' => e = .returned (.int .i64 (flowF c b n)) ∧ Chg NoB w w' := by
  have HY := hid (cyclesFault_any v1 c A1 w h1)
  have HC : Hid (∀ w1, Chg NoB w w1 → _) := hid fun w1 (hc : Chg NoB w w1) => containsFuncI v2 b _ _ _ A2 w1 (h2.keepN hc) (flowPred w1 b)
  obtain ⟨a1, cap1, rfl, g1, g2⟩ := h1.shape
  obtain ⟨a2, cap2, rfl, g3, g4⟩ := h2.shape
  unfold maxLen at g2 g4
  obtain ⟨f, hf⟩ : ∃ f, f = cycF c := ⟨_, rfl⟩
  rw [← hf] at HY
  by_cases hf0 : f = 0
  · subst hf0
    by_cases hl : (b.length : Int) = c.length - 1
    · have hb : ((b.length : Int) != (c.length : Int) - 1) = false := by simp [hl]
      obtain ⟨q, hq⟩ : ∃ q, q = b.any (outB 0 2000) := ⟨_, rfl⟩
      obtain ⟨r, hr⟩ : ∃ r, r = outB 1 2000 n := ⟨_, rfl⟩
      have HR := hid hr
      have HF : Hid (flowF c b n = if q || r then 1 else 0) := by rw [hq, hr, flowF, if_neg (by simpa using hf.symm), if_neg (by simpa using hl)]; rfl
      rw [← hq] at HC
      clear hq hr hf hl
      cases q <;> cases r <;>
      · go_enter Tryd.func52, Tryd.ntmps52
        go_wp2_with (first | (go_at_call 63; refine HY.out.mono ?_; rintro e w1 ⟨rfl, hc1⟩) | (go_at_call 64; refine (HC.out _ (by assumption)).mono ?_; rintro e w2 ⟨rfl, hc2⟩) | (go_at_call 40; refine (outside_b _ _ _ _).mono ?_; rw [← HR.out]; rintro e w3 ⟨rfl, rfl⟩))
        go_ret
        exact ⟨ret_int HF.out.symm, by first | exact (by assumption : Chg NoB w _) | exact Chg.trans (by assumption) (by assumption)⟩
    · have hb : ((b.length : Int) != (c.length : Int) - 1) = true := by simp [hl]
      have HF : Hid (flowF c b n = 3) := by unfold Hid; rw [flowF, if_neg (by simpa using hf.symm), if_pos hl]
      clear hf hl
      go_enter Tryd.func52, Tryd.ntmps52
      go_wp2_with (go_at_call 63; refine HY.out.mono ?_; rintro e w1 ⟨rfl, hc1⟩)
      go_ret
      exact ⟨ret_int HF.out.symm, hc1⟩
  · have hb : (f != 0) = true := by simp [hf0]
    have HF : Hid (flowF c b n = f) := by unfold Hid; rw [flowF, if_pos (by rw [← hf]; exact hf0), hf]
    clear hf hf0
    go_enter Tryd.func52, Tryd.ntmps52
    go_wp2_with (go_at_call 63; refine HY.out.mono ?_; rintro e w1 ⟨rfl, hc1⟩)
    go_ret
    exact ⟨ret_int HF.out.symm, hc1⟩

end Go.Proofs.YtdemlenodablfaaDoor
