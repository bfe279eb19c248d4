/- Points and fiducials: the errors, the corrected point and the stretch as plain functions. -/
import Derived.Test.YtgikefjbdhnffaaDoorMach
namespace Go.Proofs.YtgikefjbdhnffaaDoor
open Go.RowKit
set_option linter.unusedVariables false
set_option linter.unusedSimpArgs false

structure PtS where
  x : Int
  y : Int
instance : Inhabited PtS := ⟨⟨0, 0⟩⟩
instance : Sxc PtS where
  k := 2
  pos := by decide
  cell m j := match j with
    | 0 => avI m.x
    | 1 => avI m.y
    | _ => .any
def farP (p : PtS) : Bool := outR p.x (-500000) 500000 || outR p.y (-500000) 500000
def ptEq (p q : PtS) : Bool := decide (p.x = q.x) && decide (p.y = q.y)
def pointsE (a b c d : PtS) (more : List PtS) : Int :=
  if ([a, b, c, d] ++ more).any farP = true then 1 else if (ptEq a b || ptEq c d) = true then 16 else 0
theorem mulB {a b A B : Int} (ha : -A ≤ a ∧ a ≤ A) (hb : -B ≤ b ∧ b ≤ B) : -(A * B) ≤ a * b ∧ a * b ≤ A * B := by
  have hA : 0 ≤ A := by omega
  have hB : 0 ≤ B := by omega
  have h1 : a.natAbs ≤ A.natAbs := by omega
  have h2 : b.natAbs ≤ B.natAbs := by omega
  have h3 := Nat.mul_le_mul h1 h2
  rw [← Int.natAbs_mul, ← Int.natAbs_mul] at h3
  have h4 : 0 ≤ A * B := Int.mul_nonneg hA hB
  omega
theorem div_at {n c q r : Int} (hc : 0 < c) (h : n = q * c + r) (h0 : 0 ≤ r) (h1 : r < c) : n / c = q := by
  subst h
  rw [Int.add_comm, Int.add_mul_ediv_right _ _ (by omega), Int.ediv_eq_zero_of_lt h0 h1]; omega
theorem floor_go {a b : Int} (hb : 0 < b) : (if Int.tmod a b < 0 then Int.tdiv a b - 1 else Int.tdiv a b) = a / b := by
  have h := Int.mul_tdiv_add_tmod a b
  have h2 : Int.tmod a b < b := Int.tmod_lt_of_pos a hb
  have h3 : -b < Int.tmod a b := by
    have := Int.tmod_lt_of_pos (-a) hb
    rw [Int.neg_tmod] at this; omega
  rw [Int.mul_comm] at h
  split
  · rename_i h1
    exact (div_at hb (q := Int.tdiv a b - 1) (r := Int.tmod a b + b) (by rw [Int.sub_mul]; omega) (by omega) (by omega)).symm
  · exact (div_at hb (q := Int.tdiv a b) (r := Int.tmod a b) (by omega) (by omega) (by omega)).symm
/-- The nearest integer to n/c, half up. -/
def roundI (n c : Int) : Int := if n - n / c * c ≥ c - (n - n / c * c) then n / c + 1 else n / c
theorem round_eq {n c : Int} (hc : 0 < c) : roundI n c = (2 * n + c) / (2 * c) := by
  have h := Int.mul_ediv_add_emod n c
  have h0 := Int.emod_nonneg n (by omega : c ≠ 0)
  have h1 := Int.emod_lt_of_pos n hc
  rw [Int.mul_comm] at h
  have hr : n - n / c * c = n % c := by omega
  unfold roundI
  rw [hr]
  have e : n / c * (2 * c) = 2 * (n / c * c) := by rw [Int.mul_left_comm]
  split
  · exact (div_at (by omega) (q := n / c + 1) (r := 2 * (n % c) - c) (by rw [Int.add_mul, e]; omega) (by omega) (by omega)).symm
  · exact (div_at (by omega) (q := n / c) (r := 2 * (n % c) + c) (by rw [e]; omega) (by omega) (by omega)).symm
/-- The product, as of complex numbers. -/
def cMul (v w : PtS) : PtS := ⟨v.x * w.x - v.y * w.y, v.x * w.y + v.y * w.x⟩
def cSub (v w : PtS) : PtS := ⟨v.x - w.x, v.y - w.y⟩
def sqP (v : PtS) : Int := v.x * v.x + v.y * v.y
def corrP (a b c d p : PtS) : PtS :=
  let v := cMul (cMul (cSub p a) (cSub d c)) ⟨(cSub b a).x, -(cSub b a).y⟩
  ⟨c.x + roundI v.x (sqP (cSub b a)), c.y + roundI v.y (sqP (cSub b a))⟩
theorem corr_x (d m n : PtS) : (cMul (cMul d m) ⟨n.x, -n.y⟩).x = d.x * (m.x * n.x + m.y * n.y) - d.y * (m.y * n.x - m.x * n.y) := by
  simp only [cMul]; grind
theorem corr_y (d m n : PtS) : (cMul (cMul d m) ⟨n.x, -n.y⟩).y = d.x * (m.y * n.x - m.x * n.y) + d.y * (m.x * n.x + m.y * n.y) := by
  simp only [cMul]; grind
end Go.Proofs.YtgikefjbdhnffaaDoor
