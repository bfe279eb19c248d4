/- The generator of cycles and buffers: it answers two lists of a few small numbers. -/
import Derived.Test.YtdemlenodablfaaDoorStream
import Derived.Test.YtdemlenodablfaaDoorMem
namespace Go.Proofs.YtdemlenodablfaaDoor
open Go.RowKit
set_option linter.unusedVariables false
set_option linter.unusedSimpArgs false

theorem infoInt : (Tryd.prog.info? 3).map (fun i => (i.zero, i.size, i.bytes)) = some (some (.int .i64 0), 1, 8) := by kernel_rfl

def SmallL (n : Nat) (xs : List Int) : Prop := xs.length ≤ n ∧ ∀ x ∈ xs, -1 ≤ x ∧ x ≤ 10000001

theorem pick_mem (L : List Int) (k : Nat) (xs : List Int) (h : 0 < xs.length) : pick L k xs ∈ xs := by
  have b1 := nxt_lo L k xs.length
  have b2 := nxt_lt L k xs.length (by omega)
  unfold pick
  have hl : (nxt L k xs.length).toNat < xs.length := by omega
  simp [List.getD, hl]

/-- The frame while a generator runs: only the stream's block and new blocks. -/
def PB (p B : Nat) : Nat → Prop := fun k => k = p ∨ B ≤ k

theorem smallL_snoc {n : Nat} {xs : List Int} {x : Int} (h : SmallL n xs) (hx : -1 ≤ x ∧ x ≤ 10000001) : SmallL (n + 1) (xs ++ [x]) :=
  ⟨by simpa using h.1, fun y hy => by rcases List.mem_append.1 hy with hy | hy; exact h.2 y hy; simp at hy; subst hy; exact hx⟩
theorem smallL_set {n : Nat} {xs : List Int} {x : Int} (i : Nat) (h : SmallL n xs) (hx : -1 ≤ x ∧ x ≤ 10000001) : SmallL n (xs.set i x) :=
  ⟨by simpa using h.1, fun y hy => by rcases List.mem_or_eq_of_mem_set hy with hy | hy; exact h.2 y hy; subst hy; exact hx⟩

end Go.Proofs.YtdemlenodablfaaDoor
