/- BoardNumber, the small law 'lined', and the start of a law: the stream over the numbers that came in. -/
import Derived.Test.YtdemlenodablfaaDoorLineGen
import Derived.Test.YtdemlenodablfaaDoorLeave
namespace Go.Proofs.YtdemlenodablfaaDoor
open Go.RowKit
set_option linter.unusedVariables false
set_option linter.unusedSimpArgs false

/-- The slice (a, length of L) that came in holds the numbers L. -/
def Inp (w : World) (a : Option Addr) (L : List Int) : Prop :=
  L.length ≤ 9223372036854775807 ∧ ∀ i, i < L.length → ∃ b o, a = some ⟨b, o, none⟩ ∧ w.cell? ⟨b, o + i, none⟩ = some (.int .i64 (L.getD i 0))

theorem Inp.strm {w : World} {a : Option Addr} {L : List Int} (h : Inp w a L) (cap : Nat) :
    Strm (w.alloc (.cells #[.slice a L.length cap, .int .i64 0] 25)) w.heap.size L 0 := by
  refine ⟨a, cap, heap_alloc_new w _, h.1, fun i hi => ?_⟩
  obtain ⟨b, o, ha, hc⟩ := h.2 i hi
  have hb := World.block_lt_of_cell? w _ hc
  exact ⟨b, o, ha, hb, (World.cell?_of_block (Below.heap_alloc w _ b hb)).trans hc⟩

theorem Inp.ofRow {w : World} {a : Option Addr} {len cap : Nat} {zs : List Int}
    (h : (a = none ∧ len = 0 ∧ cap = 0 ∧ zs = []) ∨
      ∃ x, a = some x ∧ len ≤ cap ∧ cap ≤ maxLen ∧ zs.length = cap ∧ (∀ i, i < zs.length → w.cell? (x.add i) = some (.int .i64 (zs.getD i 0))) ∧ ∀ n ∈ zs, (Lit.int .i64 n).wf = true) :
    ∃ L : List Int, L.length = len ∧ Inp w a L := by
  rcases h with ⟨rfl, rfl, rfl, rfl⟩ | ⟨x, rfl, h1, h2, h3, h4, h5⟩
  · exact ⟨[], rfl, by simp, by simp⟩
  · unfold maxLen at h2
    refine ⟨zs.take len, by simp; omega, by simp; omega, fun i hi => ?_⟩
    have hi' : i < len ∧ i < zs.length := by simp at hi; omega
    obtain ⟨b, o, s⟩ := x
    have h0 := h4 0 (by omega)
    have hs : s = none := by
      cases s with
      | none => rfl
      | some s =>
        simp only [Addr.add, if_true, World.cell?] at h0
        split at h0 <;> simp at h0
    subst hs
    have hadd : (⟨b, o, none⟩ : Addr).add i = ⟨b, o + i, none⟩ := by unfold Addr.add; split <;> simp_all
    have := h4 i hi'.2
    rw [hadd] at this
    exact ⟨b, o, rfl, by rw [this]; simp [hi'.1, hi'.2]⟩

theorem lined_flow : flowF [10, 30] [0] 2 = 0 := by decide +kernel
theorem lined_leaves : leavesF [10, 30] [0] 2 = [40, 70] := by
  rw [leavesF, if_pos lined_flow]
  have a00 : (pas [10, 30] [0] 0 0).taken = 0 := by rw [pas_taken]; simp [here]
  have b00 : (pas [10, 30] [0] 0 0).left = 10 := by rw [pas_left, a00]; simp [at']
  have a01 : (pas [10, 30] [0] 0 1).taken = 10 := by rw [pas_taken]; simp [here, b00]
  have b01 : (pas [10, 30] [0] 0 1).left = 40 := by rw [pas_left, a01]; simp [at']
  have a10 : (pas [10, 30] [0] 1 0).taken = 10 := by rw [pas_taken]; simp [here, b00]; decide
  have b10 : (pas [10, 30] [0] 1 0).left = 40 := by rw [pas_left, a10]; simp [at', b01]; decide
  have a11 : (pas [10, 30] [0] 1 1).taken = 40 := by rw [pas_taken]; simp [here, b10, b01]
  have b11 : (pas [10, 30] [0] 1 1).left = 70 := by rw [pas_left, a11]; simp [at']
  simp [leaves, List.range_succ, b01, b11]

set_option maxHeartbeats 400000 in
theorem lined_any (w : World) : Calls Tryd.prog 20 #[] w fun e w' => e = .returned (.bool true) ∧ Chg NoB w w' := by
  go_enter Tryd.func20, Tryd.ntmps20
  go_wp2_with fail
  have h1 := isSl_lit w [10, 30] 3 (by simp [maxLen])
  have hc1 : Chg NoB w (w.alloc (.cells #[.int .i64 10, .int .i64 30] 3)) := (Chg.refl _ _).alloc _
  have h2 := isSl_lit (w.alloc (.cells #[.int .i64 10, .int .i64 30] 3)) [0] 3 (by simp [maxLen])
  have e1 : (w.alloc (.cells #[.int .i64 10, .int .i64 30] 3)).heap.size = w.heap.size + 1 := by simp
  rw [e1] at h2
  have h1' := h1.keepN ((Chg.refl NoB (w.alloc (.cells #[.int .i64 10, .int .i64 30] 3))).alloc (.cells #[.int .i64 0] 3))
  refine (leave_any _ _ [10, 30] [0] 2 _ _ _ h1' h2).mono ?_
  rw [lined_flow, lined_leaves]
  rintro e w2 ⟨v, rfl, hv, hc⟩
  have hch : Chg NoB w w2 := (((Chg.refl _ w).alloc _).alloc _).trans hc
  obtain ⟨a, cap, rfl, g1, g2⟩ := hv.shape
  obtain ⟨b, o, rfl, hb, hcell⟩ := hv.ints (by simp)
  have c1 := hcell 1 (by simp)
  simp at c1 g1
  unfold maxLen at g2
  clear hcell
  go_wp2_with fail
  go_ret
  exact ⟨rfl, hch⟩
end Go.Proofs.YtdemlenodablfaaDoor
