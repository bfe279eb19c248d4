/- A block of known cells (a boxed variable, a struct), and an array of ints of known length. -/
import Derived.Test.YtdemlenodablfaaMem
namespace Go.Proofs.Ytdemlenodablfaa
open Go.RowKit
set_option linter.unusedVariables false

/-- Block P holds the cells cs. -/
def BlkC (w : World) (P : Nat) (cs : Array Value) (e : TypeId) : Prop := w.heap[P]? = some (.cells cs e (0, 0))
namespace BlkC
variable {w w' : World} {P : Nat} {cs : Array Value} {e : TypeId}
theorem new (w : World) (cs : Array Value) (e : TypeId) : BlkC (w.alloc (.cells cs e)) w.heap.size cs e := heap_alloc_new w _
theorem lt (h : BlkC w P cs e) : P < w.heap.size := (Array.getElem?_eq_some_iff.1 h).1
theorem set (h : BlkC w P cs e) (i : Nat) (v : Value) : BlkC (w.setCell ⟨P, i, none⟩ v) P (cs.setIfInBounds i v) e := by
  unfold BlkC at h ⊢; simp [World.setCell, Array.getElem?_modify, h]
theorem drew (h : BlkC w P cs e) : BlkC w.drew P cs e := h
theorem drewN (h : BlkC w P cs e) (n : Nat) : BlkC (w.drewN n) P cs e := h
theorem alloc (h : BlkC w P cs e) (o : Obj) : BlkC (w.alloc o) P cs e := (Below.heap_alloc _ _ _ h.lt).trans h
theorem cell (h : BlkC w P cs e) (i : Nat) : w.cell? ⟨P, i, none⟩ = cs[i]? := by
  unfold BlkC at h; simp [World.cell?, h]
theorem froz (h : BlkC w P cs e) (i : Nat) : w.frozen? ⟨P, i, none⟩ = false := by
  unfold BlkC at h; simp [World.frozen?, h]
theorem keep {S : Nat → Prop} (h : BlkC w P cs e) (c : Chg S w w') (hs : ¬ S P) : BlkC w' P cs e := (c.block P h.lt hs).trans h
theorem keepN (h : BlkC w P cs e) (c : Chg NoB w w') : BlkC w' P cs e := h.keep c fun x => x
theorem keepNew {B : Nat} (h : BlkC w P cs e) (c : Chg (NewB B) w w') (hB : P < B) : BlkC w' P cs e := h.keep c (Nat.not_le_of_lt hB)
theorem keepAt {Q : Nat} (h : BlkC w P cs e) (c : Chg (AtB Q) w w') (hB : P ≠ Q) : BlkC w' P cs e := h.keep c fun x => hB x
end BlkC

/-- Block g is an array of the ints xs. -/
def Arr (w : World) (g : Nat) (e : TypeId) (xs : List Int) : Prop := BlkC w g (xs.map (Value.int .i64)).toArray e
namespace Arr
variable {w w' : World} {g : Nat} {xs : List Int} {e : TypeId}
theorem new (w : World) (n : Nat) (e : TypeId) : Arr (w.alloc (.cells (Array.replicate n (.int .i64 0)) e)) w.heap.size e (List.replicate n 0) := by
  have := BlkC.new w (Array.replicate n (.int .i64 0)) e
  unfold Arr
  rw [List.map_replicate, List.toArray_replicate]
  exact this
theorem cell (h : Arr w g e xs) (i : Nat) (hi : i < xs.length) : w.cell? ⟨g, i, none⟩ = some (.int .i64 xs[i]) := by
  rw [BlkC.cell h]; simp [hi]
theorem froz (h : Arr w g e xs) (i : Nat) : w.frozen? ⟨g, i, none⟩ = false := BlkC.froz h i
theorem lt (h : Arr w g e xs) : g < w.heap.size := BlkC.lt h
theorem set (h : Arr w g e xs) (i : Nat) (x : Int) : Arr (w.setCell ⟨g, i, none⟩ (.int .i64 x)) g e (xs.set i x) := by
  have := BlkC.set h i (.int .i64 x)
  unfold Arr
  rw [List.map_set, ← List.setIfInBounds_toArray]
  exact this
theorem drew (h : Arr w g e xs) : Arr w.drew g e xs := h
theorem alloc (h : Arr w g e xs) (o : Obj) : Arr (w.alloc o) g e xs := BlkC.alloc h o
theorem keep {S : Nat → Prop} (h : Arr w g e xs) (c : Chg S w w') (hs : ¬ S g) : Arr w' g e xs := BlkC.keep h c hs
theorem keepNew {B : Nat} (h : Arr w g e xs) (c : Chg (NewB B) w w') (hB : g < B) : Arr w' g e xs := h.keep c (Nat.not_le_of_lt hB)
theorem keepAt {q : Nat} (h : Arr w g e xs) (c : Chg (AtB q) w w') (hB : g ≠ q) : Arr w' g e xs := h.keep c fun x => hB x
theorem isSl (h : Arr w g e xs) {A : Nat → Prop} (hA : A g) (hm : xs.length ≤ maxLen) : IsSl w A (.slice (some ⟨g, 0, none⟩) xs.length xs.length) xs := by
  refine .inr ⟨g, 0, xs.length, _, e, rfl, hA, Nat.le_refl _, hm, h, fun i hi => ?_⟩
  simp [Enc.Is, Enc.sz, hi]
end Arr

/-- make([]int, n), as an equation for every world: for a region that draws its order. -/
theorem run_make_ints {P : Program} (T e : TypeId) (h1 : P.underlying T = some (.slice e)) (hinfo : (P.info? e).map (fun i => (i.zero, i.size, i.bytes)) = some (some (.int .i64 0), 1, 8))
    (n : Nat) (hn : n ≤ 1000000000) (w : World) : (Instr.makeSlice T (.int .i64 (n : Int)) (.int .i64 (n : Int))).run P w =
      .ok (.slice (some ⟨w.heap.size, 0, none⟩) n n) (w.alloc (.cells (Array.replicate n (.int .i64 0)) e)) := by
  obtain ⟨i, hi, hz0, hz1, hz2⟩ := info_parts hinfo
  have hb : (i.bytes : Int) * (n : Int) ≤ 281474976710656 := by rw [hz2]; omega
  have hr := run_make (P := P) w T e i (.int .i64 0) h1 hi hz0 .i64 .i64 n n (by omega) (Int.le_refl _) hb (by omega)
  simp only [Int.toNat_natCast] at hr
  have he : madeCells (Value.int .i64 0).cells (n * i.size) = Array.replicate n (.int .i64 0) := by
    rw [hz1, Nat.mul_one]
    exact Array.ext' (by show (madeCells #[Value.int .i64 0] n).toList = _; rw [toList_madeCells_one]; simp)
  rw [he] at hr
  exact hr

end Go.Proofs.Ytdemlenodablfaa
