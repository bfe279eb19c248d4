/- The world predicates and the data predicates that all walks of this seat share: what may have changed (Chg), how a list lies behind a slice (IsSl). -/
import Derived.WalkKit
import Derived.WalkSpells
import Derived.WalkLawsBesides
namespace Go.Proofs.YtgikefjbdhnffaaDoor
open Go.RowKit

theorem ret_int {k : IntKind} {a b : Int} (h : a = b) : Ending.returned (.int k a) = .returned (.int k b) := by rw [h]
theorem ret_bool {a b : Bool} (h : a = b) : Ending.returned (.bool a) = .returned (.bool b) := by rw [h]
theorem hid {p : Prop} (h : p) : Hid p := h

/-- max and min of two ints, kept whole in the walk. -/
@[go_sem ↓] theorem max_two (ats : Array TypeId) (ty : TypeId) (x y : Int) : Builtin.max_ ats ty #[.int .i64 x, .int .i64 y] = pure (.int .i64 (max x y)) := by
  show (do let v ← Builtin.max2 (.int .i64 x) (.int .i64 y); pure v : Sem Value) = _
  have : (if y > x then y else x) = max x y := by rw [Int.max_def]; split <;> split <;> omega
  rw [← this]; rfl
@[go_sem ↓] theorem min_two (ats : Array TypeId) (ty : TypeId) (x y : Int) : Builtin.min_ ats ty #[.int .i64 x, .int .i64 y] = pure (.int .i64 (min x y)) := by
  show (do let v ← Builtin.min2 (.int .i64 x) (.int .i64 y); pure v : Sem Value) = _
  have : (if y < x then y else x) = min x y := by rw [Int.min_def]; split <;> split <;> omega
  rw [← this]; rfl

/-- Only blocks in S may have changed; new blocks may have come. -/
structure Chg (S : Nat → Prop) (w w' : World) : Prop where
  os : w'.os = w.os
  tape : w'.tape = w.tape
  output : w'.output = w.output
  size : w.heap.size ≤ w'.heap.size
  block : ∀ k, k < w.heap.size → ¬ S k → w'.heap[k]? = w.heap[k]?

def NoB : Nat → Prop := fun _ => False
def AtB (p : Nat) : Nat → Prop := fun k => k = p
def NewB (B : Nat) : Nat → Prop := fun k => B ≤ k

namespace Chg
variable {S S' : Nat → Prop} {w w' w'' : World}
theorem refl (S : Nat → Prop) (w : World) : Chg S w w := ⟨rfl, rfl, rfl, Nat.le_refl _, fun _ _ _ => rfl⟩
theorem trans (h : Chg S w w') (k : Chg S w' w'') : Chg S w w'' :=
  ⟨k.os.trans h.os, k.tape.trans h.tape, k.output.trans h.output, Nat.le_trans h.size k.size,
   fun i hi hs => (k.block i (Nat.lt_of_lt_of_le hi h.size) hs).trans (h.block i hi hs)⟩
theorem mono (h : Chg S w w') (hs : ∀ k, k < w.heap.size → S k → S' k) : Chg S' w w' :=
  ⟨h.os, h.tape, h.output, h.size, fun k hk hn => h.block k hk fun x => hn (hs k hk x)⟩
theorem any (h : Chg NoB w w') : Chg S w w' := h.mono fun _ _ x => x.elim
theorem drew (h : Chg S w w') : Chg S w w'.drew := ⟨h.os, h.tape, h.output, h.size, h.block⟩
theorem drewN (h : Chg S w w') (n : Nat) : Chg S w (w'.drewN n) := ⟨h.os, h.tape, h.output, h.size, h.block⟩
theorem ofDrew (h : Chg S w.drew w') : Chg S w w' := ⟨h.os, h.tape, h.output, h.size, h.block⟩
theorem alloc (h : Chg S w w') (o : Obj) : Chg S w (w'.alloc o) :=
  ⟨h.os, h.tape, h.output, by have := h.size; simp; omega, fun k hk hn => (Below.heap_alloc _ _ _ (Nat.lt_of_lt_of_le hk h.size)).trans (h.block k hk hn)⟩
theorem setCell (h : Chg S w w') {a : Addr} (ha : a.block < w.heap.size → S a.block) (v : Value) : Chg S w (w'.setCell a v) :=
  ⟨h.os, h.tape, h.output, by have := h.size; simpa [World.setCell] using this, fun k hk hn =>
    (Below.heap_setCell _ _ _ _ (by rintro rfl; exact hn (ha hk))).trans (h.block k hk hn)⟩
theorem setAt (w : World) (b o : Nat) (v : Value) : Chg (AtB b) w (w.setCell ⟨b, o, none⟩ v) := (refl (AtB b) w).setCell (a := ⟨b, o, none⟩) (fun _ => rfl) v
theorem grown {row : Option Nat} (h : Chg S w w') (g : w'.grownBy w'' row) (hr : ∀ k, row = some k → k < w.heap.size → S k) : Chg S w w'' :=
  ⟨g.os.trans h.os, g.tape.trans h.tape, g.output.trans h.output, Nat.le_trans h.size g.size, fun k hk hn =>
    (g.block k (Nat.lt_of_lt_of_le hk h.size) (fun e => hn (hr k e.symm hk))).trans (h.block k hk hn)⟩
theorem below {B : Nat} (h : Chg (NewB B) w w') (hB : B ≤ w.heap.size) : Below B w w' :=
  ⟨h.os, h.tape, h.output, h.size, fun k hk => h.block k (Nat.lt_of_lt_of_le hk hB) (Nat.not_le_of_lt hk)⟩
theorem ofBelow {B : Nat} (h : Below B w w') : Chg (NewB B) w w' :=
  ⟨h.os, h.tape, h.output, h.size, fun k _ hn => h.block k (Nat.lt_of_not_le hn)⟩
theorem cell (h : Chg S w w') {a : Addr} {v : Value} (hv : w.cell? a = some v) (hs : ¬ S a.block) : w'.cell? a = some v :=
  (World.cell?_of_block (h.block _ (World.block_lt_of_cell? w a hv) hs)).trans hv
theorem cellNew {B : Nat} (h : Chg (NewB B) w w') (hB : w.heap.size ≤ B) {a : Addr} {v : Value} (hv : w.cell? a = some v) : w'.cell? a = some v :=
  h.cell hv fun x => Nat.not_le_of_lt (Nat.lt_of_lt_of_le (World.block_lt_of_cell? w a hv) hB) x
theorem froz (h : Chg S w w') {a : Addr} (hl : a.block < w.heap.size) (hs : ¬ S a.block) : w'.frozen? a = w.frozen? a :=
  World.frozen?_of_block (h.block _ hl hs)
/-- What was new before the step is new after it. -/
theorem shift {B : Nat} (h : Chg S w w') (hB : B ≤ w.heap.size) (hs : ∀ k, S k → B ≤ k) (k : Chg (NewB w'.heap.size) w' w'') : Chg (NewB B) w w'' :=
  (h.mono fun k _ x => hs k x).trans (k.mono fun _ _ x => Nat.le_trans hB (Nat.le_trans h.size x))
end Chg

/-- How a value of a Lean type lies in memory: so many cells; 'f' gives the cells; what it leads to lies in blocks of A. -/
class Enc (α : Type) where
  sz : Nat
  Is : World → (Nat → Prop) → α → (Nat → Option Value) → Prop
  keep : ∀ {S A : Nat → Prop} {w w' : World} {a : α} {f : Nat → Option Value}, Is w A a f → Chg S w w' → (∀ k, A k → k < w.heap.size → ¬ S k) → Is w' A a f
  low : ∀ {A A' : Nat → Prop} {w : World} {a : α} {f : Nat → Option Value}, Is w A a f → (∀ k, A k → k < w.heap.size → A' k) → Is w A' a f
  ext : ∀ {A : Nat → Prop} {w : World} {a : α} {f g : Nat → Option Value}, Is w A a f → (∀ j, j < sz → f j = g j) → Is w A a g
  one : ∀ {A : Nat → Prop} {w : World} {a : α} {f : Nat → Option Value}, Is w A a f → ∀ j, j < sz → ∃ u, f j = some u ∧ u.oneCell' = true
  pos : 0 < sz

/-- A type that leads nowhere: its cells tell all. -/
class Flat (α : Type) [Enc α] : Prop where
  flat : ∀ {A A' : Nat → Prop} {w w' : World} {a : α} {f : Nat → Option Value}, Enc.Is w A a f → Enc.Is w' A' a f

def AnyB : Nat → Prop := fun _ => True

/-- The slice value v holds the list xs, all of it in blocks of A. -/
def IsSl {α : Type} [Enc α] (w : World) (A : Nat → Prop) (v : Value) (xs : List α) : Prop :=
  (v = .slice none 0 0 ∧ xs = []) ∨
  ∃ b off cap c e, v = .slice (some ⟨b, off, none⟩) xs.length cap ∧ A b ∧ xs.length ≤ cap ∧ cap ≤ maxLen ∧
    w.heap[b]? = some (.cells c e (0, 0)) ∧ ∀ i, (h : i < xs.length) → Enc.Is w A xs[i] (fun j => c[off + i * Enc.sz α + j]?)

section
variable {α : Type} [Enc α] {S A A' : Nat → Prop} {w w' : World} {v : Value} {xs : List α}
theorem IsSl.keep (h : IsSl w A v xs) (c : Chg S w w') (hs : ∀ k, A k → k < w.heap.size → ¬ S k) : IsSl w' A v xs := by
  rcases h with h | ⟨b, off, cap, cc, e, hv, hb, hl, hm, hh, hi⟩
  · exact .inl h
  · have hlt := (Array.getElem?_eq_some_iff.1 hh).1
    exact .inr ⟨b, off, cap, cc, e, hv, hb, hl, hm, (c.block b hlt (hs b hb hlt)).trans hh, fun i h => Enc.keep (hi i h) c hs⟩
theorem IsSl.low (h : IsSl w A v xs) (hl : ∀ k, A k → k < w.heap.size → A' k) : IsSl w A' v xs := by
  rcases h with h | ⟨b, off, cap, cc, e, hv, hb, hl', hm, hh, hi⟩
  · exact .inl h
  · exact .inr ⟨b, off, cap, cc, e, hv, hl _ hb (Array.getElem?_eq_some_iff.1 hh).1, hl', hm, hh, fun i h => Enc.low (hi i h) hl⟩
theorem IsSl.anyB (h : IsSl w A v xs) : IsSl w AnyB v xs := h.low fun _ _ _ => trivial
theorem IsSl.keepN (h : IsSl w A v xs) (c : Chg NoB w w') : IsSl w' A v xs := h.keep c fun _ _ _ x => x
theorem IsSl.keepNew {B : Nat} (h : IsSl w A v xs) (c : Chg (NewB B) w w') (hB : w.heap.size ≤ B) : IsSl w' A v xs :=
  h.keep c fun _ _ hk x => by unfold NewB at x; omega
/-- The shape of the value, for the walk. -/
theorem IsSl.shape (h : IsSl w A v xs) : ∃ a cap, v = .slice a xs.length cap ∧ xs.length ≤ cap ∧ cap ≤ maxLen := by
  rcases h with ⟨rfl, rfl⟩ | ⟨b, off, cap, cc, e, rfl, _, h1, h2, _⟩
  · exact ⟨none, 0, rfl, by simp, by simp [maxLen]⟩
  · exact ⟨_, _, rfl, h1, h2⟩
theorem IsSl.nil (w : World) (A : Nat → Prop) : IsSl w A (.slice none 0 0) ([] : List α) := .inl ⟨rfl, rfl⟩
/-- The cells of a list behind a slice: element i begins at off + i * sz. -/
theorem IsSl.cells {a : Option Addr} {n cap : Nat} (h : IsSl w A (.slice a n cap) xs) :
    n = xs.length ∧ (0 < xs.length → ∃ b off, a = some ⟨b, off, none⟩ ∧ A b ∧ ∀ i, (hi : i < xs.length) → Enc.Is w A xs[i] (fun j => w.cell? ⟨b, off + i * Enc.sz α + j, none⟩)) := by
  rcases h with ⟨hv, rfl⟩ | ⟨b, off, cap', c, e, hv, hb, _, _, hh, hi⟩
  · cases hv
    exact ⟨rfl, fun hp => by simp at hp⟩
  · cases hv
    refine ⟨rfl, fun _ => ⟨b, off, rfl, hb, fun i hlt => ?_⟩⟩
    simpa [World.cell?, hh] using hi i hlt
end

instance : Enc Int where
  sz := 1
  Is _ _ n f := f 0 = some (.int .i64 n)
  keep h _ _ := h
  low h _ := h
  ext h e := (e 0 (by omega)) ▸ h
  one h j hj := ⟨_, by obtain rfl : j = 0 := (by omega); exact h, rfl⟩
  pos := by omega
instance : Flat Int := ⟨fun h => h⟩
instance : Enc Bool where
  sz := 1
  Is _ _ b f := f 0 = some (.bool b)
  keep h _ _ := h
  low h _ := h
  ext h e := (e 0 (by omega)) ▸ h
  one h j hj := ⟨_, by obtain rfl : j = 0 := (by omega); exact h, rfl⟩
  pos := by omega
instance : Flat Bool := ⟨fun h => h⟩
instance : Enc ByteArray where
  sz := 1
  Is _ _ s f := f 0 = some (.string s)
  keep h _ _ := h
  low h _ := h
  ext h e := (e 0 (by omega)) ▸ h
  one h j hj := ⟨_, by obtain rfl : j = 0 := (by omega); exact h, rfl⟩
  pos := by omega
instance : Flat ByteArray := ⟨fun h => h⟩
instance {α : Type} [Enc α] : Enc (List α) where
  sz := 1
  Is w A xs f := ∃ v, f 0 = some v ∧ IsSl w A v xs
  keep h c hs := let ⟨v, h1, h2⟩ := h; ⟨v, h1, h2.keep c hs⟩
  low h hl := let ⟨v, h1, h2⟩ := h; ⟨v, h1, h2.low hl⟩
  ext h e := let ⟨v, h1, h2⟩ := h; ⟨v, (e 0 (by omega)) ▸ h1, h2⟩
  one h j hj := by
    obtain ⟨v, h1, h2⟩ := h
    obtain ⟨a, cap, rfl, _⟩ := h2.shape
    obtain rfl : j = 0 := by omega
    exact ⟨_, h1, rfl⟩
  pos := by omega

/-- The cells of a list of ints behind a slice. -/
theorem IsSl.ints {w : World} {A : Nat → Prop} {a : Option Addr} {n cap : Nat} {xs : List Int} (h : IsSl w A (.slice a n cap) xs) (hp : 0 < xs.length) :
    ∃ b off, a = some ⟨b, off, none⟩ ∧ A b ∧ ∀ i, (hi : i < xs.length) → w.cell? ⟨b, off + i, none⟩ = some (.int .i64 xs[i]) := by
  obtain ⟨b, off, ha, hb, hc⟩ := h.cells.2 hp
  refine ⟨b, off, ha, hb, fun i hi => ?_⟩
  have := hc i hi
  simpa [Enc.Is, Enc.sz] using this

/-- A list that the running function itself has built behind the slice v (elements of type e): v begins a block of its own, from lo on. -/
def Own {α : Type} [Enc α] (w : World) (lo : Nat) (e : TypeId) (v : Value) (xs : List α) : Prop :=
  ∃ cs, w.ownsRow lo e (Enc.sz α) v xs.length cs ∧ ∀ i, (h : i < xs.length) → Enc.Is w (fun k => lo ≤ k ∧ v.ownBlock ≠ some k) xs[i] (fun j => cs[i * Enc.sz α + j]?)

/-- The block of a slice value. -/
def blk (v : Value) : Nat → Prop := fun k => v.ownBlock = some k

section
variable {α : Type} [Enc α] {S A : Nat → Prop} {w w' : World} {v : Value} {xs : List α} {lo : Nat} {e : TypeId}
theorem Own.nil (w : World) (lo : Nat) (e : TypeId) : Own w lo e (.slice none 0 0) ([] : List α) := ⟨[], World.ownsRow_nil _ _ _ _, fun i h => by simp at h⟩
theorem Own.isSl (h : Own w lo e v xs) : IsSl w (fun k => lo ≤ k) v xs := by
  obtain ⟨cs, ⟨h1, h2⟩, hi⟩ := h
  rcases h2 with ⟨rfl, h0⟩ | ⟨g, cap, cur, rfl, hb, hg, hc, hm, hs, ht⟩
  · exact .inl ⟨rfl, List.eq_nil_of_length_eq_zero h0⟩
  · refine .inr ⟨g, 0, cap, cur, e, rfl, hb, hc, hm, hg, fun i h => Enc.ext (Enc.low (hi i h) fun _ x _ => x.1) fun j hj => ?_⟩
    have hlt : i * Enc.sz α + j < xs.length * Enc.sz α := by
      have := Nat.mul_le_mul_right (Enc.sz α) (show i + 1 ≤ xs.length from h)
      rw [Nat.add_mul] at this; omega
    rw [← ht, List.getElem?_take, if_pos hlt]
    simp
theorem Own.keep (h : Own w lo e v xs) (c : Chg S w w') (hs : ∀ k, lo ≤ k → k < w.heap.size → ¬ S k) : Own w' lo e v xs := by
  obtain ⟨cs, ⟨h1, h2⟩, hi⟩ := h
  refine ⟨cs, ⟨h1, ?_⟩, fun i h => Enc.keep (hi i h) c fun k hk hl => hs k hk.1 hl⟩
  rcases h2 with hn | ⟨g, cap, cur, hv, hb, hg, r⟩
  · exact .inl hn
  · have hlt := (Array.getElem?_eq_some_iff.1 hg).1
    exact .inr ⟨g, cap, cur, hv, hb, (c.block g hlt (hs g hb hlt)).trans hg, r⟩
/-- Of elements that lead nowhere: only the own block matters. -/
theorem Own.keepF [Flat α] (h : Own w lo e v xs) (c : Chg S w w') (hs : ∀ k, v.ownBlock = some k → ¬ S k) : Own w' lo e v xs := by
  obtain ⟨cs, ⟨h1, h2⟩, hi⟩ := h
  refine ⟨cs, ⟨h1, ?_⟩, fun i h => Flat.flat (hi i h)⟩
  rcases h2 with hn | ⟨g, cap, cur, rfl, hb, hg, r⟩
  · exact .inl hn
  · have hlt := (Array.getElem?_eq_some_iff.1 hg).1
    exact .inr ⟨g, cap, cur, rfl, hb, (c.block g hlt (hs g rfl)).trans hg, r⟩
theorem Own.shape (h : Own w lo e v xs) : ∃ a cap, v = .slice a xs.length cap ∧ xs.length ≤ cap ∧ cap ≤ maxLen := h.isSl.shape
theorem Own.lt (h : Own w lo e v xs) : ∀ k, v.ownBlock = some k → lo ≤ k ∧ k < w.heap.size := by obtain ⟨cs, h1, _⟩ := h; exact h1.lt
/-- Where there is an element the address is the head of the own block. -/
theorem Own.head {a : Option Addr} {n cap : Nat} (h : Own w lo e (.slice a n cap) xs) (hp : 0 < xs.length) : ∃ g, a = some ⟨g, 0, none⟩ ∧ lo ≤ g ∧ g < w.heap.size := by
  obtain ⟨cs, ⟨h1, h2⟩, hi⟩ := h
  rcases h2 with ⟨hv, h0⟩ | ⟨g, cap', cur, hv, hb, hg, r⟩
  · omega
  · cases hv
    exact ⟨g, rfl, hb, (Array.getElem?_eq_some_iff.1 hg).1⟩
end

theorem Own.icell {w : World} {lo e g n cap : Nat} {xs : List Int} (h : Own w lo e (.slice (some ⟨g, 0, none⟩) n cap) xs) :
    ∀ i, (hi : i < xs.length) → w.cell? ⟨g, i, none⟩ = some (.int .i64 xs[i]) := by
  intro i hi
  obtain ⟨cs, h1, h2⟩ := h
  have := h2 i hi
  simp only [Enc.Is, Enc.sz] at this
  obtain ⟨h3, h4⟩ := h1
  rcases h4 with ⟨hv, _⟩ | ⟨g', cap', cur, hv, hb, hg, hc, hm, hs, ht⟩
  · cases hv
  · cases hv
    rw [← ht, List.getElem?_take] at this
    split at this
    · simpa [World.cell?, hg] using this
    · cases this
theorem Own.froz {α : Type} [Enc α] {w : World} {lo e g n cap : Nat} {xs : List α} (h : Own w lo e (.slice (some ⟨g, 0, none⟩) n cap) xs) (i : Nat) : w.frozen? ⟨g, i, none⟩ = false := by
  obtain ⟨cs, ⟨h3, h4⟩, h2⟩ := h
  rcases h4 with ⟨hv, _⟩ | ⟨g', cap', cur, hv, hb, hg, _⟩
  · cases hv
  · cases hv
    simp [World.frozen?, hg]

end Go.Proofs.YtgikefjbdhnffaaDoor
