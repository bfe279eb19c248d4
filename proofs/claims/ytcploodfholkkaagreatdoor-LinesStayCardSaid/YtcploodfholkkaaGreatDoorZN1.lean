/- Part 1 of a proof: the walks and laws that it needs. -/
import Derived.WalkKit
import Derived.WalkSpells
import Derived.WalkLawsBesides
import Derived.Test.YtcploodfholkkaaGreatDoorProg
import Derived.Deep.QuietTactic
import Derived.BigQuiet
import Derived.Laws.CopyRow
import Derived.Laws.AppendOwn
import Derived.Laws.MakeOwn
import Derived.OrdersHeld
import Derived.RegionTactic
import Derived.Lib.LaidTab
import Derived.Lib.ItoaNum
import Derived.Shelf.Strings.SlTrimAscii
import Derived.Shelf.Strings.Builder1
import Derived.Shelf.Strings.Builder2
import Derived.Shelf.Strings.OnBuilder
import Derived.Shelf.Strings.Trim
import Derived.Shelf.Small.Utf8
import Derived.Shelf.Small.Bits
import Derived.Shelf.Small.Strs
import Derived.Shelf.Small.Wraps
import Derived.Shelf.Strconv.Atoi
import Derived.Shelf.Strconv.Itoa0
import Derived.Shelf.Strconv.Itoa1
import Derived.Shelf.LaysM
import Derived.Shelf.Strconv.Itoa2
import Derived.Shelf.Strconv.Itoa3
import Derived.Shelf.Strings.Search1
import Derived.Shelf.Strings.Search2
import Derived.Shelf.Strings.Search3
import Derived.Shelf.Strings.Cut
import Derived.Shelf.Strings.Count
import Derived.Shelf.Strings.Shaped
import Derived.Shelf.Sort.Plain
import Derived.Shelf.Strings.Prefix
import Derived.Shelf.Strings.Split
import Derived.Shelf.Strings.Runes
import Derived.Shelf.Strings.AsciiSet
import Derived.Shelf.Unicode.DecodeSlow
import Derived.Ground.SlsfProg
import Derived.Shelf.SlSortCmp.Insertion
import Derived.Ground.SlgmProg
import Derived.Shelf.SortM.SortNone
import Derived.Shelf.SlSortCmp.SiftDown1
import Derived.Shelf.SlSortCmp.HeapSort1
import Derived.Shelf.SlSortCmp.Insertion1
import Derived.Shelf.SlSortCmp.Median1
import Derived.Shelf.SlSortCmp.Pivot1
import Derived.Shelf.SlSortCmp.ReverseRange1
import Derived.Shelf.SlSortCmp.PartialInsertion1
import Derived.Shelf.SlSortCmp.PartitionEqual1
import Derived.Shelf.SlSortCmp.Partition1
import Derived.Shelf.SlSortCmp.Pdq1
import Derived.Shelf.SlSortCmp.Whole1
import Derived.Shelf.SlSortCmp.NoneTotal
import Derived.Lib.SliceRun
import Derived.Below
set_option linter.unusedVariables false
set_option linter.unusedSimpArgs false
namespace Go.Proofs.YtcploodfholkkaaGreatDoor
open Go.RowKit
set_option maxRecDepth 100000
section
theorem ret_int {k : IntKind} {a b : Int} (h : a = b) : Ending.returned (.int k a) = .returned (.int k b) := by rw [h]
theorem ret_bool {a b : Bool} (h : a = b) : Ending.returned (.bool a) = .returned (.bool b) := by rw [h]
theorem hid {p : Prop} (h : p) : Hid p := h
@[go_sem ↓] theorem max_two (ats : Array TypeId) (ty : TypeId) (x y : Int) : Builtin.max_ ats ty #[.int .i64 x, .int .i64 y] = pure (.int .i64 (max x y)) := by
 show (do let v ← Builtin.max2 (.int .i64 x) (.int .i64 y); pure v : Sem Value) = _
 have : (if y > x then y else x) = max x y := by rw [Int.max_def]; split <;> split <;> omega
 rw [← this]; rfl
@[go_sem ↓] theorem min_two (ats : Array TypeId) (ty : TypeId) (x y : Int) : Builtin.min_ ats ty #[.int .i64 x, .int .i64 y] = pure (.int .i64 (min x y)) := by
 show (do let v ← Builtin.min2 (.int .i64 x) (.int .i64 y); pure v : Sem Value) = _
 have : (if y < x then y else x) = min x y := by rw [Int.min_def]; split <;> split <;> omega
 rw [← this]; rfl
structure Chg (S : Nat → Prop) (w w' : World) : Prop where
 os : w'.os = w.os
 tape : w'.tape = w.tape
 output : w'.output = w.output
 size : w.heap.size ≤ w'.heap.size
 block : ∀ k, k < w.heap.size → ¬ S k → w'.heap[k]? = w.heap[k]?
def NoB : Nat → Prop := fun _ => False
def AtB (p : Nat) : Nat → Prop := fun k => k = p
def NewB (B : Nat) : Nat → Prop := fun k => B ≤ k
namespace Chg
variable {S S' : Nat → Prop} {w w' w'' : World}
theorem refl (S : Nat → Prop) (w : World) : Chg S w w := ⟨rfl, rfl, rfl, Nat.le_refl _, fun _ _ _ => rfl⟩
theorem trans (h : Chg S w w') (k : Chg S w' w'') : Chg S w w'' :=
  ⟨k.os.trans h.os, k.tape.trans h.tape, k.output.trans h.output, Nat.le_trans h.size k.size,
   fun i hi hs => (k.block i (Nat.lt_of_lt_of_le hi h.size) hs).trans (h.block i hi hs)⟩
theorem mono (h : Chg S w w') (hs : ∀ k, k < w.heap.size → S k → S' k) : Chg S' w w' :=
 ⟨h.os, h.tape, h.output, h.size, fun k hk hn => h.block k hk fun x => hn (hs k hk x)⟩
theorem any (h : Chg NoB w w') : Chg S w w' := h.mono fun _ _ x => x.elim
theorem drew (h : Chg S w w') : Chg S w w'.drew := ⟨h.os, h.tape, h.output, h.size, h.block⟩
theorem drewN (h : Chg S w w') (n : Nat) : Chg S w (w'.drewN n) := ⟨h.os, h.tape, h.output, h.size, h.block⟩
theorem ofDrew (h : Chg S w.drew w') : Chg S w w' := ⟨h.os, h.tape, h.output, h.size, h.block⟩
theorem alloc (h : Chg S w w') (o : Obj) : Chg S w (w'.alloc o) :=
 ⟨h.os, h.tape, h.output, by have := h.size; simp; omega, fun k hk hn => (Below.heap_alloc _ _ _ (Nat.lt_of_lt_of_le hk h.size)).trans (h.block k hk hn)⟩
theorem setCell (h : Chg S w w') {a : Addr} (ha : a.block < w.heap.size → S a.block) (v : Value) : Chg S w (w'.setCell a v) :=
 ⟨h.os, h.tape, h.output, by have := h.size; simpa [World.setCell] using this, fun k hk hn =>
  (Below.heap_setCell _ _ _ _ (by rintro rfl; exact hn (ha hk))).trans (h.block k hk hn)⟩
theorem setAt (w : World) (b o : Nat) (v : Value) : Chg (AtB b) w (w.setCell ⟨b, o, none⟩ v) := (refl (AtB b) w).setCell (a := ⟨b, o, none⟩) (fun _ => rfl) v
theorem grown {row : Option Nat} (h : Chg S w w') (g : w'.grownBy w'' row) (hr : ∀ k, row = some k → k < w.heap.size → S k) : Chg S w w'' :=
 ⟨g.os.trans h.os, g.tape.trans h.tape, g.output.trans h.output, Nat.le_trans h.size g.size, fun k hk hn =>
  (g.block k (Nat.lt_of_lt_of_le hk h.size) (fun e => hn (hr k e.symm hk))).trans (h.block k hk hn)⟩
theorem below {B : Nat} (h : Chg (NewB B) w w') (hB : B ≤ w.heap.size) : Below B w w' :=
 ⟨h.os, h.tape, h.output, h.size, fun k hk => h.block k (Nat.lt_of_lt_of_le hk hB) (Nat.not_le_of_lt hk)⟩
theorem ofBelow {B : Nat} (h : Below B w w') : Chg (NewB B) w w' :=
 ⟨h.os, h.tape, h.output, h.size, fun k _ hn => h.block k (Nat.lt_of_not_le hn)⟩
theorem cell (h : Chg S w w') {a : Addr} {v : Value} (hv : w.cell? a = some v) (hs : ¬ S a.block) : w'.cell? a = some v :=
 (World.cell?_of_block (h.block _ (World.block_lt_of_cell? w a hv) hs)).trans hv
theorem cellNew {B : Nat} (h : Chg (NewB B) w w') (hB : w.heap.size ≤ B) {a : Addr} {v : Value} (hv : w.cell? a = some v) : w'.cell? a = some v :=
 h.cell hv fun x => Nat.not_le_of_lt (Nat.lt_of_lt_of_le (World.block_lt_of_cell? w a hv) hB) x
theorem froz (h : Chg S w w') {a : Addr} (hl : a.block < w.heap.size) (hs : ¬ S a.block) : w'.frozen? a = w.frozen? a :=
 World.frozen?_of_block (h.block _ hl hs)
theorem shift {B : Nat} (h : Chg S w w') (hB : B ≤ w.heap.size) (hs : ∀ k, S k → B ≤ k) (k : Chg (NewB w'.heap.size) w' w'') : Chg (NewB B) w w'' :=
 (h.mono fun k _ x => hs k x).trans (k.mono fun _ _ x => Nat.le_trans hB (Nat.le_trans h.size x))
end Chg
class Enc (α : Type) where
 sz : Nat
 Is : World → (Nat → Prop) → α → (Nat → Option Value) → Prop
 keep : ∀ {S A : Nat → Prop} {w w' : World} {a : α} {f : Nat → Option Value}, Is w A a f → Chg S w w' → (∀ k, A k → k < w.heap.size → ¬ S k) → Is w' A a f
 low : ∀ {A A' : Nat → Prop} {w : World} {a : α} {f : Nat → Option Value}, Is w A a f → (∀ k, A k → k < w.heap.size → A' k) → Is w A' a f
 ext : ∀ {A : Nat → Prop} {w : World} {a : α} {f g : Nat → Option Value}, Is w A a f → (∀ j, j < sz → f j = g j) → Is w A a g
 one : ∀ {A : Nat → Prop} {w : World} {a : α} {f : Nat → Option Value}, Is w A a f → ∀ j, j < sz → ∃ u, f j = some u ∧ u.oneCell' = true
 pos : 0 < sz
class Flat (α : Type) [Enc α] : Prop where
 flat : ∀ {A A' : Nat → Prop} {w w' : World} {a : α} {f : Nat → Option Value}, Enc.Is w A a f → Enc.Is w' A' a f
def IsSl {α : Type} [Enc α] (w : World) (A : Nat → Prop) (v : Value) (xs : List α) : Prop :=
 (v = .slice none 0 0 ∧ xs = []) ∨
 ∃ b off cap c e, v = .slice (some ⟨b, off, none⟩) xs.length cap ∧ A b ∧ xs.length ≤ cap ∧ cap ≤ maxLen ∧
  w.heap[b]? = some (.cells c e (0, 0)) ∧ ∀ i, (h : i < xs.length) → Enc.Is w A xs[i] (fun j => c[off + i * Enc.sz α + j]?)
section
variable {α : Type} [Enc α] {S A A' : Nat → Prop} {w w' : World} {v : Value} {xs : List α}
theorem IsSl.keep (h : IsSl w A v xs) (c : Chg S w w') (hs : ∀ k, A k → k < w.heap.size → ¬ S k) : IsSl w' A v xs := by
 rcases h with h | ⟨b, off, cap, cc, e, hv, hb, hl, hm, hh, hi⟩
 ·exact .inl h
 ·have hlt := (Array.getElem?_eq_some_iff.1 hh).1
  exact .inr ⟨b, off, cap, cc, e, hv, hb, hl, hm, (c.block b hlt (hs b hb hlt)).trans hh, fun i h => Enc.keep (hi i h) c hs⟩
theorem IsSl.low (h : IsSl w A v xs) (hl : ∀ k, A k → k < w.heap.size → A' k) : IsSl w A' v xs := by
 rcases h with h | ⟨b, off, cap, cc, e, hv, hb, hl', hm, hh, hi⟩
 ·exact .inl h
 ·exact .inr ⟨b, off, cap, cc, e, hv, hl _ hb (Array.getElem?_eq_some_iff.1 hh).1, hl', hm, hh, fun i h => Enc.low (hi i h) hl⟩
theorem IsSl.keepN (h : IsSl w A v xs) (c : Chg NoB w w') : IsSl w' A v xs := h.keep c fun _ _ _ x => x
theorem IsSl.shape (h : IsSl w A v xs) : ∃ a cap, v = .slice a xs.length cap ∧ xs.length ≤ cap ∧ cap ≤ maxLen := by
 rcases h with ⟨rfl, rfl⟩ | ⟨b, off, cap, cc, e, rfl, _, h1, h2, _⟩
 ·exact ⟨none, 0, rfl, by simp, by simp [maxLen]⟩
 ·exact ⟨_, _, rfl, h1, h2⟩
theorem IsSl.nil (w : World) (A : Nat → Prop) : IsSl w A (.slice none 0 0) ([] : List α) := .inl ⟨rfl, rfl⟩
theorem IsSl.cells {a : Option Addr} {n cap : Nat} (h : IsSl w A (.slice a n cap) xs) :
  n = xs.length ∧ (0 < xs.length → ∃ b off, a = some ⟨b, off, none⟩ ∧ A b ∧ ∀ i, (hi : i < xs.length) → Enc.Is w A xs[i] (fun j => w.cell? ⟨b, off + i * Enc.sz α + j, none⟩)) := by
 rcases h with ⟨hv, rfl⟩ | ⟨b, off, cap', c, e, hv, hb, _, _, hh, hi⟩
 ·cases hv
  exact ⟨rfl, fun hp => by simp at hp⟩
 ·cases hv
  refine ⟨rfl, fun _ => ⟨b, off, rfl, hb, fun i hlt => ?_⟩⟩
  simpa [World.cell?, hh] using hi i hlt
end
instance : Enc Int where
 sz := 1
 Is _ _ n f := f 0 = some (.int .i64 n)
 keep h _ _ := h
 low h _ := h
 ext h e := (e 0 (by omega)) ▸ h
 one h j hj := ⟨_, by obtain rfl : j = 0 := (by omega); exact h, rfl⟩
 pos := by omega
instance : Flat Int := ⟨fun h => h⟩
instance : Enc Bool where
 sz := 1
 Is _ _ b f := f 0 = some (.bool b)
 keep h _ _ := h
 low h _ := h
 ext h e := (e 0 (by omega)) ▸ h
 one h j hj := ⟨_, by obtain rfl : j = 0 := (by omega); exact h, rfl⟩
 pos := by omega
instance : Flat Bool := ⟨fun h => h⟩
instance : Enc ByteArray where
 sz := 1
 Is _ _ s f := f 0 = some (.string s)
 keep h _ _ := h
 low h _ := h
 ext h e := (e 0 (by omega)) ▸ h
 one h j hj := ⟨_, by obtain rfl : j = 0 := (by omega); exact h, rfl⟩
 pos := by omega
instance : Flat ByteArray := ⟨fun h => h⟩
instance {α : Type} [Enc α] : Enc (List α) where
 sz := 1
 Is w A xs f := ∃ v, f 0 = some v ∧ IsSl w A v xs
 keep h c hs := let ⟨v, h1, h2⟩ := h; ⟨v, h1, h2.keep c hs⟩
 low h hl := let ⟨v, h1, h2⟩ := h; ⟨v, h1, h2.low hl⟩
 ext h e := let ⟨v, h1, h2⟩ := h; ⟨v, (e 0 (by omega)) ▸ h1, h2⟩
 one h j hj := by
  obtain ⟨v, h1, h2⟩ := h
  obtain ⟨a, cap, rfl, _⟩ := h2.shape
  obtain rfl : j = 0 := by omega
  exact ⟨_, h1, rfl⟩
 pos := by omega
theorem IsSl.ints {w : World} {A : Nat → Prop} {a : Option Addr} {n cap : Nat} {xs : List Int} (h : IsSl w A (.slice a n cap) xs) (hp : 0 < xs.length) :
  ∃ b off, a = some ⟨b, off, none⟩ ∧ A b ∧ ∀ i, (hi : i < xs.length) → w.cell? ⟨b, off + i, none⟩ = some (.int .i64 xs[i]) := by
 obtain ⟨b, off, ha, hb, hc⟩ := h.cells.2 hp
 refine ⟨b, off, ha, hb, fun i hi => ?_⟩
 have := hc i hi
 simpa [Enc.Is, Enc.sz] using this
def Own {α : Type} [Enc α] (w : World) (lo : Nat) (e : TypeId) (v : Value) (xs : List α) : Prop :=
 ∃ cs, w.ownsRow lo e (Enc.sz α) v xs.length cs ∧ ∀ i, (h : i < xs.length) → Enc.Is w (fun k => lo ≤ k ∧ v.ownBlock ≠ some k) xs[i] (fun j => cs[i * Enc.sz α + j]?)
def blk (v : Value) : Nat → Prop := fun k => v.ownBlock = some k
section
variable {α : Type} [Enc α] {S A : Nat → Prop} {w w' : World} {v : Value} {xs : List α} {lo : Nat} {e : TypeId}
theorem Own.nil (w : World) (lo : Nat) (e : TypeId) : Own w lo e (.slice none 0 0) ([] : List α) := ⟨[], World.ownsRow_nil _ _ _ _, fun i h => by simp at h⟩
theorem Own.isSl (h : Own w lo e v xs) : IsSl w (fun k => lo ≤ k) v xs := by
 obtain ⟨cs, ⟨h1, h2⟩, hi⟩ := h
 rcases h2 with ⟨rfl, h0⟩ | ⟨g, cap, cur, rfl, hb, hg, hc, hm, hs, ht⟩
 ·exact .inl ⟨rfl, List.eq_nil_of_length_eq_zero h0⟩
 ·refine .inr ⟨g, 0, cap, cur, e, rfl, hb, hc, hm, hg, fun i h => Enc.ext (Enc.low (hi i h) fun _ x _ => x.1) fun j hj => ?_⟩
  have hlt : i * Enc.sz α + j < xs.length * Enc.sz α := by
   have := Nat.mul_le_mul_right (Enc.sz α) (show i + 1 ≤ xs.length from h)
   rw [Nat.add_mul] at this; omega
  rw [← ht, List.getElem?_take, if_pos hlt]
  simp
theorem Own.keep (h : Own w lo e v xs) (c : Chg S w w') (hs : ∀ k, lo ≤ k → k < w.heap.size → ¬ S k) : Own w' lo e v xs := by
 obtain ⟨cs, ⟨h1, h2⟩, hi⟩ := h
 refine ⟨cs, ⟨h1, ?_⟩, fun i h => Enc.keep (hi i h) c fun k hk hl => hs k hk.1 hl⟩
 rcases h2 with hn | ⟨g, cap, cur, hv, hb, hg, r⟩
 ·exact .inl hn
 ·have hlt := (Array.getElem?_eq_some_iff.1 hg).1
  exact .inr ⟨g, cap, cur, hv, hb, (c.block g hlt (hs g hb hlt)).trans hg, r⟩
theorem Own.keepF [Flat α] (h : Own w lo e v xs) (c : Chg S w w') (hs : ∀ k, v.ownBlock = some k → ¬ S k) : Own w' lo e v xs := by
 obtain ⟨cs, ⟨h1, h2⟩, hi⟩ := h
 refine ⟨cs, ⟨h1, ?_⟩, fun i h => Flat.flat (hi i h)⟩
 rcases h2 with hn | ⟨g, cap, cur, rfl, hb, hg, r⟩
 ·exact .inl hn
 ·have hlt := (Array.getElem?_eq_some_iff.1 hg).1
  exact .inr ⟨g, cap, cur, rfl, hb, (c.block g hlt (hs g rfl)).trans hg, r⟩
theorem Own.shape (h : Own w lo e v xs) : ∃ a cap, v = .slice a xs.length cap ∧ xs.length ≤ cap ∧ cap ≤ maxLen := h.isSl.shape
theorem Own.lt (h : Own w lo e v xs) : ∀ k, v.ownBlock = some k → lo ≤ k ∧ k < w.heap.size := by obtain ⟨cs, h1, _⟩ := h; exact h1.lt
theorem Own.head {a : Option Addr} {n cap : Nat} (h : Own w lo e (.slice a n cap) xs) (hp : 0 < xs.length) : ∃ g, a = some ⟨g, 0, none⟩ ∧ lo ≤ g ∧ g < w.heap.size := by
 obtain ⟨cs, ⟨h1, h2⟩, hi⟩ := h
 rcases h2 with ⟨hv, h0⟩ | ⟨g, cap', cur, hv, hb, hg, r⟩
 ·omega
 ·cases hv
  exact ⟨g, rfl, hb, (Array.getElem?_eq_some_iff.1 hg).1⟩
end
theorem Own.froz {α : Type} [Enc α] {w : World} {lo e g n cap : Nat} {xs : List α} (h : Own w lo e (.slice (some ⟨g, 0, none⟩) n cap) xs) (i : Nat) : w.frozen? ⟨g, i, none⟩ = false := by
 obtain ⟨cs, ⟨h3, h4⟩, h2⟩ := h
 rcases h4 with ⟨hv, _⟩ | ⟨g', cap', cur, hv, hb, hg, _⟩
 ·cases hv
 ·cases hv
  simp [World.frozen?, hg]
end
section
def below (x n : Int) : Int := if n < 1 then 0 else x % n
theorem below_lo (x n : Int) : 0 ≤ below x n := by unfold below; split; omega; exact Int.emod_nonneg _ (by omega)
theorem below_lt (x n : Int) (h : 1 ≤ n) : below x n < n := by unfold below; rw [if_neg (by omega)]; exact Int.emod_lt_of_pos _ (by omega)
theorem tmod_facts (x n : Int) (h : 1 ≤ n) : x.tmod n < n ∧ -n < x.tmod n ∧ (x.tmod n < 0 → x.tmod n + n = x % n) ∧ (0 ≤ x.tmod n → x.tmod n = x % n) := by
 have hn := Int.emod_nonneg x (show n ≠ 0 by omega)
 have hl := Int.emod_lt_of_pos x (show 0 < n by omega)
 by_cases h0 : 0 ≤ x
 ·rw [Int.tmod_eq_emod_of_nonneg h0]
  exact ⟨hl, by omega, fun _ => by omega, fun _ => rfl⟩
 ·have e : x.tmod n = -((-x) % n) := by
   rw [← Int.tmod_eq_emod_of_nonneg (by omega : 0 ≤ -x), Int.neg_tmod, Int.neg_neg]
  have hn' := Int.emod_nonneg (-x) (show n ≠ 0 by omega)
  have hl' := Int.emod_lt_of_pos (-x) (show 0 < n by omega)
  have e2 := Int.neg_emod (a := x) (b := n)
  rw [e]
  split at e2
  ·have : x % n = 0 := Int.emod_eq_zero_of_dvd ‹_›
   exact ⟨by omega, by omega, fun _ => by omega, fun _ => by omega⟩
  ·have e3 : (n.natAbs : Int) = n := by omega
   rw [e3] at e2
   exact ⟨by omega, by omega, fun _ => by omega, fun _ => by omega⟩
set_option maxHeartbeats 400000 in
theorem below_any (x n : Int) (w : World) (hn : n ≤ 9223372036854775807) :
  Calls Tryz.prog 163 #[.int .i64 x, .int .i64 n] w fun e w' => e = .returned (.int .i64 (below x n)) ∧ w = w' := by
 by_cases h1 : n < 1
 ·go_enter Tryz.func163, Tryz.ntmps163
  go_wp2
  go_ret
  exact ⟨by simp [below, h1], rfl⟩
 ·obtain ⟨b1, b2, b3, b4⟩ := tmod_facts x n (by omega)
  have B3 := hid b3; clear b3
  have B4 := hid b4; clear b4
  go_enter Tryz.func163, Tryz.ntmps163
  go_wp2
  ·go_ret
   exact ⟨ret_int (by rw [below, if_neg (by omega)]; exact B3.out (by omega)), rfl⟩
  ·go_ret
   exact ⟨ret_int (by rw [below, if_neg (by omega)]; exact B4.out (by omega)), rfl⟩
def nxt (L : List Int) (k : Nat) (n : Int) : Int :=
 if L.length = 0 then below (((k : Int) + 1) * 7919) n
 else below (below (L.getD (k % L.length) 0) 1073741824 + ((k / L.length : Nat) : Int) * (7919 + ((k % L.length : Nat) : Int))) n
theorem nxt_lo (L : List Int) (k : Nat) (n : Int) : 0 ≤ nxt L k n := by unfold nxt; split <;> exact below_lo _ _
theorem nxt_lt (L : List Int) (k : Nat) (n : Int) (h : 1 ≤ n) : nxt L k n < n := by unfold nxt; split <;> exact below_lt _ _ h
def Strm (w : World) (p : Nat) (L : List Int) (k : Nat) : Prop :=
 ∃ a cap, w.heap[p]? = some (.cells #[.slice a L.length cap, .int .i64 k] 25 (0, 0)) ∧ L.length ≤ 9223372036854775807 ∧
  ∀ i, i < L.length → ∃ b o, a = some ⟨b, o, none⟩ ∧ b < p ∧ w.cell? ⟨b, o + i, none⟩ = some (.int .i64 (L.getD i 0))
theorem Strm.keep {S : Nat → Prop} {w w' : World} {p : Nat} {L : List Int} {k : Nat} (h : Strm w p L k) (c : Chg S w w') (hs : ∀ j, j ≤ p → ¬ S j) : Strm w' p L k := by
 obtain ⟨a, cap, hp, hl, hc⟩ := h
 have hlt := (Array.getElem?_eq_some_iff.1 hp).1
 refine ⟨a, cap, (c.block p hlt (hs p (Nat.le_refl _))).trans hp, hl, fun i hi => ?_⟩
 obtain ⟨b, o, ha, hb, hcell⟩ := hc i hi
 exact ⟨b, o, ha, hb, c.cell hcell (hs _ (Nat.le_of_lt hb))⟩
theorem Strm.lt {w : World} {p : Nat} {L : List Int} {k : Nat} (h : Strm w p L k) : p < w.heap.size := by
 obtain ⟨a, cap, hp, hl, hc⟩ := h
 exact (Array.getElem?_eq_some_iff.1 hp).1
theorem Strm.step {w : World} {p : Nat} {L : List Int} {k : Nat} {a : Option Addr} {cap : Nat}
  (hp : w.heap[p]? = some (.cells #[.slice a L.length cap, .int .i64 k] 25 (0, 0))) (hl : L.length ≤ 9223372036854775807)
  (hc : ∀ i, i < L.length → ∃ b o, a = some ⟨b, o, none⟩ ∧ b < p ∧ w.cell? ⟨b, o + i, none⟩ = some (.int .i64 (L.getD i 0))) :
  Strm (w.setCell ⟨p, 1, none⟩ (.int .i64 ((k : Int) + 1))) p L (k + 1) := by
 refine ⟨a, cap, ?_, hl, fun i hi => ?_⟩
 ·simp [World.setCell, Array.getElem?_modify, hp]
 ·obtain ⟨b, o, ha, hb, hcell⟩ := hc i hi
  refine ⟨b, o, ha, hb, ?_⟩
  rw [← hcell]
  exact World.cell?_of_block (Below.heap_setCell _ _ _ _ (Nat.ne_of_lt hb))
def rng (L : List Int) (k : Nat) (lo hi : Int) : Int := lo + nxt L k (hi - lo + 1)
theorem rng_lo (L : List Int) (k : Nat) (lo hi : Int) : lo ≤ rng L k lo hi := by unfold rng; have := nxt_lo L k (hi - lo + 1); omega
theorem rng_hi (L : List Int) (k : Nat) (lo hi : Int) (h : lo ≤ hi) : rng L k lo hi ≤ hi := by unfold rng; have := nxt_lt L k (hi - lo + 1) (by omega); omega
def pick (L : List Int) (k : Nat) (xs : List Int) : Int := xs.getD (nxt L k xs.length).toNat 0
end
section
inductive AV where
 | v (x : Value)
 | im (n sz : Nat) (f : Nat → AV)
 | at_ (m : Nat) (f : Nat → AV)
 | agg (cs : List AV)
 | tup (cs : List AV)
 | fn (F : FuncId) (cs : List AV)
 | mpv (n : Nat) (ks : Nat → Value) (f : Nat → AV)
 | any
inductive Rep (w : World) (Z : Nat → Prop) : AV → Value → Prop where
 | v (x : Value) : Rep w Z (.v x) x
 | any (x : Value) : Rep w Z .any x
 | nil (sz : Nat) (f : Nat → AV) : Rep w Z (.im 0 sz f) (.slice none 0 0)
 | im (n sz : Nat) (f : Nat → AV) (b off cap : Nat) (c : Array Value) (e : TypeId) (u : Nat → Value) (hZ : Z b) (h1 : n ≤ cap) (h2 : cap ≤ maxLen)
   (hb : w.heap[b]? = some (.cells c e (0, 0))) (hc : ∀ j, j < n * sz → c[off + j]? = some (u j)) (hr : ∀ j, j < n * sz → Rep w Z (f j) (u j)) : Rep w Z (.im n sz f) (.slice (some ⟨b, off, none⟩) n cap)
 | at_ (m : Nat) (f : Nat → AV) (b off : Nat) (c : Array Value) (e : TypeId) (u : Nat → Value) (hZ : Z b)
   (hb : w.heap[b]? = some (.cells c e (0, 0))) (hc : ∀ j, j < m → c[off + j]? = some (u j)) (hr : ∀ j, j < m → Rep w Z (f j) (u j)) : Rep w Z (.at_ m f) (.pointer (some ⟨b, off, none⟩))
 | agg (cs : List AV) (us : Array Value) (hl : us.size = cs.length) (hr : ∀ j, (h : j < cs.length) → Rep w Z cs[j] (us.getD j undef)) : Rep w Z (.agg cs) (.agg us)
 | tup (cs : List AV) (us : Array Value) (hl : us.size = cs.length) (hr : ∀ j, (h : j < cs.length) → Rep w Z cs[j] (us.getD j undef)) : Rep w Z (.tup cs) (.tuple us)
 | fn (F : FuncId) (cs : List AV) (us : Array Value) (hl : us.size = cs.length) (hr : ∀ j, (h : j < cs.length) → Rep w Z cs[j] (us.getD j undef)) : Rep w Z (.fn F cs) (.func (.func F) #[] us)
 | mpv (n : Nat) (ks : Nat → Value) (f : Nat → AV) (b : Nat) (es : Array MapEntry) (clk : Nat) (hZ : Z b) (hb : w.heap[b]? = some (.map es clk)) (hn : es.size = n) (hk : ∀ j, j < n → (es[j]!).key = ks j ∧ (es[j]!).born < clk)
   (hd : (es.toList.map (·.born)).Nodup) (hr : ∀ j, j < n → Rep w Z (f j) (es[j]!).val) : Rep w Z (.mpv n ks f) (.map (some b))
theorem Rep.keep {w w' : World} {Z Z' : Nat → Prop} (hb : ∀ b, Z b → b < w.heap.size → w'.heap[b]? = w.heap[b]? ∧ Z' b) {x : AV} {u : Value} (h : Rep w Z x u) : Rep w' Z' x u := by
 induction h with
 | v x => exact .v x
 | any x => exact .any x
 | nil sz f => exact .nil sz f
 | im n sz f b off cap c e u hZ h1 h2 hbb hc hr ih =>
  obtain ⟨k1, k2⟩ := hb b hZ (Array.getElem?_eq_some_iff.1 hbb).1
  exact .im n sz f b off cap c e u k2 h1 h2 (k1.trans hbb) hc ih
 | at_ m f b off c e u hZ hbb hc hr ih =>
  obtain ⟨k1, k2⟩ := hb b hZ (Array.getElem?_eq_some_iff.1 hbb).1
  exact .at_ m f b off c e u k2 (k1.trans hbb) hc ih
 | agg cs us hl hr ih => exact .agg cs us hl ih
 | tup cs us hl hr ih => exact .tup cs us hl ih
 | fn F cs us hl hr ih => exact .fn F cs us hl ih
 | mpv n ks f b es clk hZ hbb hn hk hd hr ih =>
  obtain ⟨k1, k2⟩ := hb b hZ (Array.getElem?_eq_some_iff.1 hbb).1
  exact .mpv n ks f b es clk k2 (k1.trans hbb) hn hk hd ih
structure Own' where
 cs : List AV
 ty : TypeId
 tot : Nat
inductive Ent where
 | box (g : Nat) (o : Own')
 | row (u : Value) (n sz : Nat) (cs : List AV) (ty : TypeId)
 | mp (g : Nat) (es : List (Value × AV × Nat)) (clk : Nat)
 | it (g : Nat) (n : Nat) (ks : Nat → Value) (f : Nat → AV) (seen : List Nat)
 | ob (g : Nat) (o : Obj)
def Ent.blk : Ent → Option Nat
 | .box g _ => some g
 | .row u _ _ _ _ => u.ownBlock
 | .mp g _ _ => some g
 | .it g _ _ _ _ => some g
 | .ob g _ => some g
def EntR (w : World) (Z : Nat → Prop) : Ent → Prop
 | .box g o => ∃ c, w.heap[g]? = some (.cells c o.ty (0, 0)) ∧ c.size = o.tot ∧ o.cs.length ≤ o.tot ∧ ∀ j, (h : j < o.cs.length) → ∃ u, c[j]? = some u ∧ Rep w Z o.cs[j] u
 | .row u n sz cs ty => cs.length = n * sz ∧ ((u = .slice none 0 0 ∧ n = 0) ∨ ∃ g cap c, u = .slice (some ⟨g, 0, none⟩) n cap ∧ n ≤ cap ∧ cap ≤ maxLen ∧ w.heap[g]? = some (.cells c ty (0, 0)) ∧ c.size = cap * sz ∧
   ∀ j, (h : j < cs.length) → ∃ u, c[j]? = some u ∧ Rep w Z cs[j] u)
 | .mp g es clk => ∃ c, w.heap[g]? = some (.map c clk) ∧ c.size = es.length ∧ (es.map (·.2.2)).Nodup ∧ ∀ j, (h : j < es.length) → (c[j]!).key = es[j].1 ∧ (c[j]!).born = es[j].2.2 ∧ es[j].2.2 < clk ∧ Rep w Z es[j].2.1 (c[j]!).val
 | .it g n ks f seen => ∃ m c clk last sb, Z m ∧ w.heap[m]? = some (.map c clk) ∧ c.size = n ∧ (c.toList.map (·.born)).Nodup ∧ (∀ j, j < n → (c[j]!).key = ks j ∧ (c[j]!).born < clk ∧ Rep w Z (f j) (c[j]!).val) ∧
   w.heap[g]? = some (.mapIter (some m) clk sb last) ∧ (last = clk ∧ ∀ j, seen.head? = some j → j < n ∧ sb.back? = some (c[j]!).born) ∧ (∀ j, j < n → (sb.contains (c[j]!).born = true ↔ j ∈ seen))
 | .ob g o => w.heap[g]? = some o
structure St' where
 sl : List (Nat × AV)
 hp : List Ent
 k : Nat
def look : List (Nat × AV) → Nat → Option AV
 | [], _ => none
 | (k, x) :: r, t => match Nat.beq k t with
  | true => some x
  | false => look r t
def St'.put (s : St') (d : Option Nat) (x : AV) : St' := match d with
 | some d => ⟨(d, x) :: s.sl, s.hp, s.k⟩
 | none => s
structure Bs where
 w0 : World
 S : Nat → Prop
 A : Nat → Prop
 nt : Nat
 str : Nat → Prop
 low : Nat → Prop
 T : World → Nat → Prop
structure Bs.Ok (B : Bs) : Prop where
 keep : ∀ {S : Nat → Prop} {w w' : World} {k : Nat}, B.T w k → Chg S w w' → (∀ j, B.low j → ¬ S j) → B.T w' k
 low : ∀ j, B.low j → j < B.w0.heap.size
 str : ∀ j, B.str j → B.low j ∧ B.S j
 up : ∀ {w : World} {k k' : Nat}, B.T w k → k ≤ k' → B.T w k'
def Zn (B : Bs) (hp : List Ent) (w : World) : Nat → Prop := fun b => b < w.heap.size ∧ (∀ p ∈ hp, p.blk ≠ some b) ∧ (b < B.w0.heap.size → (B.A b ∨ B.S b) ∧ ¬ B.str b)
def Apart (hp : List Ent) : Prop := hp.Pairwise fun p q => ∀ g, p.blk = some g → q.blk ≠ some g
structure R (B : Bs) (s : St') (a : Act) (w : World) : Prop where
 slots : ∀ t x, look s.sl t = some x → Rep w (Zn B s.hp w) x (a.tmps.getD t undef)
 size : a.tmps.size = B.nt
 defs : a.defers = []
 blocks : ∀ p ∈ s.hp, EntR w (Zn B s.hp w) p
 nodup : Apart s.hp
 chg : Chg B.S B.w0 w
 own : ∀ p ∈ s.hp, ∀ g, p.blk = some g → ¬ B.low g ∧ (g < B.w0.heap.size → B.S g)
 res : B.T w s.k
def post (B : Bs) (Q : Exit → St' → Prop) : Exit → Act → World → Prop := fun e a w => ∃ s, Q e s ∧ R B s a w
def VC (P : Program) (B : Bs) (c : Code) (Q : Exit → St' → Prop) (s : St') : Prop := ∀ a w, R B s a w → c.wp P (post B Q) a w
def VO (P : Program) (B : Bs) (ops : Array Oper) (rest : List Oper) (Q : Exit → St' → Prop) (s : St') : Prop := ∀ a w, R B s a w → wpList P ops (post B Q) rest a w
section
variable {P : Program} {B : Bs} {s s' : St'} {a : Act} {w w' : World} {Q : Exit → St' → Prop}
theorem EntR.lt {Z : Nat → Prop} {p : Ent} (h : EntR w Z p) : ∀ g, p.blk = some g → g < w.heap.size := by
 intro g hg
 cases p with
 | box g' o =>
  obtain ⟨c, hc, _⟩ := h
  cases hg
  exact (Array.getElem?_eq_some_iff.1 hc).1
 | row u n sz cs ty =>
  obtain ⟨_, ⟨rfl, _⟩ | ⟨g', cap, c, rfl, _, _, hc, _⟩⟩ := h
  ·simp [Ent.blk, Value.ownBlock] at hg
  ·simp [Ent.blk, Value.ownBlock] at hg
   subst hg
   exact (Array.getElem?_eq_some_iff.1 hc).1
 | mp g' es clk =>
  obtain ⟨c, hc, _⟩ := h
  cases hg
  exact (Array.getElem?_eq_some_iff.1 hc).1
 | it g' n ks f seen =>
  obtain ⟨m, c, clk, last, sb, _, _, _, _, _, hc, _⟩ := h
  cases hg
  exact (Array.getElem?_eq_some_iff.1 hc).1
 | ob g' o =>
  cases hg
  exact (Array.getElem?_eq_some_iff.1 h).1
theorem EntR.keep {Z Z' : Nat → Prop} {p : Ent} (h : EntR w Z p) (hb : ∀ b, Z b → b < w.heap.size → w'.heap[b]? = w.heap[b]? ∧ Z' b) (hg : ∀ g, p.blk = some g → w'.heap[g]? = w.heap[g]?) : EntR w' Z' p := by
 cases p with
 | box g o =>
  obtain ⟨c, hc, h1, h2, h3⟩ := h
  exact ⟨c, (hg g rfl).trans hc, h1, h2, fun j hj => let ⟨u, k1, k2⟩ := h3 j hj; ⟨u, k1, k2.keep hb⟩⟩
 | row u n sz cs ty =>
  obtain ⟨h0, h | ⟨g, cap, c, rfl, k1, k2, hc, h1, h3⟩⟩ := h
  ·exact ⟨h0, .inl h⟩
  ·exact ⟨h0, .inr ⟨g, cap, c, rfl, k1, k2, (hg g rfl).trans hc, h1, fun j hj => let ⟨u, k1, k2⟩ := h3 j hj; ⟨u, k1, k2.keep hb⟩⟩⟩
 | mp g es clk =>
  obtain ⟨c, hc, h1, h2, h3⟩ := h
  exact ⟨c, (hg g rfl).trans hc, h1, h2, fun j hj => ⟨(h3 j hj).1, (h3 j hj).2.1, (h3 j hj).2.2.1, (h3 j hj).2.2.2.keep hb⟩⟩
 | it g n ks f seen =>
  obtain ⟨m, c, clk, last, sb, hZ, hm, h1, h2, h3, hc, h4, h5⟩ := h
  obtain ⟨k1, k2⟩ := hb m hZ (Array.getElem?_eq_some_iff.1 hm).1
  exact ⟨m, c, clk, last, sb, k2, k1.trans hm, h1, h2, fun j hj => ⟨(h3 j hj).1, (h3 j hj).2.1, (h3 j hj).2.2.keep hb⟩, (hg g rfl).trans hc, h4, h5⟩
 | ob g o => exact (hg g rfl).trans h
theorem R.lt (h : R B s a w) : ∀ p ∈ s.hp, ∀ g, p.blk = some g → g < w.heap.size := fun p hp => (h.blocks p hp).lt
theorem look_put (sl : List (Nat × AV)) (d t : Nat) (x : AV) : look ((d, x) :: sl) t = if d = t then some x else look sl t := by
 simp only [look]
 by_cases h : d = t
 ·subst h; simp
 ·have : Nat.beq d t = false := by
   cases hb : Nat.beq d t with
   | false => rfl
   | true => exact absurd (Nat.eq_of_beq_eq_true hb) h
  rw [this, if_neg h]
theorem tmps_put (a : Act) (d t : Nat) (v : Value) (hd : d < a.tmps.size) : (a.put (some d) v).tmps.getD t undef = if d = t then v else a.tmps.getD t undef := by
 simp only [Act.put, Array.getD_eq_getD_getElem?, Array.getElem?_setIfInBounds]
 by_cases h : d = t
 ·subst h; simp [hd]
 ·simp [h]
def okd (nt : Nat) : Option Nat → Bool
 | some d => Nat.blt d nt
 | none => true
theorem R.put (h : R B s a w) (d : Option Nat) (hd : okd B.nt d = true) (x : AV) (v : Value) (hx : Rep w (Zn B s.hp w) x v) : R B (s.put d x) (a.put d v) w := by
 cases d with
 | none => exact h
 | some d =>
  have hd' : d < a.tmps.size := by rw [h.size]; simpa [okd] using hd
  refine ⟨fun t y hy => ?_, by simp [Act.put, h.size], h.defs, h.blocks, h.nodup, h.chg, h.own, h.res⟩
  simp only [St'.put] at hy ⊢
  rw [tmps_put a d t v hd']
  rw [look_put] at hy
  split at hy
  ·rename_i e; rw [if_pos e]; cases hy; exact hx
  ·rename_i e; rw [if_neg e]; exact h.slots t y hy
theorem VC.conv {c : Code} (h : ∀ a w, R B s a w → R B s' a w) (k : VC P B c Q s') : VC P B c Q s := fun a w hr => k a w (h a w hr)
theorem VO.conv {ops : Array Oper} {rest : List Oper} (h : ∀ a w, R B s a w → R B s' a w) (k : VO P B ops rest Q s') : VO P B ops rest Q s := fun a w hr => k a w (h a w hr)
theorem VC.mono {c : Code} {Q' : Exit → St' → Prop} (hq : ∀ e s, Q e s → Q' e s) (k : VC P B c Q s) : VC P B c Q' s :=
 fun a w hr => Code.wp_mono (fun e a w ⟨s, h1, h2⟩ => ⟨s, hq e s h1, h2⟩) (k a w hr)
def thenQ (K : St' → Prop) (Q : Exit → St' → Prop) : Exit → St' → Prop
 | .normal, s => K s
 | e, s => Q e s
def blockQ (id : Nat) (Q : Exit → St' → Prop) : Exit → St' → Prop
 | .exit id', s => match Nat.beq id' id with
  | true => Q .normal s
  | false => Q (.exit id') s
 | e, s => Q e s
theorem VC.seq {x y : Code} (h : VC P B x (thenQ (VC P B y Q) Q) s) : VC P B (.seq x y) Q s := fun a w hr =>
 wp_seq (Code.wp_mono (fun e a w ⟨s, h1, h2⟩ => by
  cases e with
  | normal => exact h1 a w h2
  | exit id => exact ⟨s, h1, h2⟩
  | goto l => exact ⟨s, h1, h2⟩
  | ret => exact ⟨s, h1, h2⟩
  | panic c => exact ⟨s, h1, h2⟩
  | outgrown => exact ⟨s, h1, h2⟩) (h a w hr))
theorem VC.skip (h : Q .normal s) : VC P B .skip Q s := fun a w hr => wp_skip ⟨s, h, hr⟩
theorem VC.ret (h : Q .ret s) : VC P B .ret Q s := fun a w hr => wp_ret ⟨s, h, hr⟩
theorem VC.exit {id : Nat} (h : Q (.exit id) s) : VC P B (.exit id) Q s := fun a w hr => wp_exit ⟨s, h, hr⟩
theorem VC.block {id : Nat} {c : Code} (h : VC P B c (blockQ id Q) s) : VC P B (.block id c) Q s := fun a w hr =>
 wp_block (Code.wp_mono (fun e a w ⟨s, h1, h2⟩ => by
  cases e with
  | exit id' =>
   simp only [blockQ] at h1
   unfold Exit.inBlock
   simp only
   split
   ·rename_i e; subst e; rw [Nat.beq_refl] at h1; exact ⟨s, h1, h2⟩
   ·rename_i e
    have : Nat.beq id' id = false := by
     cases hb : Nat.beq id' id with
     | false => rfl
     | true => exact absurd (Nat.eq_of_beq_eq_true hb) e
    rw [this] at h1
    exact ⟨s, h1, h2⟩
  | normal => exact ⟨s, h1, h2⟩
  | goto l => exact ⟨s, h1, h2⟩
  | ret => exact ⟨s, h1, h2⟩
  | panic c => exact ⟨s, h1, h2⟩
  | outgrown => exact ⟨s, h1, h2⟩) (h a w hr))
def evO (s : St') : Operand → Option AV
 | .tmp t => look s.sl t
 | .const x => some (.v x)
 | .func f => some (.v (.func (.func f) #[] #[]))
 | .global g => some (.v (.pointer (some ⟨g, 0, none⟩)))
theorem R.ev (h : R B s a w) {x : Operand} {v : AV} (hv : evO s x = some v) : Rep w (Zn B s.hp w) v (a.eval x) := by
 cases x with
 | tmp t => exact h.slots t v hv
 | const x => simp only [evO, Option.some.injEq] at hv; subst hv; exact .v _
 | func f => simp only [evO, Option.some.injEq] at hv; subst hv; exact .v _
 | global g => simp only [evO, Option.some.injEq] at hv; subst hv; exact .v _
theorem Rep.eq_v {Z : Nat → Prop} {x u : Value} (h : Rep w Z (.v x) u) : u = x := by cases h; rfl
theorem R.evv (h : R B s a w) {x : Operand} {v : Value} (hv : evO s x = some (.v v)) : a.eval x = v := (h.ev hv).eq_v
theorem VC.cond {c : Operand} {x y : Code} {t : Bool} (hc : evO s c = some (.v (.bool t))) (h1 : t = true → VC P B x Q s) (h2 : t = false → VC P B y Q s) : VC P B (.cond c x y) Q s := fun a w hr =>
 wp_cond_split (hr.evv hc) (fun e => h1 e a w hr) (fun e => h2 e a w hr)
theorem VC.loop {c : Code} (ι : Type) (T : ι → St') (μ : ι → Nat) (i0 : ι) (h0 : ∀ a w, R B s a w → R B (T i0) a w)
  (round : ∀ i, VC P B c (thenQ (fun s' => ∃ j, (∀ a w, R B s' a w → R B (T j) a w) ∧ μ j < μ i) Q) (T i)) : VC P B (.loop c) Q s := by
 intro a w hr
 have key : ∀ n i, μ i = n → ∀ a w, R B (T i) a w → ∀ b k cs, ∃ e a' w', post B Q e a' w' ∧ Arrives P (lone (b.at a (.code c :: .inLoop c :: k)) cs w) b k cs e a' w' := by
  intro n
  induction n using Nat.strongRecOn with
  | _ n ih =>
   intro i hn a w hI b k cs
   obtain ⟨e, a₁, w₁, ⟨s1, hq, hr1⟩, harr⟩ := round i a w hI b (.inLoop c :: k) cs
   cases e with
   | normal =>
    obtain ⟨j, hj, hlt⟩ := hq
    obtain ⟨e₂, a₂, w₂, hq₂, harr₂⟩ := ih (μ j) (hn ▸ hlt) j rfl a₁ w₁ (hj _ _ hr1) b k cs
    exact ⟨e₂, a₂, w₂, hq₂, .of_steps (Steps.trans harr (.one step_inLoop)) harr₂⟩
   | exit id => exact ⟨_, a₁, w₁, ⟨s1, hq, hr1⟩, .pass (x := .inLoop c) rfl (fun _ _ => .inl (by simp)) harr⟩
   | goto l => exact ⟨_, a₁, w₁, ⟨s1, hq, hr1⟩, .pass (x := .inLoop c) rfl (fun _ _ => .inl (by simp)) harr⟩
   | ret => exact ⟨_, a₁, w₁, ⟨s1, hq, hr1⟩, .pass (x := .inLoop c) rfl (fun _ _ => .inl (by simp)) harr⟩
   | panic ch => exact ⟨_, a₁, w₁, ⟨s1, hq, hr1⟩, .pass (x := .inLoop c) rfl (fun _ _ => .inl (by simp)) harr⟩
   | outgrown => exact ⟨_, a₁, w₁, ⟨s1, hq, hr1⟩, .pass (x := .inLoop c) rfl (fun _ _ => .inl (by simp)) harr⟩
 intro b k cs
 obtain ⟨e, a', w', hq, harr⟩ := key _ i0 rfl a w (h0 _ _ hr) b k cs
 exact ⟨e, a', w', hq, .of_steps (.one step_loop) harr⟩
theorem VC.region {id : Nat} {l : List Oper} (h : VO P B l.toArray l Q s) : VC P B (.region id l.toArray false) Q s := fun a w hr => wp_region_lit (h a w hr)
theorem VO.nil {ops : Array Oper} (h : Q .normal s) : VO P B ops [] Q s := fun a w hr => ⟨s, h, hr⟩
def Ew (B : Bs) (W : Nat → Prop) (w w' : World) : Prop := Chg (fun b => B.str b ∨ W b) w w'
theorem Ew.tr {W : Nat → Prop} : ∀ x y z, Ew B W x y → Ew B W y z → Ew B W x z := fun x y z h k => h.trans k
theorem Ew.rf {W : Nat → Prop} : ∀ x, Ew B W x x := fun x => Chg.refl _ x
theorem Ew.ofN {W : Nat → Prop} (h : Chg NoB w w') : Ew B W w w' := h.any
def AllW : Nat → Prop := fun _ => True
def OpE (P : Program) (B : Bs) (W : Nat → Prop) (s : St') (o : Oper) (K : St' → Prop) : Prop :=
 ∀ a w, R B s a w → ∀ (next : Act → World → Prop) (Qx : Exit → Act → World → Prop), (∀ s' a' w', K s' → R B s' a' w' → Ew B W w w' → next a' w') → o.wp P a w next Qx
theorem VO.op {ops : Array Oper} {rest : List Oper} {o : Oper} (hg : o.guard = none) (h : OpE P B AllW s o (VO P B ops rest Q)) : VO P B ops (o :: rest) Q s := fun a w hr =>
 wpList_plain hg fun K hK => h a w hr K _ fun s' a' w' h1 h2 _ => hK a' w' (h1 a' w' h2)
theorem VO.opG {ops : Array Oper} {rest : List Oper} {o : Oper} {j : Nat} {want b : Bool} {t : Nat} (hg : o.guard = some (j, want)) (hj : (ops[j]?).bind (·.dst) = some t) (hb : look s.sl t = some (.v (.bool b)))
  (hd : okd B.nt o.dst = true)
  (h1 : b = want → OpE P B AllW s o (VO P B ops rest Q)) (h2 : b = (!want) → VO P B ops rest Q (s.put o.dst (.v undef))) : VO P B ops (o :: rest) Q s := fun a w hr => by
 have hv : a.tmps.getD t undef = .bool b := (hr.slots t _ hb).eq_v
 have hy : yielded ops a.tmps j = some b := by
  cases ho : ops[j]? with
  | none => rw [ho] at hj; simp at hj
  | some oo =>
   rw [ho] at hj
   simp only [Option.bind_some] at hj
   have hv' : a.tmps[t]? = some (.bool b) := by
    rw [Array.getD_eq_getD_getElem?] at hv
    cases ht : a.tmps[t]? with
    | none => rw [ht] at hv; simp [undef] at hv
    | some x => rw [ht] at hv; simpa using hv
   simp [yielded, ho, hj, hv']
 refine wpList_step fun K hK => ?_
 by_cases hw : b = want
 ·have : Region.wanted o (yielded ops a.tmps) = true := by simp [Region.wanted, hg, hy, hw]
  rw [if_pos this]
  exact h1 hw a w hr K _ fun s' a' w' k1 k2 _ => hK a' w' (k1 a' w' k2)
 ·have : Region.wanted o (yielded ops a.tmps) = false := by simp [Region.wanted, hg, hy, hw]
  rw [if_neg (by simp [this])]
  exact hK _ _ (h2 (by cases b <;> cases want <;> simp_all) _ _ (hr.put _ hd _ _ (.v _)))
end
end
section
section
variable {P : Program} {B : Bs} {W : Nat → Prop} {s : St'} {o : Oper} {K : St' → Prop}
def OpV (P : Program) (B : Bs) (W : Nat → Prop) (s : St') (o : Oper) (x : AV) : Prop :=
 ∀ a w, R B s a w → ∃ v, (∀ w', Chg (fun b => B.str b ∨ W b) w w' → (execOp a.eval o).run P w' = .ok (.value v) w') ∧ Rep w (Zn B s.hp w) x v
theorem OpE.val {W' : Nat → Prop} {x : AV} (hv : OpV P B W s o x) (hd : okd B.nt o.dst = true) (hK : K (s.put o.dst x)) : OpE P B W' s o K := by
 intro a w hr next Qx hn
 obtain ⟨v, h1, h2⟩ := hv a w hr
 unfold Oper.wp
 rw [h1 w (Chg.refl _ _)]
 exact hn _ _ _ hK (hr.put _ hd _ _ h2) (Ew.rf w)
theorem VO.val {ops : Array Oper} {rest : List Oper} {Q : Exit → St' → Prop} {x : AV} (hg : o.guard = none) (hd : okd B.nt o.dst = true) (hv : OpV P B NoB s o x) (hK : VO P B ops rest Q (s.put o.dst x)) : VO P B ops (o :: rest) Q s :=
 VO.op hg (OpE.val hv hd hK)
theorem OpV.move {x : Operand} {v : AV} (ho : o.op = .move x ∨ o.op = .assign x) (hx : evO s x = some v) : OpV P B W s o v :=
 fun a w hr => ⟨a.eval x, fun w' _ => by rcases ho with ho | ho <;> simp [execOp, ho], hr.ev hx⟩
theorem OpV.conc {v : Value} (hrun : ∀ a w, R B s a w → ∀ w', Chg (fun b => B.str b ∨ W b) w w' → (execOp a.eval o).run P w' = .ok (.value v) w') : OpV P B W s o (.v v) :=
 fun a w hr => ⟨v, hrun a w hr, .v _⟩
def fits (n : Int) : Prop := -9223372036854775808 ≤ n ∧ n ≤ 9223372036854775807
section
variable {t u : TypeId} {x y : Operand} {m n : Int}
theorem OpV.add (ho : o.op = .binOp .add t x y u) (hx : evO s x = some (.v (.int .i64 m))) (hy : evO s y = some (.v (.int .i64 n))) (hf : fits (m + n)) : OpV P B W s o (.v (.int .i64 (m + n))) :=
 OpV.conc (fun a w hr w' hcw => by simp [execOp, ho, hr.evv hx, hr.evv hy, eqGuard, binOp, Op.intArith, IntWalk.i64_in _ hf])
theorem OpV.sub (ho : o.op = .binOp .sub t x y u) (hx : evO s x = some (.v (.int .i64 m))) (hy : evO s y = some (.v (.int .i64 n))) (hf : fits (m - n)) : OpV P B W s o (.v (.int .i64 (m - n))) :=
 OpV.conc (fun a w hr w' hcw => by simp [execOp, ho, hr.evv hx, hr.evv hy, eqGuard, binOp, Op.intArith, IntWalk.i64_in _ hf])
theorem OpV.mul (ho : o.op = .binOp .mul t x y u) (hx : evO s x = some (.v (.int .i64 m))) (hy : evO s y = some (.v (.int .i64 n))) (hf : fits (m * n)) : OpV P B W s o (.v (.int .i64 (m * n))) :=
 OpV.conc (fun a w hr w' hcw => by simp [execOp, ho, hr.evv hx, hr.evv hy, eqGuard, binOp, Op.intArith, IntWalk.i64_in _ hf])
theorem OpV.quo (ho : o.op = .binOp .quo t x y u) (hx : evO s x = some (.v (.int .i64 m))) (hy : evO s y = some (.v (.int .i64 n))) (hn : n ≠ 0) (hf : fits (m.tdiv n)) : OpV P B W s o (.v (.int .i64 (m.tdiv n))) :=
 OpV.conc (fun a w hr w' hcw => by simp [execOp, ho, hr.evv hx, hr.evv hy, eqGuard, binOp, Op.intDiv, hn, IntWalk.i64_in _ hf])
theorem OpV.rem (ho : o.op = .binOp .rem t x y u) (hx : evO s x = some (.v (.int .i64 m))) (hy : evO s y = some (.v (.int .i64 n))) (hn : n ≠ 0) (hf : fits (m.tmod n)) : OpV P B W s o (.v (.int .i64 (m.tmod n))) :=
 OpV.conc (fun a w hr w' hcw => by simp [execOp, ho, hr.evv hx, hr.evv hy, eqGuard, binOp, Op.intDiv, hn, IntWalk.i64_in _ hf])
variable {k : IntKind}
theorem OpV.eql (ho : o.op = .binOp .eql t x y u) (hx : evO s x = some (.v (.int k m))) (hy : evO s y = some (.v (.int k n))) : OpV P B W s o (.v (.bool (decide (m = n)))) :=
 OpV.conc (fun a w hr w' hcw => by simp [execOp, ho, hr.evv hx, hr.evv hy, eqGuard, binOp, Op.intCmp]; rfl)
theorem OpV.neq (ho : o.op = .binOp .neq t x y u) (hx : evO s x = some (.v (.int k m))) (hy : evO s y = some (.v (.int k n))) : OpV P B W s o (.v (.bool (decide (m ≠ n)))) :=
 OpV.conc (fun a w hr w' hcw => by simp [execOp, ho, hr.evv hx, hr.evv hy, eqGuard, binOp, Op.intCmp, bne]; rfl)
theorem OpV.lss (ho : o.op = .binOp .lss t x y u) (hx : evO s x = some (.v (.int k m))) (hy : evO s y = some (.v (.int k n))) : OpV P B W s o (.v (.bool (decide (m < n)))) :=
 OpV.conc (fun a w hr w' hcw => by simp [execOp, ho, hr.evv hx, hr.evv hy, eqGuard, binOp, Op.intCmp])
theorem OpV.leq (ho : o.op = .binOp .leq t x y u) (hx : evO s x = some (.v (.int k m))) (hy : evO s y = some (.v (.int k n))) : OpV P B W s o (.v (.bool (decide (m ≤ n)))) :=
 OpV.conc (fun a w hr w' hcw => by simp [execOp, ho, hr.evv hx, hr.evv hy, eqGuard, binOp, Op.intCmp])
theorem OpV.gtr (ho : o.op = .binOp .gtr t x y u) (hx : evO s x = some (.v (.int k m))) (hy : evO s y = some (.v (.int k n))) : OpV P B W s o (.v (.bool (decide (n < m)))) :=
 OpV.conc (fun a w hr w' hcw => by simp [execOp, ho, hr.evv hx, hr.evv hy, eqGuard, binOp, Op.intCmp])
theorem OpV.geq (ho : o.op = .binOp .geq t x y u) (hx : evO s x = some (.v (.int k m))) (hy : evO s y = some (.v (.int k n))) : OpV P B W s o (.v (.bool (decide (n ≤ m)))) :=
 OpV.conc (fun a w hr w' hcw => by simp [execOp, ho, hr.evv hx, hr.evv hy, eqGuard, binOp, Op.intCmp])
theorem OpV.not {b : Bool} (ho : o.op = .unOp .not t x) (hx : evO s x = some (.v (.bool b))) : OpV P B W s o (.v (.bool (!b))) :=
 OpV.conc (fun a w hr w' hcw => by simp [execOp, ho, hr.evv hx, Op.unary])
def pk (b : Bool) (x y : AV) : AV := match b with
 | true => x
 | false => y
theorem OpV.pick {c : Operand} {b : Bool} {v1 v2 : AV} (ho : o.op = .pick c x y) (hc : evO s c = some (.v (.bool b))) (hx : evO s x = some v1) (hy : evO s y = some v2) : OpV P B W s o (pk b v1 v2) := by
 refine fun a w hr => ⟨if b then a.eval x else a.eval y, fun w' _ => by simp [execOp, ho, hr.evv hc, asBool], ?_⟩
 cases b
 ·exact hr.ev hy
 ·exact hr.ev hx
theorem OpV.conv (ho : o.op = .convert t u x) {kk : IntKind} (h1 : P.underlying t = some (.int k)) (h2 : P.underlying u = some (.int kk)) (hx : evO s x = some (.v (.int k n))) (hf : kk.wrap n = n) : OpV P B W s o (.v (.int kk n)) :=
 OpV.conc (fun a w hr w' hcw => by simp [execOp, ho, hr.evv hx, convert, run_underlying h1, run_underlying h2, Conv.intToInt, hf])
def sEq (x y : ByteArray) : Bool := x.toList == y.toList
def sLt (x y : ByteArray) : Bool := Op.bytesLess x.toList y.toList
variable {p q : ByteArray}
theorem OpV.seql (ho : o.op = .binOp .eql t x y u) (hx : evO s x = some (.v (.string p))) (hy : evO s y = some (.v (.string q))) : OpV P B W s o (.v (.bool (sEq p q))) :=
 OpV.conc (fun a w hr w' hcw => by simp [execOp, ho, hr.evv hx, hr.evv hy, eqGuard, binOp, Op.stringOp, sEq])
theorem OpV.sneq (ho : o.op = .binOp .neq t x y u) (hx : evO s x = some (.v (.string p))) (hy : evO s y = some (.v (.string q))) : OpV P B W s o (.v (.bool (!sEq p q))) :=
 OpV.conc (fun a w hr w' hcw => by simp [execOp, ho, hr.evv hx, hr.evv hy, eqGuard, binOp, Op.stringOp, sEq])
theorem OpV.slss (ho : o.op = .binOp .lss t x y u) (hx : evO s x = some (.v (.string p))) (hy : evO s y = some (.v (.string q))) : OpV P B W s o (.v (.bool (sLt p q))) :=
 OpV.conc (fun a w hr w' hcw => by simp [execOp, ho, hr.evv hx, hr.evv hy, eqGuard, binOp, Op.stringOp, sLt])
theorem OpV.sleq (ho : o.op = .binOp .leq t x y u) (hx : evO s x = some (.v (.string p))) (hy : evO s y = some (.v (.string q))) : OpV P B W s o (.v (.bool (sLt p q || sEq p q))) :=
 OpV.conc (fun a w hr w' hcw => by simp [execOp, ho, hr.evv hx, hr.evv hy, eqGuard, binOp, Op.stringOp, sLt, sEq])
theorem OpV.sgtr (ho : o.op = .binOp .gtr t x y u) (hx : evO s x = some (.v (.string p))) (hy : evO s y = some (.v (.string q))) : OpV P B W s o (.v (.bool (!(sLt p q || sEq p q)))) :=
 OpV.conc (fun a w hr w' hcw => by simp [execOp, ho, hr.evv hx, hr.evv hy, eqGuard, binOp, Op.stringOp, sLt, sEq])
theorem OpV.sadd (ho : o.op = .binOp .add t x y u) (hx : evO s x = some (.v (.string p))) (hy : evO s y = some (.v (.string q))) (hf : p.size + q.size ≤ 1000000000000) : OpV P B W s o (.v (.string (p ++ q))) :=
 OpV.conc (fun a w hr w' hcw => by
  have : ¬ (((p.size + q.size : Nat) : Int) > IntKind.i64.max) := by
   have : IntKind.i64.max = 9223372036854775807 := by decide
   rw [this]; omega
  simp [execOp, ho, hr.evv hx, hr.evv hy, eqGuard, binOp, Op.stringOp, this]
  omega)
end
theorem OpV.len_im {x : Operand} {T : TypeId} {n sz : Nat} {f : Nat → AV} {e : TypeId} (ho : o.op = .call { callee := .builtin .len, args := #[x], argTypes := #[T] }) (hu : P.underlying T = some (.slice e))
  (hx : evO s x = some (.im n sz f)) : OpV P B W s o (.v (.int .i64 n)) :=
 OpV.conc (fun a w hr w' hcw => by
  have := hr.ev hx
  generalize hv : a.eval x = v at this
  cases this with
  | nil sz f => simp [execOp, ho, resolve, invoke, builtin, Builtin.len_, run_underlying hu, hv, goInt]
  | im n sz f b off cap c e u hZ h1 h2 hb hc hr => simp [execOp, ho, resolve, invoke, builtin, Builtin.len_, run_underlying hu, hv, goInt])
theorem OpV.len_v {x : Operand} {T : TypeId} {a0 : Option Addr} {n c : Nat} {e : TypeId} (ho : o.op = .call { callee := .builtin .len, args := #[x], argTypes := #[T] }) (hu : P.underlying T = some (.slice e))
  (hx : evO s x = some (.v (.slice a0 n c))) : OpV P B W s o (.v (.int .i64 n)) :=
 OpV.conc (fun a w hr w' hcw => by simp [execOp, ho, resolve, invoke, builtin, Builtin.len_, run_underlying hu, hr.evv hx, goInt])
theorem OpV.len_s {x : Operand} {T : TypeId} {p : ByteArray} (ho : o.op = .call { callee := .builtin .len, args := #[x], argTypes := #[T] }) (hu : P.underlying T = some .string)
  (hx : evO s x = some (.v (.string p))) : OpV P B W s o (.v (.int .i64 p.size)) :=
 OpV.conc (fun a w hr w' hcw => by simp [execOp, ho, resolve, invoke, builtin, Builtin.len_, run_underlying hu, hr.evv hx, goInt])
theorem OpV.len_row {x : Operand} {T : TypeId} {i n sz : Nat} {u : Value} {cs : List AV} {ty e : TypeId} (ho : o.op = .call { callee := .builtin .len, args := #[x], argTypes := #[T] }) (hu : P.underlying T = some (.slice e))
  (hx : evO s x = some (.v u)) (hi : s.hp[i]? = some (.row u n sz cs ty)) : OpV P B W s o (.v (.int .i64 n)) :=
 OpV.conc (fun a w hr w' hcw => by
  obtain ⟨_, ⟨rfl, rfl⟩ | ⟨g, cap, c, rfl, _⟩⟩ := hr.blocks _ (List.mem_of_getElem? hi)
  ·simp [execOp, ho, resolve, invoke, builtin, Builtin.len_, run_underlying hu, hr.evv hx, goInt]
  ·simp [execOp, ho, resolve, invoke, builtin, Builtin.len_, run_underlying hu, hr.evv hx, goInt])
theorem OpV.max2 {x y : Operand} {ts : Array TypeId} {m n : Int} (ho : o.op = .call { callee := .builtin .max, args := #[x, y], argTypes := ts })
  (hx : evO s x = some (.v (.int .i64 m))) (hy : evO s y = some (.v (.int .i64 n))) : OpV P B W s o (.v (.int .i64 (max m n))) :=
 OpV.conc (fun a w hr w' hcw => by simp [execOp, ho, resolve, invoke, builtin, hr.evv hx, hr.evv hy, max_two])
theorem OpV.min2 {x y : Operand} {ts : Array TypeId} {m n : Int} (ho : o.op = .call { callee := .builtin .min, args := #[x, y], argTypes := ts })
  (hx : evO s x = some (.v (.int .i64 m))) (hy : evO s y = some (.v (.int .i64 n))) : OpV P B W s o (.v (.int .i64 (min m n))) :=
 OpV.conc (fun a w hr w' hcw => by simp [execOp, ho, resolve, invoke, builtin, hr.evv hx, hr.evv hy, min_two])
theorem OpV.extract {x : Operand} {i : Nat} {cs : List AV} {v : AV} (ho : o.op = .extract x i) (hx : evO s x = some (.tup cs)) (hi : cs[i]? = some v) : OpV P B W s o v := by
 intro a w hr
 have := hr.ev hx
 generalize hv : a.eval x = u at this
 cases this with
 | tup cs us hl hr' =>
  obtain ⟨hlt, rfl⟩ := List.getElem?_eq_some_iff.1 hi
  have hlu : i < us.size := by omega
  have h2 : us.getD i undef = us[i] := by rw [Array.getD_eq_getD_getElem?, Array.getElem?_eq_getElem hlu]; rfl
  refine ⟨us[i], fun w' _ => ?_, h2 ▸ hr' i hlt⟩
  simp [execOp, ho, hv, Instr.extract, Array.getElem?_eq_getElem hlu]
def tab : Nat → (Nat → AV) → List AV
 | 0, _ => []
 | k + 1, f => f 0 :: tab k fun j => f (j + 1)
theorem tab_len (k : Nat) (f : Nat → AV) : (tab k f).length = k := by
 induction k generalizing f with
 | zero => rfl
 | succ k ih => simp [tab, ih]
theorem tab_get (k : Nat) (f : Nat → AV) (j : Nat) (h : j < (tab k f).length) : (tab k f)[j] = f j := by
 induction k generalizing f j with
 | zero => simp [tab] at h
 | succ k ih =>
  cases j with
  | zero => rfl
  | succ j => simp only [tab, List.getElem_cons_succ]; rw [ih]
def cutL (l : List AV) (j k : Nat) : Option (List AV) :=
 match Nat.ble (j + k) l.length with
 | true => some ((l.drop j).take k)
 | false => none
theorem cutL_spec {l r : List AV} {j k : Nat} (h : cutL l j k = some r) : r.length = k ∧ j + k ≤ l.length ∧ ∀ q, (hq : q < r.length) → l[j + q]? = some r[q] := by
 unfold cutL at h
 split at h
 ·rename_i e
  have hle : j + k ≤ l.length := Nat.le_of_ble_eq_true e
  cases h
  refine ⟨by simp; omega, hle, fun q hq => ?_⟩
  simp at hq
  rw [List.getElem_take, List.getElem_drop]
  exact List.getElem?_eq_getElem (by omega)
 ·cases h
theorem OpV.fieldAddr {x : Operand} {t f : Nat} {fs : Array Field} {fd : Field} {g j k : Nat} (ho : o.op = .fieldAddr t x f) (hu : P.underlying t = some (.struct fs)) (hf : fs[f]? = some fd)
  (hsz : ∀ w, (sizeOf fd.type).run P w = .ok (k + 1) w) (hx : evO s x = some (.v (.pointer (some ⟨g, j, none⟩)))) : OpV P B W s o (.v (.pointer (some ⟨g, j + fd.offset, none⟩))) :=
 OpV.conc (fun a w hr w' hcw => by simp [execOp, ho, hr.evv hx, Instr.fieldAt, run_underlying hu, hf, Instr.sureAddr, fieldPlace, hsz, Addr.add_lit])
theorem OpV.fieldAddr_at {x : Operand} {t f : Nat} {fs : Array Field} {fd : Field} {m k : Nat} {F : Nat → AV} (ho : o.op = .fieldAddr t x f) (hu : P.underlying t = some (.struct fs)) (hf : fs[f]? = some fd)
  (hsz : ∀ w, (sizeOf fd.type).run P w = .ok (k + 1) w) (hx : evO s x = some (.at_ m F)) (hm : Nat.ble (fd.offset + (k + 1)) m = true) : OpV P B W s o (.at_ (k + 1) fun j => F (fd.offset + j)) := by
 intro a w hr
 have := hr.ev hx
 generalize hv : a.eval x = u at this
 have hm' := Nat.le_of_ble_eq_true hm
 cases this with
 | at_ m f' b off c e u hZ hb hc hr' =>
  refine ⟨.pointer (some ⟨b, off + fd.offset, none⟩), fun w' _ => by simp [execOp, ho, hv, Instr.fieldAt, run_underlying hu, hf, Instr.sureAddr, fieldPlace, hsz, Addr.add_lit], .at_ _ _ b _ c e (fun j => u (fd.offset + j)) hZ hb (fun j hj => ?_) fun j hj => hr' _ (by omega)⟩
  rw [Nat.add_assoc]; exact hc _ (by omega)
def OutW (B : Bs) (W : Nat → Prop) (s : St') : Prop := ∀ b, W b → ∃ e ∈ s.hp, e.blk = some b
theorem OutW.no {B : Bs} {s : St'} : OutW B NoB s := fun _ h => h.elim
theorem OutW.keep (hW : OutW B W s) (hB : B.Ok) {a : Act} {w w' : World} (hr : R B s a w) (hc : Chg (fun b => B.str b ∨ W b) w w') {b : Nat} (hZ : Zn B s.hp w b) : w'.heap[b]? = w.heap[b]? := by
 refine hc.block b hZ.1 ?_
 rintro (h | h)
 ·obtain ⟨h1, h2⟩ := hB.str b h
  exact (hZ.2.2 (hB.low b h1)).2 h
 ·obtain ⟨e, he, hb⟩ := hW b h
  exact hZ.2.1 e he hb
theorem OpV.load_at {x : Operand} {t m : Nat} {F : Nat → AV} (ho : o.op = .load t x) (hB : B.Ok) (hW : OutW B W s) (hag : ∀ w, (isAgg t).run P w = .ok false w) (hx : evO s x = some (.at_ m F)) (hm : Nat.blt 0 m = true) : OpV P B W s o (F 0) := by
 intro a w hr
 have := hr.ev hx
 generalize hv : a.eval x = u at this
 have hm' : 0 < m := by simpa using hm
 cases this with
 | at_ m f' b off c e u hZ hb hc hr' =>
  refine ⟨u 0, fun w' hcw => ?_, hr' 0 hm'⟩
  have hb' := (hW.keep hB hr hcw hZ).trans hb
  have hcell : w'.cell? ⟨b, off, none⟩ = some (u 0) := by simpa [World.cell?, hb'] using hc 0 hm'
  simp [execOp, ho, hv, Instr.loadAt, Instr.sureAddr, loadVar, hag, load, Sem.run, hcell]
theorem OpV.loadK_at {x : Operand} {t m k : Nat} {F : Nat → AV} (ho : o.op = .load t x) (hB : B.Ok) (hW : OutW B W s) (hag : ∀ w, (isAgg t).run P w = .ok true w) (hsz : ∀ w, (sizeOf t).run P w = .ok k w) (hx : evO s x = some (.at_ m F)) (hm : Nat.ble k m = true) : OpV P B W s o (.agg (tab k F)) := by
 intro a w hr
 have := hr.ev hx
 generalize hv : a.eval x = u at this
 have hm' := Nat.le_of_ble_eq_true hm
 cases this with
 | at_ m f' b off c e u hZ hb hc hr' =>
  refine ⟨.agg ((List.range k).map u).toArray, fun w' hcw => ?_, .agg _ _ (by simp [tab_len]) fun j hj => ?_⟩
  ·have hb' := (hW.keep hB hr hcw hZ).trans hb
   have hcell : ∀ j v, ((List.range k).map u)[j]? = some v → w'.cell? ((⟨b, off, none⟩ : Addr).add j) = some v := by
    intro j v hj
    simp only [List.getElem?_map, Option.map_eq_some_iff] at hj
    obtain ⟨q, hq, rfl⟩ := hj
    obtain ⟨hlt, hq'⟩ := List.getElem?_eq_some_iff.1 hq
    simp at hlt hq'
    subst hq'
    rw [Addr.add_lit]
    simpa [World.cell?, hb'] using hc j (by omega)
   have hl := run_loadCells_list (P := P) w' ⟨b, off, none⟩ ((List.range k).map u) hcell
   simp only [List.length_map, List.length_range] at hl
   simp [execOp, ho, hv, Instr.loadAt, Instr.sureAddr, loadVar, hag, hsz, hl]
  ·rw [tab_get]
   rw [tab_len] at hj
   have := hr' j (by omega)
   simpa [hj] using this
theorem OpV.indexAddr_im {x y : Operand} {t e n sz : Nat} {k : IntKind} {i : Int} {F : Nat → AV} (ho : o.op = .indexAddr t x y) (hu : P.underlying t = some (.slice e)) (hsz : ∀ w, (sizeOf e).run P w = .ok sz w)
  (hx : evO s x = some (.im n sz F)) (hy : evO s y = some (.v (.int k i))) (h0 : 0 ≤ i) (h1 : i < n) : OpV P B W s o (.at_ sz fun j => F (i.toNat * sz + j)) := by
 intro a w hr
 have := hr.ev hx
 generalize hv : a.eval x = u at this
 cases this with
 | nil => omega
 | im n sz f' b off cap c e' u hZ h2 h3 hb hc hr' =>
  have hlt : ∀ j, j < sz → i.toNat * sz + j < n * sz := fun j hj => by
   have := Nat.mul_le_mul_right sz (show i.toNat + 1 ≤ n by omega)
   rw [Nat.add_mul] at this; omega
  refine ⟨.pointer (some ⟨b, off + i.toNat * sz, none⟩), fun w' _ => by simp [execOp, ho, hv, hr.evv hy, Instr.indexAt, asIntOf, run_underlying hu, hsz, h0, h1, Addr.add_lit], .at_ _ _ b _ c e' (fun j => u (i.toNat * sz + j)) hZ hb (fun j hj => ?_) fun j hj => hr' _ (hlt j hj)⟩
  rw [Nat.add_assoc]; exact hc _ (hlt j hj)
theorem OpV.indexAddr_v {x y : Operand} {t e n sz g off cap : Nat} {k : IntKind} {i : Int} (ho : o.op = .indexAddr t x y) (hu : P.underlying t = some (.slice e)) (hsz : ∀ w, (sizeOf e).run P w = .ok sz w)
  (hx : evO s x = some (.v (.slice (some ⟨g, off, none⟩) n cap))) (hy : evO s y = some (.v (.int k i))) (h0 : 0 ≤ i) (h1 : i < n) : OpV P B W s o (.v (.pointer (some ⟨g, off + i.toNat * sz, none⟩))) :=
 OpV.conc (fun a w hr w' hcw => by simp [execOp, ho, hr.evv hx, hr.evv hy, Instr.indexAt, asIntOf, run_underlying hu, hsz, h0, h1, Addr.add_lit])
theorem OpV.index_s {x y : Operand} {t : Nat} {k : IntKind} {i : Int} {p : ByteArray} (ho : o.op = .index t x y) (hu : P.underlying t = some .string)
  (hx : evO s x = some (.v (.string p))) (hy : evO s y = some (.v (.int k i))) (h0 : 0 ≤ i) (h1 : i.toNat < p.size) : OpV P B W s o (.v (.int .u8 (p[i.toNat].toNat))) :=
 OpV.conc (fun a w hr w' hcw => by
  have : p[i.toNat]? = some p[i.toNat] := by simp [h1]
  simp [execOp, ho, hr.evv hx, hr.evv hy, Instr.index, asIntOf, run_underlying hu, h0, this])
theorem OpV.makeFunc {fn : Fn} {cap : Array Operand} {us : Array Value} (ho : o.op = .makeFunc fn #[] cap) (hc : ∀ a w, R B s a w → cap.map a.eval = us) : OpV P B W s o (.v (.func fn #[] us)) :=
 OpV.conc (fun a w hr w' hcw => by simp [execOp, ho, Instr.makeFunc, hc a w hr])
theorem OpV.nilCheck {x : Operand} {v : Addr} (ho : o.op = .nilCheck x) (hx : evO s x = some (.v (.pointer (some v)))) : OpV P B W s o (.v (.pointer (some v))) :=
 OpV.conc (fun a w hr w' hcw => by simp [execOp, ho, hr.evv hx])
theorem OpV.nilCheck_at {x : Operand} {m : Nat} {F : Nat → AV} (ho : o.op = .nilCheck x) (hx : evO s x = some (.at_ m F)) : OpV P B W s o (.at_ m F) := by
 intro a w hr
 have := hr.ev hx
 generalize hv : a.eval x = u at this
 cases this with
 | at_ m f' b off c e u hZ hb hc hr' => exact ⟨.pointer (some ⟨b, off, none⟩), fun w' _ => by simp [execOp, ho, hv], .at_ m F b off c e u hZ hb hc hr'⟩
end
end
section
theorem Apart.get {hp : List Ent} (h : Apart hp) {i j : Nat} {p q : Ent} (hi : hp[i]? = some p) (hj : hp[j]? = some q) (hij : i ≠ j) {g : Nat} (hp' : p.blk = some g) : q.blk ≠ some g := by
 unfold Apart at h
 rw [List.pairwise_iff_getElem] at h
 obtain ⟨hil, rfl⟩ := List.getElem?_eq_some_iff.1 hi
 obtain ⟨hjl, rfl⟩ := List.getElem?_eq_some_iff.1 hj
 rcases Nat.lt_or_gt_of_ne hij with hlt | hlt
 ·exact h i j hil hjl hlt g hp'
 ·exact fun hq => h j i hjl hil hlt g hq hp'
theorem Apart.of {hp : List Ent} (h : ∀ (i j : Nat) (p q : Ent), i < j → hp[i]? = some p → hp[j]? = some q → ∀ g, p.blk = some g → q.blk ≠ some g) : Apart hp := by
 unfold Apart
 rw [List.pairwise_iff_getElem]
 exact fun i j hi hj hij g hg => h i j _ _ hij (List.getElem?_eq_getElem hi) (List.getElem?_eq_getElem hj) g hg
section
variable {P : Program} {B : Bs} {W : Nat → Prop} {s : St'} {a : Act} {w w' : World} {o : Oper} {K : St' → Prop}
theorem R.step (hB : B.Ok) (hr : R B s a w) {S' : Nat → Prop} (hc : Chg S' w w') (hS : ∀ b, S' b → B.str b) {k : Nat} (hT : B.T w' k) : R B ⟨s.sl, s.hp, k⟩ a w' := by
 have hz : ∀ b, Zn B s.hp w b → b < w.heap.size → w'.heap[b]? = w.heap[b]? ∧ Zn B s.hp w' b := fun b hb hl => by
  refine ⟨hc.block b hl fun h => ?_, Nat.lt_of_lt_of_le hl hc.size, hb.2.1, hb.2.2⟩
  obtain ⟨h1, h2⟩ := hB.str b (hS b h)
  exact (hb.2.2 (hB.low b h1)).2 (hS b h)
 refine ⟨fun t x hx => (hr.slots t x hx).keep hz, hr.size, hr.defs, fun p hp => (hr.blocks p hp).keep hz fun g hg => hc.block g (hr.lt p hp g hg) fun h => ?_, hr.nodup,
  hr.chg.trans (hc.mono fun b _ h => (hB.str b (hS b h)).2), hr.own, hT⟩
 exact (hr.own p hp g hg).1 (hB.str g (hS g h)).1
theorem R.stepN (hB : B.Ok) (hr : R B s a w) (hc : Chg NoB w w') : R B s a w' :=
 hr.step hB hc (fun b h => h.elim) (hB.keep hr.res hc fun j _ h => h)
theorem R.alloc (hB : B.Ok) (hr : R B s a w) (ob : Obj) : R B s a (w.alloc ob) := hr.stepN hB ((Chg.refl _ _).alloc _)
theorem R.newZone (hr : R B s a w) (ob : Obj) : Zn B s.hp (w.alloc ob) w.heap.size := by
 refine ⟨by simp, fun p hp h => ?_, fun h => ?_⟩
 ·exact absurd (hr.lt p hp _ h) (Nat.lt_irrefl _)
 ·have := hr.chg.size; omega
theorem R.new (hB : B.Ok) (hr : R B s a w) (ob : Obj) (e : Ent) (hb : e.blk = some w.heap.size) (hE : EntR (w.alloc ob) (Zn B (s.hp ++ [e]) (w.alloc ob)) e) : R B ⟨s.sl, s.hp ++ [e], s.k⟩ a (w.alloc ob) := by
 have hz : ∀ b, Zn B s.hp w b → b < w.heap.size → (w.alloc ob).heap[b]? = w.heap[b]? ∧ Zn B (s.hp ++ [e]) (w.alloc ob) b := fun b hb' hl => by
  refine ⟨Below.heap_alloc _ _ _ hl, by simp; omega, fun p hp => ?_, hb'.2.2⟩
  rcases List.mem_append.1 hp with hp | hp
  ·exact hb'.2.1 p hp
  ·simp at hp; subst hp; rw [hb]; intro h; simp at h; omega
 refine ⟨fun t x hx => (hr.slots t x hx).keep hz, hr.size, hr.defs, fun p hp => ?_, ?_, hr.chg.alloc _, fun p hp g hg => ?_, hB.keep hr.res ((Chg.refl NoB w).alloc _) fun j _ h => h⟩
 ·rcases List.mem_append.1 hp with hp | hp
  ·exact (hr.blocks p hp).keep hz fun g hg => Below.heap_alloc _ _ _ (hr.lt p hp g hg)
  ·simp at hp; subst hp; exact hE
 ·refine Apart.of fun i j p q hij hi hj g hg hq => ?_
  by_cases hjl : j < s.hp.length
  ·rw [List.getElem?_append_left (by omega)] at hi
   rw [List.getElem?_append_left hjl] at hj
   exact hr.nodup.get hi hj (by omega) hg hq
  ·have hje : j = s.hp.length := by
    have := (List.getElem?_eq_some_iff.1 hj).1
    simp at this; omega
   rw [hje, List.getElem?_append_right (Nat.le_refl _)] at hj
   simp at hj
   subst hj
   rw [List.getElem?_append_left (by omega)] at hi
   rw [hb] at hq
   have := hr.lt p (List.mem_of_getElem? hi) g hg
   simp at hq; omega
 ·rcases List.mem_append.1 hp with hp | hp
  ·exact hr.own p hp g hg
  ·simp at hp; subst hp
   rw [hb] at hg
   simp at hg
   have := hr.chg.size
   refine ⟨fun h => ?_, fun h => by omega⟩
   have := hB.low g h
   omega
theorem R.set (hB : B.Ok) (hr : R B s a w) {i : Nat} {e e' : Ent} (hi : s.hp[i]? = some e) (hc : Chg (fun b => e.blk = some b) w w')
  (hb : e'.blk = e.blk ∨ ∃ g, e'.blk = some g ∧ w.heap.size ≤ g) (hE : EntR w' (Zn B (s.hp.set i e') w') e') : R B ⟨s.sl, s.hp.set i e', s.k⟩ a w' := by
 have hil : i < s.hp.length := (List.getElem?_eq_some_iff.1 hi).1
 have hmem := List.mem_of_getElem? hi
 have hz : ∀ b, Zn B s.hp w b → b < w.heap.size → w'.heap[b]? = w.heap[b]? ∧ Zn B (s.hp.set i e') w' b := fun b hb' hl => by
  refine ⟨hc.block b hl fun h => hb'.2.1 e hmem h, Nat.lt_of_lt_of_le hl hc.size, fun p hp => ?_, hb'.2.2⟩
  rcases List.mem_or_eq_of_mem_set hp with hp | hp
  ·exact hb'.2.1 p hp
  ·subst hp
   rcases hb with hb | ⟨g, hb, hg⟩
   ·rw [hb]; exact hb'.2.1 e hmem
   ·rw [hb]; intro h; simp at h; omega
 have oth : ∀ j p, (s.hp.set i e')[j]? = some p → j ≠ i → s.hp[j]? = some p := fun j p hj hji => by
  rwa [List.getElem?_set_ne (Ne.symm hji)] at hj
 have selfE : ∀ p, (s.hp.set i e')[i]? = some p → p = e' := fun p hp => by
  rw [List.getElem?_set_self hil] at hp; simpa using hp.symm
 have apartE : ∀ j p, s.hp[j]? = some p → j ≠ i → ∀ g, p.blk = some g → e'.blk ≠ some g := fun j p hj hji g hg h => by
  rcases hb with hb | ⟨g', hb, hg'⟩
  ·rw [hb] at h; exact hr.nodup.get hj hi hji hg h
  ·rw [hb] at h
   have := hr.lt p (List.mem_of_getElem? hj) g hg
   simp at h; omega
 refine ⟨fun t x hx => (hr.slots t x hx).keep hz, hr.size, hr.defs, fun p hp => ?_, ?_, ((hr.chg.mono (S' := fun b => B.S b ∨ e.blk = some b) fun b _ h => .inl h).trans (hc.mono fun b _ h => .inr h)).mono fun b hb0 h => h.elim id fun h => (hr.own e hmem b h).2 hb0, fun p hp g hg => ?_, hB.keep hr.res hc fun j hj h => (hr.own e hmem j h).1 hj⟩
 ·obtain ⟨j, hj⟩ := List.mem_iff_getElem?.1 hp
  by_cases hji : j = i
  ·subst hji; rw [selfE p hj]; exact hE
  ·have hj' := oth j p hj hji
   refine (hr.blocks p (List.mem_of_getElem? hj')).keep hz fun g hg => hc.block g (hr.lt p (List.mem_of_getElem? hj') g hg) fun h => ?_
   exact hr.nodup.get hj' hi hji hg h
 ·refine Apart.of fun j1 j2 p q hij hp hq g hg hg2 => ?_
  by_cases h1 : j1 = i
  ·subst h1
   rw [selfE p hp] at hg
   exact apartE j2 q (oth j2 q hq (by omega)) (by omega) g hg2 hg
  ·by_cases h2 : j2 = i
   ·subst h2
    rw [selfE q hq] at hg2
    exact apartE j1 p (oth j1 p hp h1) h1 g hg hg2
   ·exact hr.nodup.get (oth j1 p hp h1) (oth j2 q hq h2) (by omega) hg hg2
 ·rcases List.mem_or_eq_of_mem_set hp with hp | hp
  ·exact hr.own p hp g hg
  ·subst hp
   rcases hb with hb | ⟨g', hb, hg'⟩
   ·rw [hb] at hg; exact hr.own e hmem g hg
   ·rw [hb] at hg
    simp at hg
    subst hg
    have := hr.chg.size
    exact ⟨fun h => by have := hB.low g' h; omega, fun h => by omega⟩
end
end
section
def cellsOf : AV → List AV
 | .agg cs => cs
 | .v (.agg us) => us.toList.map .v
 | x => [x]
def AV.known : AV → Bool
 | .any => false
 | _ => true
def AV.one : AV → Bool
 | .v x => x.oneCell'
 | .im _ _ _ => true
 | .at_ _ _ => true
 | .fn _ _ => true
 | .mpv _ _ _ => true
 | _ => false
theorem Rep.oneC {w : World} {Z : Nat → Prop} {x : AV} {u : Value} (h : Rep w Z x u) (h1 : x.one = true) : u.oneCell' = true := by
 cases h with
 | v x => exact h1
 | nil => rfl
 | im => rfl
 | at_ => rfl
 | fn => rfl
 | mpv => rfl
 | _ => simp [AV.one] at h1
def Reps (w : World) (Z : Nat → Prop) (cs : List AV) (c : Array Value) : Prop := c.size = cs.length ∧ ∀ j, (h : j < cs.length) → Rep w Z cs[j] (c.getD j undef)
theorem getD_lt {c : Array Value} {j : Nat} (h : j < c.size) : c[j]? = some (c.getD j undef) := by
 rw [Array.getD_eq_getD_getElem?, Array.getElem?_eq_getElem h]; rfl
theorem Rep.cells {w : World} {Z : Nat → Prop} {x : AV} {u : Value} (h : Rep w Z x u) (hk : x.known = true) : Reps w Z (cellsOf x) u.cells := by
 cases h with
 | v =>
  cases u with
  | agg us =>
   refine ⟨by simp [cellsOf, Value.cells], fun j hj => ?_⟩
   simp [cellsOf] at hj
   simp only [cellsOf, List.getElem_map, Value.cells]
   rw [show us.toList[j]'(by simpa using hj) = us.getD j undef by rw [Array.getD_eq_getD_getElem?, Array.getElem?_eq_getElem hj]; simp]
   exact .v _
  | _ => exact ⟨rfl, fun j hj => by simp [cellsOf] at hj; subst hj; exact .v _⟩
 | any => simp [AV.known] at hk
 | nil sz f => exact ⟨rfl, fun j hj => by simp [cellsOf] at hj; subst hj; exact .nil sz f⟩
 | im n sz f b off cap c e u hZ h1 h2 hb hc hr => exact ⟨rfl, fun j hj => by simp [cellsOf] at hj; subst hj; exact .im n sz f b off cap c e u hZ h1 h2 hb hc hr⟩
 | at_ m f b off c e u hZ hb hc hr => exact ⟨rfl, fun j hj => by simp [cellsOf] at hj; subst hj; exact .at_ m f b off c e u hZ hb hc hr⟩
 | agg cs us hl hr => exact ⟨hl, hr⟩
 | tup cs us hl hr => exact ⟨rfl, fun j hj => by simp [cellsOf] at hj; subst hj; exact .tup cs us hl hr⟩
 | fn F cs us hl hr => exact ⟨rfl, fun j hj => by simp [cellsOf] at hj; subst hj; exact .fn F cs us hl hr⟩
 | mpv n ks f b es clk hZ hb hn hk2 hd hr => exact ⟨rfl, fun j hj => by simp [cellsOf] at hj; subst hj; exact .mpv n ks f b es clk hZ hb hn hk2 hd hr⟩
theorem Reps.keep {w w' : World} {Z Z' : Nat → Prop} {cs : List AV} {c : Array Value} (h : Reps w Z cs c) (hb : ∀ b, Z b → b < w.heap.size → w'.heap[b]? = w.heap[b]? ∧ Z' b) : Reps w' Z' cs c :=
 ⟨h.1, fun j hj => (h.2 j hj).keep hb⟩
def setAll (cs : List AV) (off : Nat) : List AV → List AV
 | [] => cs
 | x :: r => setAll (cs.set off x) (off + 1) r
def setAllV (c : Array Value) (off : Nat) : List Value → Array Value
 | [] => c
 | x :: r => setAllV (c.setIfInBounds off x) (off + 1) r
theorem setAll_len (cs : List AV) (off : Nat) (l : List AV) : (setAll cs off l).length = cs.length := by
 induction l generalizing cs off with
 | nil => rfl
 | cons x r ih => simp [setAll, ih]
theorem setAllV_size (c : Array Value) (off : Nat) (l : List Value) : (setAllV c off l).size = c.size := by
 induction l generalizing c off with
 | nil => rfl
 | cons x r ih => simp [setAllV, ih]
theorem Reps.set {w : World} {Z : Nat → Prop} {cs : List AV} {c : Array Value} (h : Reps w Z cs c) (j : Nat) {x : AV} {u : Value} (hx : Rep w Z x u) : Reps w Z (cs.set j x) (c.setIfInBounds j u) := by
 refine ⟨by simp [h.1], fun q hq => ?_⟩
 simp at hq
 rw [List.getElem_set, Array.getD_eq_getD_getElem?, Array.getElem?_setIfInBounds]
 by_cases hjq : j = q
 ·subst hjq
  have : j < c.size := by rw [h.1]; exact hq
  simp [this]; exact hx
 ·rw [if_neg hjq, if_neg hjq, ← Array.getD_eq_getD_getElem?]
  exact h.2 q hq
theorem Reps.setAll {w : World} {Z : Nat → Prop} : ∀ {l : List AV} {us : List Value} {cs : List AV} {c : Array Value} (h : Reps w Z cs c) (off : Nat), us.length = l.length → (∀ j, (hj : j < l.length) → Rep w Z l[j] (us.getD j undef)) → Reps w Z (setAll cs off l) (setAllV c off us)
 | [], [], cs, c, h, off, _, _ => h
 | [], _ :: _, _, _, _, _, hl, _ => by simp at hl
 | _ :: _, [], _, _, _, _, hl, _ => by simp at hl
 | x :: l, u :: us, cs, c, h, off, hl, hr =>
  Reps.setAll (h.set off (hr 0 (Nat.zero_lt_succ _))) (off + 1) (by simpa using hl) fun j hj => hr (j + 1) (Nat.succ_lt_succ hj)
theorem foldl_zip (cells : Array Value) (off : Nat) : ∀ (l : List Value) (k : Nat) (c : Array Value), (l.zipIdx k).foldl (fun cs (p : Value × Nat) => cs.setIfInBounds (off + p.2) p.1) c = setAllV c (off + k) l
 | [], k, c => rfl
 | x :: l, k, c => by
  simp only [List.zipIdx_cons, List.foldl_cons, setAllV]
  rw [foldl_zip cells off l (k + 1)]
  rfl
def fillA (place : Nat → Option (Nat × Nat)) : List AV → List (Nat × AV) → Option (List AV)
 | cs, [] => some cs
 | cs, (i, x) :: rest => match place i with
  | none => none
  | some (off, size) => match Nat.beq (cellsOf x).length size && Nat.ble (off + size) cs.length && x.known with
   | true => fillA place (setAll cs off (cellsOf x)) rest
   | false => none
theorem fill_rep {w : World} {Z : Nat → Prop} {place : Nat → Option (Nat × Nat)} : ∀ {ps : List (Nat × AV)} {qs : List (Nat × Value)} {cs r : List AV} {c : Array Value}, Reps w Z cs c → fillA place cs ps = some r →
  ps.length = qs.length → (∀ (j : Nat) (p : Nat × AV) (q : Nat × Value), ps[j]? = some p → qs[j]? = some q → p.1 = q.1 ∧ Rep w Z p.2 q.2) → ∃ c', Instr.fill place c qs = some c' ∧ Reps w Z r c'
 | [], [], cs, r, c, h, hf, _, _ => by simp only [fillA, Option.some.injEq] at hf; subst hf; exact ⟨c, rfl, h⟩
 | [], _ :: _, _, _, _, _, _, hl, _ => by simp at hl
 | _ :: _, [], _, _, _, _, _, hl, _ => by simp at hl
 | (i, x) :: ps, (i', u) :: qs, cs, r, c, h, hf, hl, hr => by
  obtain ⟨e1, hx⟩ := hr 0 _ _ rfl rfl
  simp only at e1 hx
  subst e1
  simp only [fillA] at hf
  cases hp : place i with
  | none => rw [hp] at hf; cases hf
  | some os =>
   obtain ⟨off, size⟩ := os
   rw [hp] at hf
   simp only at hf
   split at hf
   ·rename_i hb
    simp only [Bool.and_eq_true] at hb
    obtain ⟨⟨hb1, hb2⟩, hb3⟩ := hb
    have e1 : (cellsOf x).length = size := Nat.eq_of_beq_eq_true hb1
    have e2 : off + size ≤ cs.length := Nat.le_of_ble_eq_true hb2
    have hc := hx.cells hb3
    have hu : u.cells.size = size := by rw [hc.1, e1]
    have hcs : c.size = cs.length := h.1
    have hn := h.setAll off (l := cellsOf x) (us := u.cells.toList) (by simp [hc.1]) (fun j hj => by
     have := hc.2 j hj
     rwa [show u.cells.toList.getD j undef = u.cells.getD j undef by rw [Array.getD_eq_getD_getElem?, List.getD_eq_getElem?_getD, Array.getElem?_toList]])
    obtain ⟨c', h1, h2⟩ := fill_rep hn hf (by simpa using hl) (fun j p q hp hq => hr (j + 1) p q (by simpa using hp) (by simpa using hq))
    refine ⟨c', ?_, h2⟩
    simp only [Instr.fill, hp]
    rw [if_neg (by simp [hu]; omega)]
    have := foldl_zip c off u.cells.toList 0 c
    rw [show (Array.foldl (fun cs (p : Value × Nat) => cs.setIfInBounds (off + p.2) p.1) c u.cells.zipIdx) = setAllV c off u.cells.toList by
     rw [← Array.foldl_toList, Array.toList_zipIdx]; simpa using this]
    exact h1
   ·cases hf
def evPs (s : St') : List (Nat × Operand) → Option (List (Nat × AV))
 | [] => some []
 | (i, x) :: r => match evO s x, evPs s r with
  | some v, some l => some ((i, v) :: l)
  | _, _ => none
def evL (s : St') : List Operand → Option (List AV)
 | [] => some []
 | x :: r => match evO s x, evL s r with
  | some v, some l => some (v :: l)
  | _, _ => none
section
variable {P : Program} {B : Bs} {W : Nat → Prop} {s : St'} {a : Act} {w w' : World} {o : Oper} {K : St' → Prop}
theorem R.evPs (hr : R B s a w) : ∀ {ops : List (Nat × Operand)} {ps : List (Nat × AV)}, Proofs.YtcploodfholkkaaGreatDoor.evPs s ops = some ps → ps.length = ops.length ∧ ∀ (j : Nat) (p : Nat × AV) (q : Nat × Value), ps[j]? = some p → (ops.map fun (i, x) => (i, a.eval x))[j]? = some q → p.1 = q.1 ∧ Rep w (Zn B s.hp w) p.2 q.2
 | [], ps, h => by simp only [Proofs.YtcploodfholkkaaGreatDoor.evPs, Option.some.injEq] at h; subst h; simp
 | (i, x) :: r, ps, h => by
  simp only [Proofs.YtcploodfholkkaaGreatDoor.evPs] at h
  split at h
  ·rename_i v l h1 h2
   simp only [Option.some.injEq] at h
   subst h
   obtain ⟨k1, k2⟩ := R.evPs hr h2
   refine ⟨by simp [k1], fun j p q hp hq => ?_⟩
   cases j with
   | zero =>
    simp at hp hq
    subst hp; subst hq
    exact ⟨rfl, hr.ev h1⟩
   | succ j => exact k2 j p q (by simpa using hp) (by simpa using hq)
  ·cases h
theorem R.evL (hr : R B s a w) : ∀ {ops : List Operand} {ps : List AV}, Proofs.YtcploodfholkkaaGreatDoor.evL s ops = some ps → ps.length = ops.length ∧ ∀ j, (h : j < ps.length) → Rep w (Zn B s.hp w) ps[j] ((ops.map a.eval).getD j undef)
 | [], ps, h => by simp only [Proofs.YtcploodfholkkaaGreatDoor.evL, Option.some.injEq] at h; subst h; simp
 | x :: r, ps, h => by
  simp only [Proofs.YtcploodfholkkaaGreatDoor.evL] at h
  split at h
  ·rename_i v l h1 h2
   simp only [Option.some.injEq] at h
   subst h
   obtain ⟨k1, k2⟩ := R.evL hr h2
   refine ⟨by simp [k1], fun j hj => ?_⟩
   cases j with
   | zero => simpa using hr.ev h1
   | succ j => simpa using k2 j (by simpa using hj)
  ·cases h
theorem EntR.box_of {Z : Nat → Prop} {g : Nat} {c : Array Value} {cs : List AV} {ty : TypeId} (hg : w.heap[g]? = some (.cells c ty (0, 0))) (h : Reps w Z cs c) : EntR w Z (.box g ⟨cs, ty, cs.length⟩) :=
 ⟨c, hg, h.1, Nat.le_refl _, fun j hj => ⟨c.getD j undef, getD_lt (by rw [h.1]; exact hj), h.2 j hj⟩⟩
theorem R.newBox (hB : B.Ok) (hr : R B s a w) (c : Array Value) (e : TypeId) (cs : List AV) (h : Reps w (Zn B s.hp w) cs c) : R B ⟨s.sl, s.hp ++ [.box w.heap.size ⟨cs, e, cs.length⟩], s.k⟩ a (w.alloc (.cells c e)) := by
 refine hr.new hB _ _ rfl (EntR.box_of (heap_alloc_new w _) (h.keep fun b hb hl => ⟨Below.heap_alloc _ _ _ hl, by simp; omega, fun p hp => ?_, hb.2.2⟩))
 rcases List.mem_append.1 hp with hp | hp
 ·exact hb.2.1 p hp
 ·simp at hp; subst hp; intro h; simp [Ent.blk] at h; omega
theorem OpE.box {x : Operand} {e : TypeId} {v : AV} (ho : o.op = .box e x) (hB : B.Ok) (hd : okd B.nt o.dst = true) (hx : evO s x = some v) (hk : v.known = true)
  (hK : ∀ g, K ((St'.mk s.sl (s.hp ++ [.box g ⟨cellsOf v, e, (cellsOf v).length⟩]) s.k).put o.dst (.v (.pointer (some ⟨g, 0, none⟩))))) : OpE P B W s o K := by
 intro a w hr next Qx hn
 have h1 := hr.newBox hB _ e _ ((hr.ev hx).cells hk)
 unfold Oper.wp
 simp only [execOp, ho, Instr.box, newVar, newRow, Sem.run_bind, run_newObj_alloc, Result.andThen_ok, Sem.run_pure]
 exact hn _ _ _ (hK _) (h1.put _ hd _ _ (.v _)) (.ofN ((Chg.refl _ _).alloc _))
theorem OpE.alloc {e : TypeId} {z : Value} {cs : List AV} (ho : o.op = .alloc e) (hB : B.Ok) (hd : okd B.nt o.dst = true) (hz : ∀ w, (zeroValue e).run P w = .ok z w) (hcs : cellsOf (.v z) = cs)
  (hK : ∀ g, K ((St'.mk s.sl (s.hp ++ [.box g ⟨cs, e, cs.length⟩]) s.k).put o.dst (.v (.pointer (some ⟨g, 0, none⟩))))) : OpE P B W s o K := by
 subst hcs
 intro a w hr next Qx hn
 have h1 := hr.newBox hB _ e _ (Rep.cells (.v z) rfl)
 unfold Oper.wp
 simp only [execOp, ho, Instr.alloc, newVar, newRow, Sem.run_bind, hz, run_newObj_alloc, Result.andThen_ok, Sem.run_pure]
 exact hn _ _ _ (hK _) (h1.put _ hd _ _ (.v _)) (.ofN ((Chg.refl _ _).alloc _))
theorem OpV.build {t : TypeId} {z : Value} {fs : Array Field} {parts : Array (Nat × Operand)} {pls : Array (Nat × Nat)} {ps : List (Nat × AV)} {r : List AV} (ho : o.op = .build t parts) (hz : ∀ w, (zeroValue t).run P w = .ok z w) (hu : P.underlying t = some (.struct fs))
  (hpl : ∀ w, (fs.mapM fun f => (do pure (f.offset, ← sizeOf f.type) : Sem (Nat × Nat))).run P w = .ok pls w) (hps : evPs s parts.toList = some ps) (hf : fillA (pls[·]?) (cellsOf (.v z)) ps = some r) : OpV P B W s o (.agg r) := by
 intro a w hr
 obtain ⟨k1, k2⟩ := hr.evPs hps
 obtain ⟨c', h1, h2⟩ := fill_rep (Z := Zn B s.hp w) (w := w) (c := z.cells) (Rep.cells (.v z) rfl) hf (qs := parts.toList.map fun (i, x) => (i, a.eval x)) (by simp [k1]) k2
 refine ⟨.agg c', fun w' _ => ?_, .agg _ _ h2.1 h2.2⟩
 have h1' : Instr.fill (fun x => pls[x]?) z.cells (Array.map (fun p => (p.1, a.eval p.2)) parts).toList = some c' := by simpa using h1
 simp only [execOp, ho, Instr.build, Sem.run_bind, hz, run_underlying hu, hpl, Result.andThen_ok]
 have h1'' : Instr.fill (fun x => pls[x]?) z.cells (Array.map (fun x => match x with | (i, x) => (i, a.eval x)) parts).toList = some c' := h1'
 simp only [h1'', Sem.run_pure, Result.andThen_ok]
theorem OpE.buildSlice {t e : TypeId} {n sz : Nat} {zc : Array Value} {parts : Array (Nat × Operand)} {ps : List (Nat × AV)} {r : List AV} (ho : o.op = .buildSlice t n parts) (hB : B.Ok) (hd : okd B.nt o.dst = true) (hu : P.underlying t = some (.slice e))
    (hsz : ∀ w, (sizeOf e).run P w = .ok sz w) {z : Value} (hz : ∀ w, (zeroValue e).run P w = .ok z w) (hn : n * sz ≤ 65536) (h0 : n ≠ 0 ∧ sz ≠ 0) (hzc : (Array.range (n * sz)).map (fun j => z.cells[j % z.cells.size]!) = zc)
    (hps : evPs s parts.toList = some ps) (hf : fillA (fun i => some (i * sz, sz)) (zc.toList.map .v) ps = some r)
    (hK : K (s.put o.dst (.im n sz fun j => r.getD j .any))) : OpE P B W s o K := by
  intro a w hr next Qx hn'
  obtain ⟨k1, k2⟩ := hr.evPs hps
  have hz0 : Reps w (Zn B s.hp w) (zc.toList.map .v) zc := (Rep.cells (.v (.agg zc)) rfl : Reps w _ (cellsOf (.v (.agg zc))) (Value.agg zc).cells)
  obtain ⟨c', h1, h2⟩ := fill_rep (Z := Zn B s.hp w) (w := w) (c := zc) hz0 hf (qs := parts.toList.map fun (i, x) => (i, a.eval x)) (by simp [k1]) k2
  have hsize : c'.size = n * sz := by
    have : ∀ (place : Nat → Option (Nat × Nat)) (qs : List (Nat × Value)) (c c' : Array Value), Instr.fill place c qs = some c' → c'.size = c.size := by
      intro place qs
      induction qs with
      | nil => intro c c' h; simp only [Instr.fill, Option.some.injEq] at h; rw [h]
      | cons q qs ih =>
        intro c c' h
        simp only [Instr.fill] at h
        split at h
        · cases h
        · split at h
          · cases h
          · rw [ih _ _ h]
            rename_i off size _ _
            have := foldl_zip c off q.2.cells.toList 0 c
            rw [show (Array.foldl (fun cs (p : Value × Nat) => cs.setIfInBounds (off + p.2) p.1) c q.2.cells.zipIdx) = setAllV c off q.2.cells.toList by
              rw [← Array.foldl_toList, Array.toList_zipIdx]; simpa using this]
            exact setAllV_size _ _ _
    rw [this _ _ _ _ h1, ← hzc]; simp
  have hr' := hr.alloc hB (.cells c' e)
  have hrep : Rep (w.alloc (.cells c' e)) (Zn B s.hp (w.alloc (.cells c' e))) (.im n sz fun j => r.getD j .any) (.slice (some ⟨w.heap.size, 0, none⟩) n n) := by
    have hl : n ≤ maxLen := by
      have : n ≤ n * sz := Nat.le_mul_of_pos_right n (by omega)
      simp only [maxLen]; omega
    refine .im n sz _ w.heap.size 0 n c' e (fun j => c'.getD j undef) (hr.newZone _) (Nat.le_refl _) hl (heap_alloc_new w _) (fun j hj => by rw [Nat.zero_add]; exact getD_lt (by omega)) fun j hj => ?_
    have hjr : j < r.length := by rw [← h2.1]; omega
    rw [List.getD_eq_getElem?_getD, List.getElem?_eq_getElem hjr]
    exact (h2.2 j hjr).keep fun b hb hl => ⟨Below.heap_alloc _ _ _ hl, by simp; omega, hb.2.1, hb.2.2⟩
  unfold Oper.wp
  have hne : ¬ (n * sz = 0) := Nat.mul_ne_zero h0.1 h0.2
  have hzc' : (Array.map (fun x => z.cells[x % z.cells.size]!) (Array.range (n * sz))) = zc := hzc
  have h24 : ¬ (n * sz > 2 ^ 24) := by omega
  simp only [execOp, ho, Instr.buildSlice, newRow, Sem.run_bind, run_underlying hu, hsz, hz, run_newObj_alloc, Result.andThen_ok, Sem.run_pure, hne, h24, if_false]
  have h1' : Instr.fill (fun i => some (i * sz, sz)) zc (Array.map (fun p => (p.1, a.eval p.2)) parts).toList = some c' := by simpa using h1
  rw [hzc']
  have h1'' : Instr.fill (fun i => some (i * sz, sz)) zc (Array.map (fun x => (x.fst, a.eval x.snd)) parts).toList = some c' := h1'
  rw [h1'']
  simp only [Sem.run_bind, run_newObj_alloc, Result.andThen_ok, Sem.run_pure]
  exact hn' _ _ _ hK (hr'.put _ hd _ _ hrep) (.ofN ((Chg.refl _ _).alloc _))
end
end
section
theorem setAll_get : ∀ (l : List AV) (cs : List AV) (off q : Nat) (hq : q < (setAll cs off l).length), (setAll cs off l)[q] = if h : off ≤ q ∧ q < off + l.length then l[q - off] else cs[q]'(by rwa [setAll_len] at hq)
 | [], cs, off, q, hq => by simp [setAll]; omega
 | x :: l, cs, off, q, hq => by
  simp only [setAll] at hq ⊢
  rw [setAll_get l (cs.set off x) (off + 1) q hq]
  by_cases h1 : off + 1 ≤ q ∧ q < off + 1 + l.length
  ·rw [dif_pos h1, dif_pos (by simp; omega)]
   have : q - off = (q - (off + 1)) + 1 := by omega
   simp [this]
  ·rw [dif_neg h1]
   by_cases h2 : q = off
   ·subst h2
    rw [dif_pos (by simp)]
    simp
   ·rw [dif_neg (by simp; omega)]
    rw [List.getElem_set_ne (Ne.symm h2)]
section
variable {P : Program} {B : Bs} {W : Nat → Prop} {s : St'} {a : Act} {w w' : World} {o : Oper} {K : St' → Prop}
theorem R.notStr (hB : B.Ok) (hr : R B s a w) {e : Ent} (he : e ∈ s.hp) {g : Nat} (hg : e.blk = some g) : ¬ B.str g := fun h => (hr.own e he g hg).1 (hB.str g h).1
theorem OpV.load_own {x : Operand} {t g j i : Nat} {o' : Own'} {v : AV} (ho : o.op = .load t x) (hB : B.Ok) (hag : ∀ w, (isAgg t).run P w = .ok false w) (hx : evO s x = some (.v (.pointer (some ⟨g, j, none⟩)))) (hi : s.hp[i]? = some (.box g o')) (hc : o'.cs[j]? = some v) (hW : ¬ W g) : OpV P B W s o v := by
 intro a w hr
 have hm := List.mem_of_getElem? hi
 obtain ⟨c, h1, h2, h3, h4⟩ := hr.blocks _ hm
 obtain ⟨hj, rfl⟩ := List.getElem?_eq_some_iff.1 hc
 obtain ⟨u, k1, k2⟩ := h4 j hj
 refine ⟨u, fun w' hcw => ?_, k2⟩
 have h1' : w'.heap[g]? = some (.cells c o'.ty (0, 0)) := (hcw.block g (hr.lt _ hm g rfl) fun h => h.elim (hr.notStr hB hm rfl) hW).trans h1
 have hcell : w'.cell? ⟨g, j, none⟩ = some u := by simpa [World.cell?, h1'] using k1
 simp [execOp, ho, hr.evv hx, Instr.loadAt, Instr.sureAddr, loadVar, hag, load, Sem.run, hcell]
theorem OpV.loadK_own {x : Operand} {t g j i k : Nat} {o' : Own'} {r : List AV} (ho : o.op = .load t x) (hB : B.Ok) (hag : ∀ w, (isAgg t).run P w = .ok true w) (hsz : ∀ w, (sizeOf t).run P w = .ok k w) (hx : evO s x = some (.v (.pointer (some ⟨g, j, none⟩)))) (hi : s.hp[i]? = some (.box g o')) (hc : cutL o'.cs j k = some r) (hW : ¬ W g) : OpV P B W s o (.agg r) := by
 intro a w hr
 have hm := List.mem_of_getElem? hi
 obtain ⟨c, h1, h2, h3, h4⟩ := hr.blocks _ hm
 obtain ⟨e1, e2, e3⟩ := cutL_spec hc
 have hget : ∀ q, q < k → ∃ u, c[j + q]? = some u ∧ Rep w (Zn B s.hp w) (r.getD q .any) u := fun q hq => by
  have := e3 q (by omega)
  obtain ⟨hl, he⟩ := List.getElem?_eq_some_iff.1 this
  obtain ⟨u, k1, k2⟩ := h4 _ hl
  refine ⟨u, k1, ?_⟩
  rw [he] at k2
  rwa [List.getD_eq_getElem?_getD, List.getElem?_eq_getElem (by omega)]
 refine ⟨.agg ((List.range k).map fun q => c.getD (j + q) undef).toArray, fun w' hcw => ?_, .agg _ _ (by simp [e1]) fun q hq => ?_⟩
 ·have h1' : w'.heap[g]? = some (.cells c o'.ty (0, 0)) := (hcw.block g (hr.lt _ hm g rfl) fun h => h.elim (hr.notStr hB hm rfl) hW).trans h1
  have hcell : ∀ q v, ((List.range k).map fun q => c.getD (j + q) undef)[q]? = some v → w'.cell? ((⟨g, j, none⟩ : Addr).add q) = some v := by
   intro q v hq
   simp only [List.getElem?_map, Option.map_eq_some_iff] at hq
   obtain ⟨q', hq', rfl⟩ := hq
   obtain ⟨hlt, hq''⟩ := List.getElem?_eq_some_iff.1 hq'
   simp at hlt hq''
   subst hq''
   obtain ⟨u, k1, _⟩ := hget q (by simpa using hlt)
   rw [Addr.add_lit]
   have : c.getD (j + q) undef = u := by rw [Array.getD_eq_getD_getElem?, k1]; rfl
   rw [this]
   simpa [World.cell?, h1'] using k1
  have hl := run_loadCells_list (P := P) w' ⟨g, j, none⟩ _ hcell
  simp only [List.length_map, List.length_range] at hl
  simp [execOp, ho, hr.evv hx, Instr.loadAt, Instr.sureAddr, loadVar, hag, hsz, hl]
 ·obtain ⟨u, k1, k2⟩ := hget q (by omega)
  have hqk : q < k := by omega
  rw [List.getD_eq_getElem?_getD, List.getElem?_eq_getElem hq] at k2
  have : c.getD (j + q) undef = u := by rw [Array.getD_eq_getD_getElem?, k1]; rfl
  simp [hqk]
  rw [show c[j + q]?.getD undef = u by rw [k1]; rfl]
  exact k2
theorem chg_setRow (w : World) (g : Nat) (c : Array Value) : Chg (fun b => some g = some b) w (w.setRow g c) :=
 ⟨rfl, rfl, rfl, by simp [World.setRow], fun k _ hk => setRow_other w g k c (fun e => hk (by rw [e]))⟩
theorem OpE.store {x y : Operand} {t g j i k : Nat} {o' : Own'} {v : AV} (ho : o.op = .store t x y) (hB : B.Ok) (hd : okd B.nt o.dst = true) (hsz : ∀ w, (sizeOf t).run P w = .ok k w) (hx : evO s x = some (.v (.pointer (some ⟨g, j, none⟩)))) (hy : evO s y = some v)
  (hk : v.known = true) (hl : (cellsOf v).length = k) (hone : (cellsOf v).all AV.one = true) (hi : s.hp[i]? = some (.box g o')) (hj : j + k ≤ o'.cs.length) (hW : W g)
  (hK : K ((St'.mk s.sl (s.hp.set i (.box g ⟨setAll o'.cs j (cellsOf v), o'.ty, o'.tot⟩)) s.k).put o.dst (.v undef))) : OpE P B W s o K := by
 intro a w hr next Qx hn
 have hm := List.mem_of_getElem? hi
 obtain ⟨c, h1, h2, h3, h4⟩ := hr.blocks _ hm
 have hc := (hr.ev hy).cells hk
 generalize hv : a.eval y = u at hc
 have hul : u.cells.toList.length = k := by simp [hc.1, hl]
 have hone' : ∀ x ∈ u.cells.toList, x.oneCell' = true := by
  intro x hx'
  obtain ⟨q, hq, rfl⟩ := List.mem_iff_getElem.1 hx'
  have hq' : q < (cellsOf v).length := by simp [hc.1] at hq; omega
  have := hc.2 q hq'
  rw [show u.cells.getD q undef = u.cells.toList[q] by rw [Array.getD_eq_getD_getElem?]; simp at hq; simp [hq]] at this
  exact this.oneC (List.all_eq_true.1 hone _ (List.getElem_mem hq'))
 have hst := run_storeCells_at P g j o'.ty u.cells.toList 0 c w h1 (by rw [hul]; omega) hone'
 simp only [Nat.add_zero] at hst
 have hst' : (storeCells ⟨g, j, none⟩ u.cells.toList).run P w = _ := hst
 generalize hc' : (c.toList.take j ++ u.cells.toList ++ c.toList.drop (j + u.cells.toList.length)).toArray = c' at hst'
 have hsz' : c'.size = c.size := by
  rw [← hc']
  simp only [List.size_toArray, List.length_append, List.length_take, List.length_drop, Array.length_toList]
  rw [Array.length_toList] at hul
  omega
 have hg' := setRow_heap w g c c' o'.ty (0, 0) h1
 have hr' := hr.set hB hi (e' := .box g ⟨setAll o'.cs j (cellsOf v), o'.ty, o'.tot⟩) (w' := w.setRow g c') (chg_setRow w g c') (.inl rfl) (by
  refine ⟨c', hg', by rw [hsz', h2], by rw [setAll_len]; exact h3, fun q hq => ?_⟩
  have hz : ∀ b, Zn B s.hp w b → b < w.heap.size → (w.setRow g c').heap[b]? = w.heap[b]? ∧ Zn B (s.hp.set i (.box g ⟨setAll o'.cs j (cellsOf v), o'.ty, o'.tot⟩)) (w.setRow g c') b := fun b hb hbl => by
   refine ⟨setRow_other w g b c' fun e => hb.2.1 _ hm (by rw [e]; rfl), by simp [World.setRow]; exact hbl, fun p hp => ?_, hb.2.2⟩
   rcases List.mem_or_eq_of_mem_set hp with hp | hp
   ·exact hb.2.1 p hp
   ·subst hp; exact hb.2.1 (.box g o') hm
  rw [setAll_len] at hq
  rw [setAll_get]
  by_cases hin : j ≤ q ∧ q < j + (cellsOf v).length
  ·rw [dif_pos hin]
   refine ⟨u.cells.getD (q - j) undef, ?_, (hc.2 (q - j) (by omega)).keep hz⟩
   rw [← hc']
   have hqu : q - j < u.cells.size := by rw [hc.1]; omega
   rw [List.getElem?_toArray, List.append_assoc, List.getElem?_append_right (by simp; omega), List.getElem?_append_left (by simp; omega)]
   simp only [List.length_take, Array.length_toList]
   rw [show q - min j c.size = q - j by omega, Array.getElem?_toList]
   exact getD_lt hqu
  ·rw [dif_neg hin]
   obtain ⟨x, k1, k2⟩ := h4 q hq
   refine ⟨x, ?_, k2.keep hz⟩
   rw [← hc', List.getElem?_toArray]
   by_cases hlt : q < j
   ·rw [List.append_assoc, List.getElem?_append_left (by simp; omega), List.getElem?_take, if_pos hlt, Array.getElem?_toList]
    exact k1
   ·rw [List.getElem?_append_right (by simp; rw [Array.length_toList] at hul; omega), List.getElem?_drop]
    simp only [List.length_append, List.length_take, Array.length_toList]
    rw [Array.length_toList] at hul
    rw [show j + u.cells.size + (q - (min j c.size + u.cells.size)) = q by omega, Array.getElem?_toList]
    exact k1)
 unfold Oper.wp
 have hcs : ¬ (u.cells.size ≠ k) := by rw [Array.length_toList] at hul; simp [hul]
 simp only [execOp, ho, Instr.storeAt, Instr.sureAddr, hr.evv hx, hv, storeVar, Sem.run_bind, Sem.run_pure, Result.andThen_ok, hsz, hcs, if_false, hst']
 exact hn _ _ _ hK (hr'.put _ hd _ _ (.v _)) ((chg_setRow w g c').mono fun b _ h => .inr (by cases h; exact hW))
theorem OpE.make {l c : Operand} {t e n sz bytes : Nat} {kl kc : IntKind} {C D : Int} {z : Value} {cs : List AV} (ho : o.op = .makeSlice t l c) (hB : B.Ok) (hd : okd B.nt o.dst = true) (hu : P.underlying t = some (.slice e))
  (hinfo : (P.info? e).map (fun i => (i.zero, i.size, i.bytes)) = some (some z, sz, bytes)) (hby : bytes ≤ 4096) (hl : evO s l = some (.v (.int kl C))) (hc : evO s c = some (.v (.int kc D))) (hC : C = n) (hD : D = n) (hn : n ≤ 1000000000)
  (hcs : (madeCells z.cells (n * sz)).toList.map .v = cs)
  (hK : ∀ g, K ((St'.mk s.sl (s.hp ++ [.box g ⟨cs, e, cs.length⟩]) s.k).put o.dst (.v (.slice (some ⟨g, 0, none⟩) n n)))) : OpE P B W s o K := by
 subst hC; subst hD; subst hcs
 obtain ⟨i, hi, hz0, hz1, hz2⟩ := info_parts hinfo
 have hb : (i.bytes : Int) * (n : Int) ≤ 281474976710656 := by
  have h : ((i.bytes * n : Nat) : Int) ≤ 281474976710656 := by
   have : i.bytes * n ≤ 4096 * 1000000000 := by rw [hz2]; exact Nat.mul_le_mul hby hn
   omega
  rwa [Int.natCast_mul] at h
 intro a w hr next Qx hn'
 have hrun := run_make (P := P) w t e i z hu hi hz0 kl kc n n (by omega) (Int.le_refl _) hb (by omega)
 simp only [Int.toNat_natCast, hz1] at hrun
 have h1 := hr.newBox hB (madeCells z.cells (n * sz)) e _ (Rep.cells (.v (.agg (madeCells z.cells (n * sz)))) rfl)
 unfold Oper.wp
 simp only [execOp, ho, hr.evv hl, hr.evv hc, Sem.run_bind, hrun, Result.andThen_ok, Sem.run_pure]
 exact hn' _ _ _ (hK _) (h1.put _ hd _ _ (.v _)) (.ofN ((Chg.refl _ _).alloc _))
theorem R.rowNil (hr : R B s a w) (sz : Nat) (ty : TypeId) : R B ⟨s.sl, s.hp ++ [.row (.slice none 0 0) 0 sz [] ty], s.k⟩ a w := by
 have hz : ∀ b, Zn B s.hp w b → Zn B (s.hp ++ [.row (.slice none 0 0) 0 sz [] ty]) w b := fun b hb => ⟨hb.1, fun p hp => by
  rcases List.mem_append.1 hp with hp | hp
  ·exact hb.2.1 p hp
  ·simp at hp; subst hp; simp [Ent.blk, Value.ownBlock], hb.2.2⟩
 refine ⟨fun t x hx => (hr.slots t x hx).keep fun b hb _ => ⟨rfl, hz b hb⟩, hr.size, hr.defs, fun p hp => ?_, ?_, hr.chg, fun p hp g hg => ?_, hr.res⟩
 ·rcases List.mem_append.1 hp with hp | hp
  ·exact (hr.blocks p hp).keep (fun b hb _ => ⟨rfl, hz b hb⟩) fun _ _ => rfl
  ·simp at hp; subst hp; exact ⟨by simp, .inl ⟨rfl, rfl⟩⟩
 ·refine Apart.of fun i j p q hij hi hj g hg hq => ?_
  by_cases hjl : j < s.hp.length
  ·rw [List.getElem?_append_left (by omega)] at hi
   rw [List.getElem?_append_left hjl] at hj
   exact hr.nodup.get hi hj (by omega) hg hq
  ·have hje : j = s.hp.length := by
    have := (List.getElem?_eq_some_iff.1 hj).1
    simp at this; omega
   rw [hje, List.getElem?_append_right (Nat.le_refl _)] at hj
   simp at hj
   subst hj
   simp [Ent.blk, Value.ownBlock] at hq
 ·rcases List.mem_append.1 hp with hp | hp
  ·exact hr.own p hp g hg
  ·simp at hp; subst hp; simp [Ent.blk, Value.ownBlock] at hg
theorem R.rowBox (hr : R B s a w) {i n sz : Nat} {u : Value} {cs : List AV} {ty : TypeId} (hi : s.hp[i]? = some (.row u n sz cs ty)) (hn : 0 < n) :
  ∃ g cap, u = .slice (some ⟨g, 0, none⟩) n cap ∧ n ≤ cap ∧ cap ≤ maxLen ∧ R B ⟨s.sl, s.hp.set i (.box g ⟨cs, ty, cap * sz⟩), s.k⟩ a w := by
 obtain ⟨h0, ⟨_, h⟩ | ⟨g, cap, c, rfl, h1, h2, h3, h4, h5⟩⟩ := hr.blocks _ (List.mem_of_getElem? hi)
 ·omega
 ·refine ⟨g, cap, rfl, h1, h2, ?_⟩
  have hz : ∀ b, Zn B s.hp w b → Zn B (s.hp.set i (.box g ⟨cs, ty, cap * sz⟩)) w b := fun b hb => ⟨hb.1, fun p hp => by
   rcases List.mem_or_eq_of_mem_set hp with hp | hp
   ·exact hb.2.1 p hp
   ·subst hp; exact hb.2.1 (.row (.slice (some ⟨g, 0, none⟩) n cap) n sz cs ty) (List.mem_of_getElem? hi), hb.2.2⟩
  have hle : cs.length ≤ cap * sz := by rw [h0]; exact Nat.mul_le_mul_right _ h1
  have heq : ∀ (j : Nat) (p : Ent), (s.hp.set i (.box g ⟨cs, ty, cap * sz⟩))[j]? = some p → ∃ q : Ent, s.hp[j]? = some q ∧ p.blk = q.blk := fun j p hj => by
   rw [List.getElem?_set] at hj
   split at hj
   ·rename_i e
    subst e
    split at hj
    ·cases hj; exact ⟨_, hi, rfl⟩
    ·cases hj
   ·exact ⟨p, hj, rfl⟩
  refine ⟨fun t x hx => (hr.slots t x hx).keep fun b hb _ => ⟨rfl, hz b hb⟩, hr.size, hr.defs, fun p hp => ?_, ?_, hr.chg, fun p hp g' hg => ?_, hr.res⟩
  ·rcases List.mem_or_eq_of_mem_set hp with hp | hp
   ·exact (hr.blocks p hp).keep (fun b hb _ => ⟨rfl, hz b hb⟩) fun _ _ => rfl
   ·subst hp
    exact ⟨c, h3, h4, hle, fun j hj => let ⟨x, k1, k2⟩ := h5 j hj; ⟨x, k1, k2.keep fun b hb _ => ⟨rfl, hz b hb⟩⟩⟩
  ·refine Apart.of fun j1 j2 p q hij hp hq g' hg1 hg2 => ?_
   obtain ⟨p', hp', e1⟩ := heq j1 p hp
   obtain ⟨q', hq', e2⟩ := heq j2 q hq
   rw [e1] at hg1
   rw [e2] at hg2
   exact hr.nodup.get hp' hq' (by omega) hg1 hg2
  ·obtain ⟨j, hj⟩ := List.mem_iff_getElem?.1 hp
   obtain ⟨q, hq, e⟩ := heq j p hj
   exact hr.own q (List.mem_of_getElem? hq) g' (by rw [← e]; exact hg)
theorem R.drop (hr : R B s a w) {sl : List (Nat × AV)} {hp : List Ent} (h1 : ∀ t x, look sl t = some x → look s.sl t = some x) (h2 : hp.Sublist s.hp) : R B ⟨sl, hp, s.k⟩ a w := by
 have hz : ∀ b, Zn B s.hp w b → Zn B hp w b := fun b hb => ⟨hb.1, fun p hp' => hb.2.1 p (h2.subset hp'), hb.2.2⟩
 exact ⟨fun t x hx => (hr.slots t x (h1 t x hx)).keep fun b hb _ => ⟨rfl, hz b hb⟩, hr.size, hr.defs, fun p hp' => (hr.blocks p (h2.subset hp')).keep (fun b hb _ => ⟨rfl, hz b hb⟩) fun _ _ => rfl,
  List.Pairwise.sublist h2 hr.nodup, hr.chg, fun p hp' g hg => hr.own p (h2.subset hp') g hg, hr.res⟩
theorem R.repRow (hr : R B s a w) {i n sz : Nat} {u : Value} {cs : List AV} {ty : TypeId} (hi : s.hp[i]? = some (.row u n sz cs ty)) {Z : Nat → Prop} (hZ : ∀ b, Zn B s.hp w b → Z b) (hg : ∀ g, u.ownBlock = some g → g < w.heap.size → Z g) :
  Rep w Z (.im n sz fun j => cs.getD j .any) u := by
 obtain ⟨h0, ⟨rfl, rfl⟩ | ⟨g, cap, c, rfl, h1, h2, h3, h4, h5⟩⟩ := hr.blocks _ (List.mem_of_getElem? hi)
 ·exact .nil _ _
 ·refine .im n sz _ g 0 cap c ty (fun j => c.getD j undef) (hg g rfl (Array.getElem?_eq_some_iff.1 h3).1) h1 h2 h3 (fun j hj => ?_) fun j hj => ?_
  ·obtain ⟨x, k1, _⟩ := h5 j (by omega)
   rw [Nat.zero_add]
   exact getD_lt (Array.getElem?_eq_some_iff.1 k1).1
  ·obtain ⟨x, k1, k2⟩ := h5 j (by omega)
   rw [List.getD_eq_getElem?_getD, List.getElem?_eq_getElem (by omega)]
   rw [show c.getD j undef = x by rw [Array.getD_eq_getD_getElem?, k1]; rfl]
   exact k2.keep fun b hb _ => ⟨rfl, hZ b hb⟩
theorem R.repBox (hr : R B s a w) {i n sz g off cap : Nat} {o' : Own'} (hi : s.hp[i]? = some (.box g o')) (hl : off + n * sz ≤ o'.cs.length) (hn : n ≤ cap) (hm : cap ≤ maxLen) {Z : Nat → Prop} (hZ : ∀ b, Zn B s.hp w b → Z b) (hg : g < w.heap.size → Z g) :
  Rep w Z (.im n sz fun j => o'.cs.getD (off + j) .any) (.slice (some ⟨g, off, none⟩) n cap) := by
 obtain ⟨c, h1, h2, h3, h4⟩ := hr.blocks _ (List.mem_of_getElem? hi)
 refine .im n sz _ g off cap c o'.ty (fun j => c.getD (off + j) undef) (hg (Array.getElem?_eq_some_iff.1 h1).1) hn hm h1 (fun j hj => ?_) fun j hj => ?_
 ·obtain ⟨x, k1, _⟩ := h4 (off + j) (by omega)
  exact getD_lt (Array.getElem?_eq_some_iff.1 k1).1
 ·obtain ⟨x, k1, k2⟩ := h4 (off + j) (by omega)
  rw [List.getD_eq_getElem?_getD, List.getElem?_eq_getElem (by omega)]
  rw [show c.getD (off + j) undef = x by rw [Array.getD_eq_getD_getElem?, k1]; rfl]
  exact k2.keep fun b hb _ => ⟨rfl, hZ b hb⟩
theorem R.repPtr (hr : R B s a w) {i m g off : Nat} {o' : Own'} (hi : s.hp[i]? = some (.box g o')) (hl : off + m ≤ o'.cs.length) {Z : Nat → Prop} (hZ : ∀ b, Zn B s.hp w b → Z b) (hg : g < w.heap.size → Z g) :
  Rep w Z (.at_ m fun j => o'.cs.getD (off + j) .any) (.pointer (some ⟨g, off, none⟩)) := by
 obtain ⟨c, h1, h2, h3, h4⟩ := hr.blocks _ (List.mem_of_getElem? hi)
 refine .at_ m _ g off c o'.ty (fun j => c.getD (off + j) undef) (hg (Array.getElem?_eq_some_iff.1 h1).1) h1 (fun j hj => ?_) fun j hj => ?_
 ·obtain ⟨x, k1, _⟩ := h4 (off + j) (by omega)
  exact getD_lt (Array.getElem?_eq_some_iff.1 k1).1
 ·obtain ⟨x, k1, k2⟩ := h4 (off + j) (by omega)
  rw [List.getD_eq_getElem?_getD, List.getElem?_eq_getElem (by omega)]
  rw [show c.getD (off + j) undef = x by rw [Array.getD_eq_getD_getElem?, k1]; rfl]
  exact k2.keep fun b hb _ => ⟨rfl, hZ b hb⟩
theorem R.erase (hr : R B s a w) (i : Nat) : R B ⟨s.sl, s.hp.eraseIdx i, s.k⟩ a w := hr.drop (fun _ _ h => h) (List.eraseIdx_sublist s.hp i)
theorem R.erased (hB : B.Ok) (hr : R B s a w) {i : Nat} {e : Ent} (hi : s.hp[i]? = some e) {g : Nat} (hg : e.blk = some g) : Zn B (s.hp.eraseIdx i) w g := by
 have hm := List.mem_of_getElem? hi
 refine ⟨hr.lt e hm g hg, fun p hp hpg => ?_, fun h => ⟨.inr ((hr.own e hm g hg).2 h), fun hs => (hr.own e hm g hg).1 (hB.str g hs).1⟩⟩
 obtain ⟨j, hj⟩ := List.mem_iff_getElem?.1 hp
 rw [List.getElem?_eraseIdx] at hj
 split at hj
 ·exact hr.nodup.get hi hj (by omega) hg hpg
 ·exact hr.nodup.get hi hj (by omega) hg hpg
theorem R.over (hr : R B s a w) (t : Nat) {x : AV} (hx : Rep w (Zn B s.hp w) x (a.tmps.getD t undef)) : R B ⟨(t, x) :: s.sl, s.hp, s.k⟩ a w :=
 ⟨fun t' y hy => by rw [look_put] at hy; split at hy; (rename_i e; subst e; cases hy; exact hx); exact hr.slots t' y hy, hr.size, hr.defs, hr.blocks, hr.nodup, hr.chg, hr.own, hr.res⟩
theorem R.isNew (hr : R B s a w) (hS : ∀ b, ¬ B.S b) {e : Ent} (he : e ∈ s.hp) {g : Nat} (hg : e.blk = some g) : ¬ g < B.w0.heap.size := fun h => hS g ((hr.own e he g hg).2 h)
theorem append_run {P : Program} (w : World) (T ty e : TypeId) (i : TypeInfo) (z : Value) (sz bytes : Nat) (h1 : P.underlying T = some (.slice e)) (h2 : P.info? e = some i)
  (h3 : i.zero = some z) (h4 : i.size = sz) (h5 : i.bytes = bytes) (hz : z.cells.size = sz) (hsz : 0 < sz) (hby : bytes ≤ 4096) (u : Value) (n : Nat) (old : Nat → Value)
  (hrow : (u = .slice none 0 0 ∧ n = 0) ∨ ∃ g cap c, u = .slice (some ⟨g, 0, none⟩) n cap ∧ n ≤ cap ∧ cap ≤ maxLen ∧ w.heap[g]? = some (.cells c e (0, 0)) ∧ c.size = cap * sz ∧ ∀ j, j < n * sz → c[j]? = some (old j))
  (a0 : Addr) (m cap2 : Nat) (news : Nat → Value) (hnews : ∀ j, j < m * sz → w.cell? (a0.add j) = some (news j)) (hone : ∀ j, j < m * sz → (news j).oneCell' = true) (hm : 0 < m) (hlen : n + m ≤ 10000000000) :
  ∃ g cap w' c, (Builtin.append_ #[T, T] ty #[u, .slice (some a0) m cap2]).run P w = .ok (.slice (some ⟨g, 0, none⟩) (n + m) cap) w' ∧ n + m ≤ cap ∧ cap ≤ maxLen ∧ w'.heap[g]? = some (.cells c e (0, 0)) ∧ c.size = cap * sz ∧
   (∀ j, j < n * sz → c[j]? = some (old j)) ∧ (∀ j, j < m * sz → c[n * sz + j]? = some (news j)) ∧ Chg (fun q => u.ownBlock = some q) w w' ∧ (u.ownBlock = some g ∨ w.heap.size ≤ g) := by
 subst h4; subst h5
 have hl : ((List.range (m * i.size)).map news).length = m * i.size := by simp
 have hnews' : ∀ j x, ((List.range (m * i.size)).map news)[j]? = some x → w.cell? (a0.add j) = some x := by
  intro j x hj
  simp only [List.getElem?_map, Option.map_eq_some_iff] at hj
  obtain ⟨q, hq, rfl⟩ := hj
  obtain ⟨hlt, hq'⟩ := List.getElem?_eq_some_iff.1 hq
  simp at hlt hq'
  subst hq'
  exact hnews j hlt
 have hone' : ∀ x ∈ (List.range (m * i.size)).map news, x.oneCell' = true := by
  intro x hx
  obtain ⟨j, hj, rfl⟩ := List.mem_map.1 hx
  exact hone j (List.mem_range.1 hj)
 have hmx : n + m ≤ maxLen := by simp only [maxLen]; omega
 have hb47 : (n + m) * i.bytes ≤ 140737488355328 := by
  have : (n + m) * i.bytes ≤ 10000000000 * 4096 := Nat.mul_le_mul hlen hby
  omega
 have hnl : ∀ j, j < m * i.size → ((List.range (m * i.size)).map news)[j]? = some (news j) := fun j hj => by simp [hj]
 generalize hN : (List.range (m * i.size)).map news = N at hl hnews' hone' hnl
 rcases hrow with ⟨rfl, rfl⟩ | ⟨g, cap, cur, rfl, k1, k2, hg, k3, k4⟩
 ·rw [Nat.zero_add] at hmx hb47
  have hr := run_append_nil (P := P) w T ty e i z h1 h2 h3 a0 m cap2 N hl hnews' hm (by omega) (by omega)
  have hge := grownCap_ge w m 0 e
  have hcm := grownCap_le_maxLen w m 0 e hmx
  refine ⟨_, _, _, _, by rw [Nat.zero_add]; exact hr, by omega, hcm, heap_alloc_new _ _, ?_, fun j hj => by omega, fun j hj => ?_, ((Chg.refl _ w).drew).alloc _, .inr (by simp)⟩
  ·simp only [Array.size_append, List.size_toArray, size_zeroCells, hz, hl]
   rw [Nat.sub_mul]
   have := Nat.mul_le_mul_right i.size hge
   omega
  ·rw [Nat.zero_mul, Nat.zero_add, Array.getElem?_append_left (by simp [hl]; exact hj)]
   simpa using hnl j hj
 ·by_cases hroom : n + m ≤ cap
  ·have hfit : n * i.size + N.length ≤ cur.size := by rw [hl, k3, ← Nat.add_mul]; exact Nat.mul_le_mul_right _ hroom
   have hr := run_append_room (P := P) w T ty e i h1 h2 g n cap cur hg a0 m cap2 N hl hnews' hone' hroom hfit
   have hns : n * i.size ≤ cur.size := by omega
   refine ⟨_, _, _, _, hr, hroom, k2, setRow_heap _ g cur _ e _ hg, ?_, fun j hj => ?_, fun j hj => ?_, chg_setRow w g _, .inl rfl⟩
   ·simp only [List.size_toArray, List.length_append, List.length_take, List.length_drop, Array.length_toList]
    omega
   ·rw [List.getElem?_toArray, List.append_assoc, List.getElem?_append_left (by simp; omega), List.getElem?_take, if_pos hj, Array.getElem?_toList]
    exact k4 j hj
   ·rw [List.getElem?_toArray, List.append_assoc, List.getElem?_append_right (by simp; omega), List.getElem?_append_left (by simp; omega)]
    simp only [List.length_take, Array.length_toList]
    rw [show n * i.size + j - min (n * i.size) cur.size = j by omega]
    exact hnl j hj
  ·have holds : ∀ j x, ((List.range (n * i.size)).map old)[j]? = some x → w.cell? ((⟨g, 0, none⟩ : Addr).add j) = some x := by
    intro j x hj
    simp only [List.getElem?_map, Option.map_eq_some_iff] at hj
    obtain ⟨q, hq, rfl⟩ := hj
    obtain ⟨hlt, hq'⟩ := List.getElem?_eq_some_iff.1 hq
    simp at hlt hq'
    subst hq'
    rw [Addr.add_lit, Nat.zero_add]
    simpa [World.cell?, hg] using k4 j hlt
   have hr := run_append_grow (P := P) w T ty e i z h1 h2 h3 ⟨g, 0, none⟩ n cap ((List.range (n * i.size)).map old) (by simp) holds a0 m cap2 N hl hnews' (by omega) (by simp only [maxLen] at hmx; omega) (growslice_fits (by omega) hb47)
   have hge := grownCap_ge w (n + m) cap e
   have hcm := grownCap_le_maxLen w (n + m) cap e hmx
   refine ⟨_, _, _, _, hr, hge, hcm, heap_alloc_new _ _, ?_, fun j hj => ?_, fun j hj => ?_, ((Chg.refl _ w).drew).alloc _, .inr (by simp)⟩
   ·simp only [Array.size_append, List.size_toArray, size_zeroCells, hz, hl, List.length_map, List.length_range]
    rw [Nat.sub_mul]
    have := Nat.mul_le_mul_right i.size hge
    rw [Nat.add_mul] at this ⊢
    omega
   ·rw [Array.getElem?_append_left (by simp [hl]; omega), Array.getElem?_append_left (by simpa using hj)]
    simp [hj]
   ·rw [Array.getElem?_append_left (by simp [hl]; omega), Array.getElem?_append_right (by simp)]
    simpa using hnl j hj
theorem OpE.append {x y : Operand} {T e i n m sz bytes : Nat} {u z : Value} {cs : List AV} {F : Nat → AV} (ho : o.op = .call { callee := .builtin .append, args := #[x, y], argTypes := #[T, T] }) (hB : B.Ok) (hd : okd B.nt o.dst = true)
  (hu : P.underlying T = some (.slice e)) (hinfo : (P.info? e).map (fun i => (i.zero, i.size, i.bytes)) = some (some z, sz, bytes)) (hz : z.cells.size = sz) (hsz : 0 < sz) (hby : bytes ≤ 4096)
  (hx : evO s x = some (.v u)) (hi : s.hp[i]? = some (.row u n sz cs e)) (hy : evO s y = some (.im m sz F)) (hm : 0 < m) (hone : ∀ j, j < m * sz → (F j).one = true) (hlen : n + m ≤ 10000000000) (hW : ∀ g, u.ownBlock = some g → W g)
  (hK : ∀ u', K ((St'.mk s.sl (s.hp.set i (.row u' (n + m) sz (cs ++ tab (m * sz) F) e)) s.k).put o.dst (.v u'))) : OpE P B W s o K := by
 obtain ⟨ii, hii, hz0, hz1, hz2⟩ := info_parts hinfo
 intro a w hr next Qx hn
 have hmem := List.mem_of_getElem? hi
 have hey := hr.ev hy
 generalize hv : a.eval y = v at hey
 obtain ⟨hl0, hrow⟩ := hr.blocks _ hmem
 cases hey with
 | nil => omega
 | im m sz F b off cap2 c2 e2 v2 hZ h1 h2 hb hc2 hr2 =>
  obtain ⟨old, hrow', hold⟩ : ∃ old : Nat → Value, ((u = .slice none 0 0 ∧ n = 0) ∨ ∃ g cap c, u = .slice (some ⟨g, 0, none⟩) n cap ∧ n ≤ cap ∧ cap ≤ maxLen ∧ w.heap[g]? = some (.cells c e (0, 0)) ∧ c.size = cap * sz ∧ ∀ j, j < n * sz → c[j]? = some (old j)) ∧
    ∀ j, (h : j < cs.length) → Rep w (Zn B s.hp w) cs[j] (old j) := by
   rcases hrow with ⟨h, rfl⟩ | ⟨g, cap, c, h, k1, k2, k3, k4, k5⟩
   ·exact ⟨fun _ => undef, .inl ⟨h, rfl⟩, fun j hj => by omega⟩
   ·refine ⟨fun j => c.getD j undef, .inr ⟨g, cap, c, h, k1, k2, k3, k4, fun j hj => ?_⟩, fun j hj => ?_⟩
    ·obtain ⟨x, q1, _⟩ := k5 j (by omega)
     exact getD_lt (Array.getElem?_eq_some_iff.1 q1).1
    ·obtain ⟨x, q1, q2⟩ := k5 j hj
     simp only
     rw [show c.getD j undef = x by rw [Array.getD_eq_getD_getElem?, q1]; rfl]
     exact q2
  obtain ⟨g, cap, w', c, hrun, e1, e2', e3, e4, e5, e6, e7, e8⟩ := append_run (P := P) w T o.type e ii z sz bytes hu hii hz0 hz1 hz2 hz hsz hby u n old hrow' ⟨b, off, none⟩ m cap2 v2
   (fun j hj => by rw [Addr.add_lit]; simpa [World.cell?, hb] using hc2 j hj) (fun j hj => (hr2 j hj).oneC (hone j hj)) hm hlen
  have hblk : (Ent.row (.slice (some ⟨g, 0, none⟩) (n + m) cap) (n + m) sz (cs ++ tab (m * sz) F) e).blk = (Ent.row u n sz cs e).blk ∨ ∃ g', (Ent.row (.slice (some ⟨g, 0, none⟩) (n + m) cap) (n + m) sz (cs ++ tab (m * sz) F) e).blk = some g' ∧ w.heap.size ≤ g' := by
   rcases e8 with e8 | e8
   ·exact .inl (by simp only [Ent.blk]; rw [e8]; rfl)
   ·exact .inr ⟨g, rfl, e8⟩
  have hr' := hr.set hB hi (e' := .row (.slice (some ⟨g, 0, none⟩) (n + m) cap) (n + m) sz (cs ++ tab (m * sz) F) e) e7 hblk (by
   have hz : ∀ b, Zn B s.hp w b → b < w.heap.size → w'.heap[b]? = w.heap[b]? ∧ Zn B (s.hp.set i (.row (.slice (some ⟨g, 0, none⟩) (n + m) cap) (n + m) sz (cs ++ tab (m * sz) F) e)) w' b := fun b hb hbl => by
    refine ⟨e7.block b hbl fun h => hb.2.1 _ hmem h, Nat.lt_of_lt_of_le hbl e7.size, fun p hp => ?_, hb.2.2⟩
    rcases List.mem_or_eq_of_mem_set hp with hp | hp
    ·exact hb.2.1 p hp
    ·subst hp
     rcases hblk with h | ⟨g', h, hg'⟩
     ·rw [h]; exact hb.2.1 _ hmem
     ·rw [h]; intro h'; simp at h'; omega
   refine ⟨by rw [List.length_append, hl0, tab_len, Nat.add_mul], .inr ⟨g, cap, c, rfl, e1, e2', e3, e4, fun j hj => ?_⟩⟩
   by_cases hjl : j < cs.length
   ·rw [List.getElem_append_left hjl]
    exact ⟨old j, e5 j (by omega), (hold j hjl).keep hz⟩
   ·rw [List.getElem_append_right (by omega)]
    simp [tab_len] at hj
    refine ⟨v2 (j - cs.length), ?_, ?_⟩
    ·have := e6 (j - cs.length) (by omega)
     rwa [show n * sz + (j - cs.length) = j by omega] at this
    ·rw [tab_get]
     exact (hr2 _ (by omega)).keep hz)
  unfold Oper.wp
  simp only [execOp, ho, resolve, invoke, builtin, List.map_toArray, List.map_cons, List.map_nil, hr.evv hx, hv, Sem.run_bind, Sem.run_pure, Result.andThen_ok, hrun]
  exact hn _ _ _ (hK _) (hr'.put _ hd _ _ (.v _)) (e7.mono fun b _ h => .inr (hW b h))
end
end
section
def Ret (w : World) (A : Nat → Prop) (str : Nat → Prop) (T : World → Prop) (G : AV → Prop) (e : Ending) (w' : World) : Prop :=
 ∃ y v, G y ∧ e = .returned v ∧ Rep w' (fun b => b < w'.heap.size ∧ (b < w.heap.size → A b)) y v ∧ Chg str w w' ∧ T w'
def Args (w : World) (A : Nat → Prop) (xs : List AV) (us : Array Value) : Prop := us.size = xs.length ∧ ∀ j, (h : j < xs.length) → Rep w (fun b => b < w.heap.size ∧ A b) xs[j] (us.getD j undef)
def Spec (P : Program) (F : FuncId) (xs : List AV) (G : AV → Prop) : Prop :=
 ∀ (w : World) (A : Nat → Prop) (us : Array Value), Args w A xs us → Calls P F us w (Ret w A NoB (fun _ => True) G)
def SpecN (P : Program) (F : FuncId) (xs : List AV) (G : AV → Prop) : Prop :=
 ∀ (w : World) (us : Array Value), Args w (fun _ => True) xs us → Calls P F us w (Ret w (fun _ => False) NoB (fun _ => True) G)
def SpecT (P : Program) (T : World → Nat → Prop) (str : Nat → Prop) (F : FuncId) (xs : List AV) (c : Nat) (G : AV → Prop) : Prop :=
 ∀ (w : World) (A : Nat → Prop) (us : Array Value) (k : Nat), Args w A xs us → T w k → (∀ b, str b → ¬ A b) → k + c ≤ 1000000 → Calls P F us w (Ret w A str (fun w' => T w' (k + c)) G)
theorem SpecN.spec {P : Program} {F : FuncId} {xs : List AV} {G : AV → Prop} (h : SpecN P F xs G) : Spec P F xs G := fun w A us ha =>
 (h w us ⟨ha.1, fun j hj => (ha.2 j hj).keep fun b hb _ => ⟨rfl, hb.1, trivial⟩⟩).mono fun e w' ⟨y, v, h1, h2, h3, h4, h5⟩ => ⟨y, v, h1, h2, h3.keep fun b hb _ => ⟨rfl, hb.1, fun hl => (hb.2 hl).elim⟩, h4, h5⟩
theorem Spec.mono {P : Program} {F : FuncId} {xs : List AV} {G G' : AV → Prop} (h : Spec P F xs G) (hg : ∀ y, G y → G' y) : Spec P F xs G' := fun w A us ha =>
 (h w A us ha).mono fun e w' ⟨y, v, h1, h2⟩ => ⟨y, v, hg y h1, h2⟩
theorem SpecN.mono {P : Program} {F : FuncId} {xs : List AV} {G G' : AV → Prop} (h : SpecN P F xs G) (hg : ∀ y, G y → G' y) : SpecN P F xs G' := fun w us ha =>
 (h w us ha).mono fun e w' ⟨y, v, h1, h2⟩ => ⟨y, v, hg y h1, h2⟩
theorem Spec.flat {P : Program} {F : FuncId} {xs : List AV} {G : AV → Prop} (h : Spec P F xs G) (hg : ∀ y, G y → ∃ v, y = .v v) : SpecN P F xs G := fun w us ha =>
 (h w (fun _ => True) us ha).mono fun e w' ⟨y, v, h1, h2, h3, h4⟩ => by
  obtain ⟨v', rfl⟩ := hg y h1
  exact ⟨_, v, h1, h2, by cases h3; exact .v _, h4⟩
section
variable {P : Program} {B : Bs} {W : Nat → Prop} {s : St'} {a : Act} {w w' : World} {o : Oper} {K : St' → Prop}
def Zo (B : Bs) (hp : List Ent) (b : Nat) : Prop := (∀ p ∈ hp, p.blk ≠ some b) ∧ (b < B.w0.heap.size → (B.A b ∨ B.S b) ∧ ¬ B.str b)
theorem R.zret {W : Nat → Prop} (hr : R B s a w) (hc : Chg W w w') : ∀ b, b < w'.heap.size ∧ (b < w.heap.size → Zo B s.hp b) → Zn B s.hp w' b := fun b hb => by
 refine ⟨hb.1, fun p hp hpb => ?_, fun h0 => ?_⟩
 ·exact (hb.2 (hr.lt p hp b hpb)).1 p hp hpb
 ·exact (hb.2 (Nat.lt_of_lt_of_le h0 hr.chg.size)).2 h0
theorem OpE.callG {f : Operand} {args : Array Operand} {ts : Array TypeId} {F : FuncId} {caps : Array Value} {xs : List AV} {G : AV → Prop} {A : Nat → Prop} {T' : World → Prop} {k' : Nat} {str : Nat → Prop}
  (ho : o.op = .call { callee := .value f, args := args, argTypes := ts }) (hB : B.Ok) (hd : okd B.nt o.dst = true)
  (hcall : ∀ us w, (callFunc F us).run P w = .ok (.enter F us) w) (hf : evO s f = some (.v (.func (.func F) #[] caps)))
  (hstr : ∀ b, str b → B.str b) (hT : ∀ w, T' w → B.T w k')
  (hargs : ∀ a w, R B s a w → Args w A xs (args.map a.eval ++ caps))
  (hcalls : ∀ a w us, R B s a w → Args w A xs us → Calls P F us w (Ret w A str T' G))
  (hA : ∀ b, A b → Zo B s.hp b)
  (hK : ∀ y, G y → K ((St'.mk s.sl s.hp k').put o.dst y)) : OpE P B W s o K := by
 intro a w hr next Qx hn
 have h1 := hcalls a w _ hr (hargs a w hr)
 unfold Oper.wp
 simp only [execOp, ho, resolve, hr.evv hf, Deferred.ofValue, Sem.run_bind, Sem.run_pure, Result.andThen_ok, invoke, hcall, Array.empty_append]
 simp only [Oper.upon]
 refine h1.mono fun e w' hret => ?_
 obtain ⟨y, v, h2, rfl, h3, h4, h5⟩ := hret
 have hr' : R B ⟨s.sl, s.hp, k'⟩ a w' := hr.step hB h4 hstr (hT _ h5)
 exact hn _ _ _ (hK y h2) (hr'.put _ hd _ _ (h3.keep fun b hb hl => ⟨rfl, hr.zret h4 b ⟨hb.1, fun hl => hA b (hb.2 hl)⟩⟩)) (h4.mono fun b _ h => .inl (hstr b h))
theorem evL_args {args : Array Operand} {xs : List AV} (hr : R B s a w) (hxs : evL s args.toList = some xs) : Args w (Zo B s.hp) xs (args.map a.eval) := by
 obtain ⟨k1, k2⟩ := hr.evL hxs
 refine ⟨by simp [k1], fun j hj => ?_⟩
 have := k2 j hj
 rw [show (args.map a.eval).getD j undef = (args.toList.map a.eval).getD j undef by rw [Array.getD_eq_getD_getElem?, List.getD_eq_getElem?_getD]; simp]
 exact this.keep fun b hb _ => ⟨rfl, hb.1, hb.2⟩
theorem OpE.call {f : FuncId} {args : Array Operand} {ts : Array TypeId} {xs : List AV} {G : AV → Prop} (ho : o.op = .call { callee := .value (.func f), args := args, argTypes := ts }) (hB : B.Ok) (hd : okd B.nt o.dst = true)
  (hcall : ∀ us w, (callFunc f us).run P w = .ok (.enter f us) w) (hxs : evL s args.toList = some xs) (hspec : Spec P f xs G) (hK : ∀ y, G y → K (s.put o.dst y)) : OpE P B W s o K := by
 have hK' : ∀ y, G y → K ((St'.mk s.sl s.hp s.k).put o.dst y) := hK
 refine OpE.callG (str := NoB) (T' := fun w => B.T w s.k) (k' := s.k) (A := Zo B s.hp) (xs := xs) ho hB hd hcall rfl (fun b h => h.elim) (fun w h => h) (fun a w hr => by simpa using evL_args hr hxs) (fun a w us hr ha => ?_) (fun b h => h) hK'
 refine (hspec w _ us ha).mono fun e w' ⟨y, v, h1, h2, h3, h4, h5⟩ => ⟨y, v, h1, h2, h3, h4, hB.keep hr.res h4 fun j _ h => h⟩
theorem OpE.callB {f : FuncId} {args : Array Operand} {ts : Array TypeId} {xs : List AV} {G : AV → Prop} (ho : o.op = .call { callee := .value (.func f), args := args, argTypes := ts }) (hB : B.Ok) (hd : okd B.nt o.dst = true)
  (hcall : ∀ us w, (callFunc f us).run P w = .ok (.enter f us) w) (hargs : ∀ a w, R B s a w → Args w (fun _ => True) xs (args.map a.eval)) (hspec : SpecN P f xs G) (hK : ∀ y, G y → K (s.put o.dst y)) : OpE P B W s o K := by
 intro a w hr next Qx hn
 have h1 := hspec w _ (hargs a w hr)
 unfold Oper.wp
 simp only [execOp, ho, resolve, Act.eval, Deferred.ofValue, Sem.run_bind, Sem.run_pure, Result.andThen_ok, invoke, hcall, Array.empty_append, Array.append_empty]
 simp only [Oper.upon]
 refine h1.mono fun e w' hret => ?_
 obtain ⟨y, v, h2, rfl, h3, h4, h5⟩ := hret
 have hr' : R B s a w' := hr.stepN hB h4
 exact hn _ _ _ (hK y h2) (hr'.put _ hd _ _ (h3.keep fun b hb hl => ⟨rfl, hr.zret h4 b ⟨hb.1, fun hl => (hb.2 hl).elim⟩⟩)) (.ofN h4)
end
def slots0 : Nat → List AV → List (Nat × AV)
 | _, [] => []
 | j, x :: r => (j, x) :: slots0 (j + 1) r
theorem slots0_look : ∀ (xs : List AV) (j t : Nat) (x : AV), look (slots0 j xs) t = some x → ∃ h : j ≤ t ∧ t - j < xs.length, xs[t - j]'h.2 = x
 | [], j, t, x, h => by simp [slots0, look] at h
 | y :: r, j, t, x, h => by
  rw [slots0, look_put] at h
  split at h
  ·rename_i e; subst e; cases h
   exact ⟨⟨Nat.le_refl _, by simp⟩, by simp⟩
  ·obtain ⟨⟨h1, h2⟩, h3⟩ := slots0_look r (j + 1) t x h
   refine ⟨⟨by omega, by simp; omega⟩, ?_⟩
   have : t - j = (t - (j + 1)) + 1 := by omega
   simp only [this, List.getElem_cons_succ]
   exact h3
def resRun (tmps : Array Value) : ResultVar → Sem Value
 | .tmp t => pure (tmps.getD t undef)
 | .cell b t => do loadVar t (← asAddr (tmps.getD b undef))
def ResV (P : Program) (s : St') (r : ResultVar) (x : AV) : Prop := ∀ B a w, R B s a w → ∃ v, (resRun a.tmps r).run P w = .ok v w ∧ Rep w (Zn B s.hp w) x v
def RetV (P : Program) (fn : Func) (s : St') (y : AV) : Prop := ∀ B a w, R B s a w → ∃ v, (results fn a.tmps).run P w = .ok v w ∧ Rep w (Zn B s.hp w) y v
theorem results_eq (fn : Func) (tmps : Array Value) : results fn tmps = (do let vs ← fn.results.mapM (resRun tmps); pure (if h : vs.size = 1 then vs[0] else .tuple vs)) := by
 unfold results
 congr 1
section
variable {P : Program} {s : St'} {fn : Func} {r1 r2 r3 r4 : ResultVar} {x1 x2 x3 x4 : AV}
theorem ResV.tmp {t : Nat} {x : AV} (h : look s.sl t = some x) : ResV P s (.tmp t) x := fun B a w hr => ⟨_, rfl, hr.slots t x h⟩
theorem ResV.cellK {b t g j i k : Nat} {o' : Own'} {r : List AV} (hag : ∀ w, (isAgg t).run P w = .ok true w) (hsz : ∀ w, (sizeOf t).run P w = .ok k w) (hx : look s.sl b = some (.v (.pointer (some ⟨g, j, none⟩)))) (hi : s.hp[i]? = some (.box g o')) (hc : cutL o'.cs j k = some r) :
  ResV P s (.cell b t) (.agg r) := fun B a w hr => by
 have hv : a.tmps.getD b undef = .pointer (some ⟨g, j, none⟩) := (hr.slots b _ hx).eq_v
 have hm := List.mem_of_getElem? hi
 obtain ⟨c, h1, h2, h3, h4⟩ := hr.blocks _ hm
 obtain ⟨e1, e2, e3⟩ := cutL_spec hc
 have hget : ∀ q, q < k → ∃ u, c[j + q]? = some u ∧ Rep w (Zn B s.hp w) (r.getD q .any) u := fun q hq => by
  have := e3 q (by omega)
  obtain ⟨hl, he⟩ := List.getElem?_eq_some_iff.1 this
  obtain ⟨u, k1, k2⟩ := h4 _ hl
  refine ⟨u, k1, ?_⟩
  rw [he] at k2
  rwa [List.getD_eq_getElem?_getD, List.getElem?_eq_getElem (by omega)]
 refine ⟨.agg ((List.range k).map fun q => c.getD (j + q) undef).toArray, ?_, .agg _ _ (by simp [e1]) fun q hq => ?_⟩
 ·have hcell : ∀ q v, ((List.range k).map fun q => c.getD (j + q) undef)[q]? = some v → w.cell? ((⟨g, j, none⟩ : Addr).add q) = some v := by
   intro q v hq
   simp only [List.getElem?_map, Option.map_eq_some_iff] at hq
   obtain ⟨q', hq', rfl⟩ := hq
   obtain ⟨hlt, hq''⟩ := List.getElem?_eq_some_iff.1 hq'
   simp at hlt hq''
   subst hq''
   obtain ⟨u, k1, _⟩ := hget q (by simpa using hlt)
   rw [Addr.add_lit]
   have : c.getD (j + q) undef = u := by rw [Array.getD_eq_getD_getElem?, k1]; rfl
   rw [this]
   simpa [World.cell?, h1] using k1
  have hl := run_loadCells_list (P := P) w ⟨g, j, none⟩ _ hcell
  simp only [List.length_map, List.length_range] at hl
  simp only [resRun, hv, asAddr, Sem.run_bind, Sem.run_pure, Result.andThen_ok, loadVar, hag, if_true, hsz, hl]
 ·obtain ⟨u, k1, k2⟩ := hget q (by omega)
  have hqk : q < k := by omega
  rw [List.getD_eq_getElem?_getD, List.getElem?_eq_getElem hq] at k2
  simp [hqk]
  rw [show c[j + q]?.getD undef = u by rw [k1]; rfl]
  exact k2
theorem RetV.none (h : fn.results = #[]) : RetV P fn s (.tup []) := fun B a w hr => ⟨.tuple #[], by simp [results_eq, h], .tup _ _ rfl fun j hj => by simp at hj⟩
theorem RetV.one (h : fn.results = #[r1]) (h1 : ResV P s r1 x1) : RetV P fn s x1 := fun B a w hr => by
 obtain ⟨v1, k1, q1⟩ := h1 B a w hr
 exact ⟨v1, by simp [results_eq, h, k1], q1⟩
theorem RetV.two (h : fn.results = #[r1, r2]) (h1 : ResV P s r1 x1) (h2 : ResV P s r2 x2) : RetV P fn s (.tup [x1, x2]) := fun B a w hr => by
 obtain ⟨v1, k1, q1⟩ := h1 B a w hr
 obtain ⟨v2, k2, q2⟩ := h2 B a w hr
 refine ⟨.tuple #[v1, v2], by simp [results_eq, h, k1, k2], .tup _ _ rfl fun j hj => ?_⟩
 match j, hj with
 | 0, _ => exact q1
 | 1, _ => exact q2
theorem RetV.three (h : fn.results = #[r1, r2, r3]) (h1 : ResV P s r1 x1) (h2 : ResV P s r2 x2) (h3 : ResV P s r3 x3) : RetV P fn s (.tup [x1, x2, x3]) := fun B a w hr => by
 obtain ⟨v1, k1, q1⟩ := h1 B a w hr
 obtain ⟨v2, k2, q2⟩ := h2 B a w hr
 obtain ⟨v3, k3, q3⟩ := h3 B a w hr
 refine ⟨.tuple #[v1, v2, v3], by simp [results_eq, h, k1, k2, k3], .tup _ _ rfl fun j hj => ?_⟩
 match j, hj with
 | 0, _ => exact q1
 | 1, _ => exact q2
 | 2, _ => exact q3
theorem RetV.four (h : fn.results = #[r1, r2, r3, r4]) (h1 : ResV P s r1 x1) (h2 : ResV P s r2 x2) (h3 : ResV P s r3 x3) (h4 : ResV P s r4 x4) : RetV P fn s (.tup [x1, x2, x3, x4]) := fun B a w hr => by
 obtain ⟨v1, k1, q1⟩ := h1 B a w hr
 obtain ⟨v2, k2, q2⟩ := h2 B a w hr
 obtain ⟨v3, k3, q3⟩ := h3 B a w hr
 obtain ⟨v4, k4, q4⟩ := h4 B a w hr
 refine ⟨.tuple #[v1, v2, v3, v4], by simp [results_eq, h, k1, k2, k3, k4], .tup _ _ rfl fun j hj => ?_⟩
 match j, hj with
 | 0, _ => exact q1
 | 1, _ => exact q2
 | 2, _ => exact q3
 | 3, _ => exact q4
end
def retS (P : Program) (fn : Func) (G : AV → St' → Prop) (e : Exit) (s : St') : Prop :=
 match e with
 | .normal => ∃ y, RetV P fn s y ∧ G y s
 | .ret => ∃ y, RetV P fn s y ∧ G y s
 | _ => False
def retQ (P : Program) (fn : Func) (G : AV → Prop) : Exit → St' → Prop := retS P fn fun y _ => G y
def B0 (w : World) (A : Nat → Prop) (nt : Nat) : Bs := ⟨w, NoB, A, nt, NoB, NoB, fun _ _ => True⟩
theorem B0.ok (w : World) (A : Nat → Prop) (nt : Nat) : (B0 w A nt).Ok := ⟨fun _ _ _ => trivial, fun _ h => h.elim, fun _ h => h.elim, fun _ _ => trivial⟩
def B1 (w : World) (A : Nat → Prop) (nt : Nat) (str low : Nat → Prop) (T : World → Nat → Prop) : Bs := ⟨w, str, A, nt, str, low, T⟩
theorem R.start {B : Bs} {w : World} {xs : List AV} {us : Array Value} {k : Nat} (hw : B.w0 = w) (hA : Args w B.A xs us) (hS : ∀ b, B.str b → ¬ B.A b) (hT : B.T w k) (hn : B.nt = us.size + (B.nt - us.size)) :
  R B ⟨slots0 0 xs, [], k⟩ { tmps := us ++ Array.replicate (B.nt - us.size) undef, defers := [] } w := by
 subst hw
 refine ⟨fun t x ht => ?_, by simp; omega, rfl, fun p hp => by simp at hp, List.Pairwise.nil, Chg.refl _ _, fun p hp => by simp at hp, hT⟩
 obtain ⟨⟨_, h2⟩, h3⟩ := slots0_look xs 0 t x ht
 simp at h2 h3
 have hlt : t < us.size := by rw [hA.1]; exact h2
 have := hA.2 t h2
 rw [h3] at this
 rw [show (us ++ Array.replicate (B.nt - us.size) undef).getD t undef = us.getD t undef by
  rw [Array.getD_eq_getD_getElem?, Array.getD_eq_getD_getElem?, Array.getElem?_append_left hlt]]
 exact this.keep fun b hb _ => ⟨rfl, hb.1, fun p hp => by simp at hp, fun _ => ⟨.inl hb.2, fun h => hS b h hb.2⟩⟩
theorem calls_of_VC {P : Program} {F : FuncId} {fn : Func} {c : Code} (hf : P.funcs[F]? = some fn) (hb : fn.body = some c) {B : Bs} {w : World} {xs : List AV} {us : Array Value} {k : Nat} {G : AV → St' → Prop}
  (hw : B.w0 = w) (hn : B.nt = fn.ntmps) (hA : Args w B.A xs us) (hS : ∀ b, B.str b → ¬ B.A b) (hT : B.T w k) (hle : xs.length ≤ fn.ntmps) (h : VC P B c (retS P fn G) ⟨slots0 0 xs, [], k⟩) :
  Calls P F us w fun e w' => ∃ y v s a, G y s ∧ e = .returned v ∧ Rep w' (Zn B s.hp w') y v ∧ R B s a w' := by
 have hus : us.size ≤ fn.ntmps := by rw [hA.1]; exact hle
 refine calls_of_wp hf hb (Code.wp_mono (fun e a w' hq => ?_) (h _ w (by
  have := R.start (k := k) hw hA hS hT (by rw [hn]; omega)
  rwa [hn] at this)))
 obtain ⟨s, hq, hr⟩ := hq
 cases e with
 | normal =>
  obtain ⟨y, h1, h2⟩ := hq
  obtain ⟨v, h3, h4⟩ := h1 B a w' hr
  exact ⟨hr.defs, v, h3, y, v, s, a, h2, rfl, h4, hr⟩
 | ret =>
  obtain ⟨y, h1, h2⟩ := hq
  obtain ⟨v, h3, h4⟩ := h1 B a w' hr
  exact ⟨hr.defs, v, h3, y, v, s, a, h2, rfl, h4, hr⟩
 | exit id => exact hq.elim
 | goto l => exact hq.elim
 | panic c => exact hq.elim
 | outgrown => exact hq.elim
theorem Spec.of_VC {P : Program} {F : FuncId} {fn : Func} {c : Code} (hf : P.funcs[F]? = some fn) (hb : fn.body = some c) {xs : List AV} {G : AV → Prop} {nt : Nat} (hn : fn.ntmps = nt) (hle : xs.length ≤ nt)
  (h : ∀ w A, (B0 w A nt).Ok → VC P (B0 w A nt) c (retQ P fn G) ⟨slots0 0 xs, [], 0⟩) : Spec P F xs G := fun w A us ha =>
 (calls_of_VC (k := 0) hf hb (B := B0 w A nt) rfl hn.symm ha (fun _ h => h.elim) trivial (by omega) (h w A (B0.ok _ _ _))).mono fun e w' ⟨y, v, s, a, h1, h2, h3, h4⟩ =>
  ⟨y, v, h1, h2, h3.keep fun b hb _ => ⟨rfl, hb.1, fun hl => (hb.2.2 hl).1.elim id fun h => h.elim⟩, h4.chg, trivial⟩
theorem SpecN.of_VC {P : Program} {F : FuncId} {fn : Func} {c : Code} (hf : P.funcs[F]? = some fn) (hb : fn.body = some c) {xs : List AV} {G : AV → Prop} {nt : Nat} (hn : fn.ntmps = nt) (hle : xs.length ≤ nt) (hfl : ∀ y, G y → ∃ v, y = .v v)
  (h : ∀ w A, (B0 w A nt).Ok → VC P (B0 w A nt) c (retQ P fn G) ⟨slots0 0 xs, [], 0⟩) : SpecN P F xs G := (Spec.of_VC hf hb hn hle h).flat hfl
theorem SpecT.of_VC {P : Program} {F : FuncId} {fn : Func} {c : Code} (hf : P.funcs[F]? = some fn) (hb : fn.body = some c) {xs : List AV} {G : AV → Prop} {nt n : Nat} (hn : fn.ntmps = nt) (hle : xs.length ≤ nt) {T : World → Nat → Prop} {str low : Nat → Prop}
  (hok : ∀ w A k, T w k → (B1 w A nt str low T).Ok)
  (h : ∀ w A k, k + n ≤ 1000000 → (B1 w A nt str low T).Ok → VC P (B1 w A nt str low T) c (retS P fn fun y s => G y ∧ s.k ≤ k + n) ⟨slots0 0 xs, [], k⟩) : SpecT P T str F xs n G := fun w A us k ha hT hSA hk =>
 (calls_of_VC (k := k) hf hb (B := B1 w A nt str low T) rfl hn.symm ha hSA hT (by omega) (h w A k hk (hok w A k hT))).mono fun e w' ⟨y, v, s, a, h1, h2, h3, h4⟩ =>
  ⟨y, v, h1.1, h2, h3.keep fun b hb _ => ⟨rfl, hb.1, fun hl => (hb.2.2 hl).1.resolve_right (hb.2.2 hl).2⟩, h4.chg, (hok w A k hT).up h4.res h1.2⟩
end
section
section
variable {P : Program} {ops : Array Oper} {Q : Act → World → Prop} {md : Region.Mode} {E : Nat → World → World → Prop}
def onlyN (Q : Act → World → Prop) : Exit → Act → World → Prop
 | .normal, a, w => Q a w
 | _, _, _ => False
def YieldsE (P : Program) (ops : Array Oper) (E : World → World → Prop) (o : Oper) (v : Value) (a : Act) (w : World) : Prop :=
 (Region.wanted o (yielded ops a.tmps) = true ∧ ∀ w', E w w' → (execOp a.eval o).run P w' = .ok (.value v) w') ∨ (Region.wanted o (yielded ops a.tmps) = false ∧ v = undef)
theorem YieldsE.iff {E : World → World → Prop} {o : Oper} {v : Value} {a : Act} {w : World} (h : YieldsE P ops E o v a w) : YieldsIf P ops (E w) o v a := h
def wpAnyE (P : Program) (md : Region.Mode) (ops : Array Oper) (Q : Act → World → Prop) (E : Nat → World → World → Prop) : Nat → Array Bool → Act → World → Prop
 | 0, listed, a, w => Region.ready md ops listed = [] ∧ Q a w
 | fuel + 1, listed, a, w => (Region.ready md ops listed = [] → Q a w) ∧
  ∀ i ∈ Region.ready md ops listed, wpOp P ops (onlyN Q) i (fun a' w' => E i w w' ∧ wpAnyE P md ops Q E fuel (listed.setIfInBounds i true) a' w') a w
theorem wpAny_of_E : ∀ (fuel : Nat) (listed : Array Bool) (a : Act) (w : World), wpAnyE P md ops Q E fuel listed a w → wpAny P md ops (onlyN Q) fuel listed a w
 | 0, _, _, _, h => h
 | fuel + 1, _, _, _, h => ⟨h.1, fun i hi => wpOp_mono (fun a' w' h' => wpAny_of_E fuel _ a' w' h'.2) (h.2 i hi)⟩
theorem wpAnyE_first {F : World → World → Prop} (htr : ∀ x y z, F x y → F y z → F x z) (hrf : ∀ x, F x x) {i : Nat} (hEr : ∀ x, E i x x)
  (hEF : ∀ j oj, ops[j]? = some oj → (∀ e ∈ oj.after, Region.binds md e = true → e.on ≠ i) → ∀ w w', E j w w' → F w w') {oi : Oper} {v : Value} (hi : ops[i]? = some oi) (hsel : ∀ (j : Nat) (o : Oper) cs b, ops[j]? = some o → o.op ≠ .select cs b) :
  ∀ (fuel : Nat) (listed : Array Bool) (a : Act) (w : World),
   (∀ j oj, ops[j]? = some oj → j ≠ i → listed.getD j true = false → (∀ e ∈ oj.after, Region.binds md e = true → e.on ≠ i) → oi.apart ops oj = true) →
   i ∈ Region.ready md ops listed → YieldsE P ops F oi v a w →
   wpAnyE P md ops Q E fuel (listed.setIfInBounds i true) (a.put oi.dst v) w → wpAnyE P md ops Q E (fuel + 1) listed a w := by
 intro fuel
 induction fuel with
 | zero =>
  intro listed a w _ hr hy H
  refine ⟨fun h => (by rw [h] at hr; cases hr), fun j hj => ?_⟩
  by_cases hji : j = i
  ·subst hji; exact YieldsIf.wpOp hi hy.iff (hrf w) ⟨hEr w, H⟩
  ·have := ready_mono hj hji
   rw [H.1] at this
   cases this
 | succ fuel ih =>
  intro listed a w hfree hr hy H
  refine ⟨fun h => (by rw [h] at hr; cases hr), fun j hj => ?_⟩
  by_cases hji : j = i
  ·subst hji; exact YieldsIf.wpOp hi hy.iff (hrf w) ⟨hEr w, H⟩
  ·have h1 := H.2 j (ready_mono hj hji)
   obtain ⟨hjun, oj, hoj, hall⟩ := mem_ready.1 hj
   have hnot : ∀ e ∈ oj.after, Region.binds md e = true → e.on ≠ i := fun e he hb heq => by
    have h1 := hall e he hb
    have h0 := (mem_ready.1 hr).1
    rw [heq] at h1
    rcases Nat.lt_or_ge i listed.size with h' | h'
    ·simp [h'] at h0 h1; rw [h0] at h1; cases h1
    ·simp [Array.getElem?_eq_none h'] at h1
   have h2 := wpOp_putIf (S := F w) hoj (hfree j oj hoj hji hjun hnot) (fun cs b => hsel i oi cs b hi) (fun cs b => hsel j oj cs b hoj) (fun c a w h => h.elim) hy.iff h1
   have hfree' : ∀ k ok, ops[k]? = some ok → k ≠ i → (listed.setIfInBounds j true).getD k true = false →
     (∀ e ∈ ok.after, Region.binds md e = true → e.on ≠ i) → oi.apart ops ok = true := fun k ok hk hki hun hno => by
    refine hfree k ok hk hki ?_ hno
    by_cases hjk : j = k
    ·subst hjk; exact hjun
    ·rw [getD_set_ne true hjk] at hun; exact hun
   refine wpOp_mono (fun a' w' h3 => ⟨h3.2.1, ih (listed.setIfInBounds j true) a' w' hfree' (ready_mono hr (Ne.symm hji)) ?_ ?_⟩) h2
   ·rcases h3.1 with ⟨k1, k2⟩ | k
    ·exact .inl ⟨k1, fun w'' hw'' => k2 w'' (htr _ _ _ (hEF j oj hoj hnot _ _ h3.2.1) hw'')⟩
    ·exact .inr k
   rw [Array.setIfInBounds_comm _ _ hji]
   exact h3.2.2
end
section
variable {P : Program} {B : Bs} {V : Nat → Nat → Prop} {ops : Array Oper} {s : St'} {Q : Exit → St' → Prop} {n : Nat} {L : Array Bool}
def depB (ops : Array Oper) (j i : Nat) : Bool := match ops[j]? with
 | some o => o.after.any fun e => Region.binds .any e && e.on == i
 | none => true
def Wi (V : Nat → Nat → Prop) (ops : Array Oper) (i : Nat) : Nat → Prop := fun b => ∃ j, depB ops j i = false ∧ V j b
theorem Wi.of {i : Nat} : ∀ j oj, ops[j]? = some oj → (∀ e ∈ oj.after, Region.binds .any e = true → e.on ≠ i) → ∀ w w', Ew B (V j) w w' → Ew B (Wi V ops i) w w' := fun j oj hj hno w w' h =>
 h.mono fun b _ hb => hb.imp id fun hv => ⟨j, by
  unfold depB
  rw [hj]
  simp only
  apply Bool.eq_false_iff.2
  intro hc
  obtain ⟨e, he, h2⟩ := Array.any_eq_true'.1 hc
  simp only [Bool.and_eq_true, beq_iff_eq] at h2
  exact hno e he h2.1 h2.2, hv⟩
theorem OutW.wi0 {B : Bs} {s : St'} {i : Nat} : OutW B (Wi (fun _ => NoB) ops i) s := fun b ⟨j, _, h⟩ => h.elim
theorem OutW.wi1 {B : Bs} {s : St'} {i m g : Nat} {e : Ent} {k : Nat} (hi : s.hp[k]? = some e) (hg : e.blk = some g) : OutW B (Wi (fun j b => j = m ∧ b = g) ops i) s := fun b ⟨j, _, _, h⟩ => ⟨e, List.mem_of_getElem? hi, by rw [h]; exact hg⟩
theorem Wi.notX {i m g : Nat} {X : Nat → Prop} (h : depB ops m i = true) : ¬ Wi (fun j b => j = m ∧ X b) ops i g := fun ⟨j, h1, h2, _⟩ => by subst h2; rw [h] at h1; cases h1
theorem Wi.not0 {i g : Nat} : ¬ Wi (fun _ => NoB) ops i g := fun ⟨j, _, h⟩ => h
theorem Wi.not1 {i m g g' : Nat} (h : depB ops m i = true) : ¬ Wi (fun j b => j = m ∧ b = g') ops i g := fun ⟨j, h1, h2, _⟩ => by subst h2; rw [h] at h1; cases h1
theorem Wi.not2 {i m m2 g : Nat} {X Y : Nat → Prop} (h : depB ops m i = true) (h' : depB ops m2 i = true) : ¬ Wi (fun j b => (j = m ∧ X b) ∨ (j = m2 ∧ Y b)) ops i g := fun ⟨j, h1, h2⟩ => by
 rcases h2 with ⟨h2, _⟩ | ⟨h2, _⟩
 ·subst h2; rw [h] at h1; cases h1
 ·subst h2; rw [h'] at h1; cases h1
def VA (P : Program) (B : Bs) (V : Nat → Nat → Prop) (ops : Array Oper) (Q : Exit → St' → Prop) (n : Nat) (L : Array Bool) (s : St') : Prop :=
 ∀ a w, R B s a w → wpAnyE P .any ops (fun a w => ∃ s, Q .normal s ∧ R B s a w) (fun j => Ew B (V j)) n L a w
theorem VC.draw (V : Nat → Nat → Prop) {id : Nat} {l : List Oper} (hB : B.Ok) (hm : P.follows .mixedOrders = true) (h : VA P B V l.toArray Q l.length (Array.replicate l.length false) s) : VC P B (.region id l.toArray true) Q s := fun a w hr => by
 have hr' : R B s a w.drew := hr.stepN hB (Chg.refl NoB w).drew
 have h1 := wpAny_of_E _ _ _ _ (h a _ hr')
 refine Code.wp_mono (Q := onlyN fun a w => ∃ s, Q .normal s ∧ R B s a w) (fun e a w q => ?_) (wp_region_any hm (by simpa using h1))
 cases e with
 | normal => exact q
 | _ => exact q.elim
theorem VA.done (hr : Region.ready .any ops L = []) (h : Q .normal s) : VA P B V ops Q n L s := fun a w hR => by
 cases n with
 | zero => exact ⟨hr, s, h, hR⟩
 | succ n => exact ⟨fun _ => ⟨s, h, hR⟩, by rw [hr]; simp⟩
theorem VA.take {i : Nat} {o : Oper} {x : AV} (hi : ops[i]? = some o) (hs : Region.noSelect ops = true) (hf : Region.free .any ops L i = true) (hr : (Region.ready .any ops L).contains i = true) (hg : o.guard = none) (hd : okd B.nt o.dst = true)
  (hv : OpV P B (Wi V ops i) s o x) (h : VA P B V ops Q n (L.setIfInBounds i true) (s.put o.dst x)) : VA P B V ops Q (n + 1) L s := fun a w hR => by
 obtain ⟨v, h1, h2⟩ := hv a w hR
 exact wpAnyE_first (F := Ew B (Wi V ops i)) Ew.tr Ew.rf (fun x => Ew.rf x) Wi.of hi (Region.noSelect_spec hs) n L a w (Region.free_spec hi hf) (by simpa using hr) (.inl ⟨by simp [Region.wanted, hg], h1⟩) (h _ _ (hR.put _ hd _ _ h2))
theorem VA.takeG {i : Nat} {o : Oper} {j t : Nat} {want b : Bool} (hi : ops[i]? = some o) (hs : Region.noSelect ops = true) (hf : Region.free .any ops L i = true) (hr : (Region.ready .any ops L).contains i = true) (hg : o.guard = some (j, want)) (hj : (ops[j]?).bind (·.dst) = some t)
  (hb : look s.sl t = some (.v (.bool b))) (hd : okd B.nt o.dst = true)
  (h1 : b = want → ∃ x, OpV P B (Wi V ops i) s o x ∧ VA P B V ops Q n (L.setIfInBounds i true) (s.put o.dst x)) (h2 : b = (!want) → VA P B V ops Q n (L.setIfInBounds i true) (s.put o.dst (.v undef))) : VA P B V ops Q (n + 1) L s := fun a w hR => by
 have hv : a.tmps.getD t undef = .bool b := (hR.slots t _ hb).eq_v
 have hy : yielded ops a.tmps j = some b := by
  cases ho : ops[j]? with
  | none => rw [ho] at hj; simp at hj
  | some oo =>
   rw [ho] at hj
   simp only [Option.bind_some] at hj
   have hv' : a.tmps[t]? = some (.bool b) := by
    rw [Array.getD_eq_getD_getElem?] at hv
    cases ht : a.tmps[t]? with
    | none => rw [ht] at hv; simp [undef] at hv
    | some x => rw [ht] at hv; simpa using hv
   simp [yielded, ho, hj, hv']
 by_cases hw : b = want
 ·obtain ⟨x, hx, h⟩ := h1 hw
  obtain ⟨v, k1, k2⟩ := hx a w hR
  exact wpAnyE_first (F := Ew B (Wi V ops i)) Ew.tr Ew.rf (fun x => Ew.rf x) Wi.of hi (Region.noSelect_spec hs) n L a w (Region.free_spec hi hf) (by simpa using hr) (.inl ⟨by simp [Region.wanted, hg, hy, hw], k1⟩) (h _ _ (hR.put _ hd _ _ k2))
 ·exact wpAnyE_first (F := Ew B (Wi V ops i)) Ew.tr Ew.rf (fun x => Ew.rf x) Wi.of hi (Region.noSelect_spec hs) n L a w (Region.free_spec hi hf) (by simpa using hr) (.inr ⟨by simp [Region.wanted, hg, hy, hw], rfl⟩) (h2 (by cases b <;> cases want <;> simp_all) _ _ (hR.put _ hd _ _ (.v _)))
def Each (P : Program) (B : Bs) (V : Nat → Nat → Prop) (ops : Array Oper) (Q : Exit → St' → Prop) (n : Nat) (L : Array Bool) (s : St') : List Nat → Prop
 | [] => True
 | i :: r => (∃ o, ops[i]? = some o ∧ (o.guard = none ∨ ∃ j want t, o.guard = some (j, want) ∧ (ops[j]?).bind (·.dst) = some t ∧ look s.sl t = some (.v (.bool want))) ∧ OpE P B (V i) s o (VA P B V ops Q n (L.setIfInBounds i true))) ∧ Each P B V ops Q n L s r
theorem VA.all {rs : List Nat} (hr : Region.ready .any ops L = rs) (hne : rs ≠ []) (h : Each P B V ops Q n L s rs) : VA P B V ops Q (n + 1) L s := fun a w hR => by
 refine ⟨fun h0 => absurd (hr ▸ h0) hne, fun i hi => ?_⟩
 rw [hr] at hi
 have key : ∀ rs, Each P B V ops Q n L s rs → i ∈ rs → ∃ o, ops[i]? = some o ∧ (o.guard = none ∨ ∃ j want t, o.guard = some (j, want) ∧ (ops[j]?).bind (·.dst) = some t ∧ look s.sl t = some (.v (.bool want))) ∧ OpE P B (V i) s o (VA P B V ops Q n (L.setIfInBounds i true)) := by
  intro rs
  induction rs with
  | nil => intro _ h; simp at h
  | cons j r ih =>
   intro h hi
   rcases List.mem_cons.1 hi with rfl | hi
   ·exact h.1
   ·exact ih h.2 hi
 obtain ⟨o, ho, hg, hop⟩ := key rs h hi
 unfold wpOp
 simp only [ho]
 have hwant : Region.wanted o (yielded ops a.tmps) = true := by
  rcases hg with hg | ⟨j, want, t, hg, hj, hb⟩
  ·simp [Region.wanted, hg]
  ·have hv : a.tmps.getD t undef = .bool want := (hR.slots t _ hb).eq_v
   have hy : yielded ops a.tmps j = some want := by
    unfold yielded
    rw [hj]
    simp only [Option.bind_some]
    rw [Array.getD_eq_getD_getElem?] at hv
    cases ht : a.tmps[t]? with
    | none => rw [ht] at hv; simp [undef] at hv
    | some x => rw [ht] at hv; simp at hv; subst hv; rfl
   simp [Region.wanted, hg, hy]
 rw [if_pos hwant]
 exact .inl (hop a w hR _ _ fun s' a' w' k1 k2 k3 => ⟨k3, k1 a' w' k2⟩)
end
end
section
def LeL (sl : List (Nat × AV)) : List (Nat × AV) → Prop
 | [] => True
 | (t, x) :: r => look sl t = some x ∧ LeL sl r
theorem LeL.look {sl : List (Nat × AV)} : ∀ {l : List (Nat × AV)}, LeL sl l → ∀ t x, look l t = some x → Proofs.YtcploodfholkkaaGreatDoor.look sl t = some x
 | [], _, t, x, h => by simp [Proofs.YtcploodfholkkaaGreatDoor.look] at h
 | (t', y) :: r, hl, t, x, h => by
  rw [look_put] at h
  split at h
  ·rename_i e; subst e; cases h; exact hl.1
  ·exact LeL.look hl.2 t x h
def keepIx : List Nat → List Ent → List Ent
 | [], _ => []
 | i :: r, hp => match hp[i]? with
  | some e => e :: keepIx r hp
  | none => keepIx r hp
def incr : List Nat → Bool
 | [] => true
 | [_] => true
 | i :: j :: r => Nat.blt i j && incr (j :: r)
theorem incr_tail {i : Nat} {r : List Nat} (h : incr (i :: r) = true) : incr r = true := by
 cases r with
 | nil => rfl
 | cons j r => simp only [incr, Bool.and_eq_true] at h; exact h.2
theorem incr_lt : ∀ {r : List Nat} {i : Nat}, incr (i :: r) = true → ∀ j ∈ r, i < j
 | [], i, _, j, hj => by simp at hj
 | k :: r, i, h, j, hj => by
  simp only [incr, Bool.and_eq_true] at h
  have h1 : i < k := Nat.le_of_ble_eq_true h.1
  rcases List.mem_cons.1 hj with rfl | hj
  ·exact h1
  ·exact Nat.lt_trans h1 (incr_lt h.2 j hj)
theorem keepIx_shift : ∀ (r : List Nat) (e : Ent) (hp : List Ent), (∀ j ∈ r, 0 < j) → keepIx r (e :: hp) = keepIx (r.map (· - 1)) hp
 | [], e, hp, _ => rfl
 | i :: r, e, hp, h => by
  have hi := h i (by simp)
  obtain ⟨j, rfl⟩ : ∃ j, i = j + 1 := ⟨i - 1, by omega⟩
  simp only [keepIx, List.getElem?_cons_succ, List.map_cons, Nat.add_sub_cancel]
  rw [keepIx_shift r e hp fun q hq => h q (by simp [hq])]
theorem incr_pred : ∀ {r : List Nat}, incr r = true → (∀ j ∈ r, 0 < j) → incr (r.map (· - 1)) = true
 | [], _, _ => rfl
 | [i], _, _ => rfl
 | i :: j :: r, h, hp => by
  simp only [incr, Bool.and_eq_true, List.map_cons] at h ⊢
  have h1 : i < j := Nat.le_of_ble_eq_true h.1
  have h0 := hp i (by simp)
  refine ⟨by simp [Nat.blt]; omega, ?_⟩
  simpa using incr_pred h.2 fun q hq => hp q (by simp at hq ⊢; exact .inr hq)
theorem keepIx_sub : ∀ (hp : List Ent) (r : List Nat), incr r = true → (keepIx r hp).Sublist hp
 | [], r, _ => by
  have : keepIx r [] = [] := by
   induction r with
   | nil => rfl
   | cons i r ih => simp only [keepIx, List.getElem?_nil]; exact ih (incr_tail ‹_›)
  rw [this]; exact List.Sublist.refl _
 | e :: hp, [], _ => List.nil_sublist _
 | e :: hp, i :: r, h => by
  by_cases hi : i = 0
  ·subst hi
   simp only [keepIx, List.getElem?_cons_zero]
   rw [keepIx_shift r e hp fun j hj => by have := incr_lt h j hj; omega]
   exact (keepIx_sub hp _ (incr_pred (incr_tail h) fun j hj => by have := incr_lt h j hj; omega)).cons_cons e
  ·have hpos : ∀ j ∈ i :: r, 0 < j := fun j hj => by
    rcases List.mem_cons.1 hj with rfl | hj
    ·omega
    ·have := incr_lt h j hj; omega
   rw [keepIx_shift (i :: r) e hp hpos]
   exact (keepIx_sub hp _ (incr_pred h hpos)).cons e
section
variable {P : Program} {B : Bs} {W : Nat → Prop} {s s' : St'} {a : Act} {w w' : World} {o : Oper} {K : St' → Prop} {Q : Exit → St' → Prop}
def Le (B : Bs) (s s' : St') : Prop := ∀ a w, R B s a w → R B s' a w
theorem Le.mk {sl : List (Nat × AV)} {hp : List Ent} {k : Nat} (hB : B.Ok) (ix : List Nat) (h1 : LeL s.sl sl) (hix : incr ix = true) (h3 : keepIx ix s.hp = hp) (hk : s.k ≤ k) : Le B s ⟨sl, hp, k⟩ := fun a w hr => by
 subst h3
 have h := hr.drop (sl := sl) (fun t x hx => h1.look t x hx) (keepIx_sub s.hp ix hix)
 exact ⟨h.slots, h.size, h.defs, h.blocks, h.nodup, h.chg, h.own, hB.up h.res hk⟩
theorem Le.refl : Le B s s := fun _ _ h => h
theorem Le.trans {s'' : St'} (h : Le B s s') (k : Le B s' s'') : Le B s s'' := fun a w hr => k a w (h a w hr)
theorem VC.le {c : Code} (s' : St') (h : Le B s s') (k : VC P B c Q s') : VC P B c Q s := VC.conv h k
theorem VO.le {ops : Array Oper} {rest : List Oper} (s' : St') (h : Le B s s') (k : VO P B ops rest Q s') : VO P B ops rest Q s := VO.conv h k
theorem VA.le {V : Nat → Nat → Prop} {ops : Array Oper} {n : Nat} {L : Array Bool} (s' : St') (h : Le B s s') (k : VA P B V ops Q n L s') : VA P B V ops Q n L s := fun a w hr => k a w (h a w hr)
theorem VC.loop' {c : Code} (ι : Type) (T : ι → St') (μ : ι → Nat) (i0 : ι) (h0 : Le B s (T i0))
  (round : ∀ i, VC P B c (thenQ (fun s' => ∃ j, Le B s' (T j) ∧ μ j < μ i) Q) (T i)) : VC P B (.loop c) Q s := VC.loop ι T μ i0 h0 round
def ndB : List Nat → Bool
 | [] => true
 | x :: r => !(r.any (Nat.beq x)) && ndB r
theorem ndB_spec : ∀ {r : List Nat}, ndB r = true → r.Pairwise (· ≠ ·)
 | [], _ => List.Pairwise.nil
 | x :: r, h => by
  simp only [ndB, Bool.and_eq_true, Bool.not_eq_true'] at h
  refine List.Pairwise.cons (fun y hy e => ?_) (ndB_spec h.2)
  subst e
  have : r.any (Nat.beq x) = true := List.any_eq_true.2 ⟨x, hy, Nat.beq_refl x⟩
  rw [h.1] at this; cases this
theorem keepIx_fm : ∀ (ix : List Nat) (hp : List Ent), keepIx ix hp = ix.filterMap (fun i => hp[i]?)
 | [], _ => rfl
 | i :: r, hp => by
  simp only [keepIx, List.filterMap_cons]
  cases hp[i]? with
  | none => exact keepIx_fm r hp
  | some e => simp only; rw [keepIx_fm r hp]
theorem Le.pick {sl : List (Nat × AV)} {hp : List Ent} {k : Nat} (hB : B.Ok) (ix : List Nat) (h1 : LeL s.sl sl) (hix : ndB ix = true) (h3 : keepIx ix s.hp = hp) (hk : s.k ≤ k) : Le B s ⟨sl, hp, k⟩ := fun a w hr => by
 subst h3
 have hm : ∀ p ∈ keepIx ix s.hp, p ∈ s.hp := fun p hp => by
  rw [keepIx_fm] at hp
  obtain ⟨i, _, hi⟩ := List.mem_filterMap.1 hp
  exact List.mem_of_getElem? hi
 have hz : ∀ b, Zn B s.hp w b → Zn B (keepIx ix s.hp) w b := fun b hb => ⟨hb.1, fun p hp' => hb.2.1 p (hm p hp'), hb.2.2⟩
 refine ⟨fun t x hx => (hr.slots t x (h1.look t x hx)).keep fun b hb _ => ⟨rfl, hz b hb⟩, hr.size, hr.defs, fun p hp' => (hr.blocks p (hm p hp')).keep (fun b hb _ => ⟨rfl, hz b hb⟩) fun _ _ => rfl, ?_, hr.chg, fun p hp' g hg => hr.own p (hm p hp') g hg, hB.up hr.res hk⟩
 show Apart (keepIx ix s.hp)
 unfold Apart
 rw [keepIx_fm, List.pairwise_filterMap]
 refine (ndB_spec hix).imp fun {i j} hij p hp q hq g hg => hr.nodup.get hp hq hij hg
theorem VC.loopK {c : Code} {Q : Exit → St' → Prop} (kept : List (Nat × AV)) (hk : LeL s.sl kept) (ι : Type) (vs : ι → List (Nat × AV)) (hp : ι → List Ent) (kk : ι → Nat) (μ : ι → Nat) (i0 : ι) (h0 : Le B s ⟨vs i0 ++ kept, hp i0, kk i0⟩)
  (round : ∀ i, VC P B c (thenQ (fun s' => ∃ j, Le B s' ⟨vs j ++ kept, hp j, kk j⟩ ∧ μ j < μ i) Q) ⟨vs i ++ kept, hp i, kk i⟩) : VC P B (.loop c) Q s := VC.loop' ι (fun i => ⟨vs i ++ kept, hp i, kk i⟩) μ i0 h0 round
theorem VC.absurd {c : Code} (h : False) : VC P B c Q s := h.elim
theorem Le.freezeRow {t i n sz : Nat} {u : Value} {cs : List AV} {ty : TypeId} (ht : look s.sl t = some (.v u)) (hi : s.hp[i]? = some (.row u n sz cs ty)) (hnew : True) (hB : B.Ok) :
  Le B s ⟨(t, .im n sz fun j => cs.getD j .any) :: s.sl, s.hp.eraseIdx i, s.k⟩ := fun a w hr => by
 have hm := List.mem_of_getElem? hi
 have hr' := hr.erase i
 refine hr'.over t ?_
 have hu : a.tmps.getD t undef = u := (hr.slots t _ ht).eq_v
 rw [hu]
 refine hr.repRow hi (fun b hb => ⟨hb.1, fun p hp => hb.2.1 p ((List.eraseIdx_sublist s.hp i).subset hp), hb.2.2⟩) fun g hg hl => ?_
 exact hr.erased hB hi hg
theorem Le.freezeBox {t i n sz g off cap : Nat} {o' : Own'} (ht : look s.sl t = some (.v (.slice (some ⟨g, off, none⟩) n cap))) (hi : s.hp[i]? = some (.box g o')) (hl : off + n * sz ≤ o'.cs.length) (hn : n ≤ cap) (hmx : cap ≤ maxLen) (hnew : True) (hB : B.Ok) :
  Le B s ⟨(t, .im n sz fun j => o'.cs.getD (off + j) .any) :: s.sl, s.hp.eraseIdx i, s.k⟩ := fun a w hr => by
 have hm := List.mem_of_getElem? hi
 have hr' := hr.erase i
 refine hr'.over t ?_
 have hu : a.tmps.getD t undef = _ := (hr.slots t _ ht).eq_v
 rw [hu]
 refine hr.repBox hi hl hn hmx (fun b hb => ⟨hb.1, fun p hp => hb.2.1 p ((List.eraseIdx_sublist s.hp i).subset hp), hb.2.2⟩) fun hl => ?_
 exact hr.erased hB hi rfl
theorem Le.recast {t : Nat} {x y : AV} (ht : look s.sl t = some x) (hxy : ∀ w Z u, Rep w Z x u → Rep w Z y u) : Le B s ⟨(t, y) :: s.sl, s.hp, s.k⟩ := fun a w hr => hr.over t (hxy _ _ _ (hr.slots t x ht))
theorem Le.nilRow (sz : Nat) (ty : TypeId) : Le B s ⟨s.sl, s.hp ++ [.row (.slice none 0 0) 0 sz [] ty], s.k⟩ := fun a w hr => hr.rowNil sz ty
end
theorem Rep.im_congr {w : World} {Z : Nat → Prop} {n sz : Nat} {f g : Nat → AV} (h : ∀ j, j < n * sz → f j = g j) {u : Value} (hr : Rep w Z (.im n sz f) u) : Rep w Z (.im n sz g) u := by
 cases hr with
 | nil => exact .nil sz g
 | im n sz f b off cap c e u hZ h1 h2 hb hc hr => exact .im n sz g b off cap c e u hZ h1 h2 hb hc fun j hj => h j hj ▸ hr j hj
theorem Rep.at_congr {w : World} {Z : Nat → Prop} {m : Nat} {f g : Nat → AV} (h : ∀ j, j < m → f j = g j) {u : Value} (hr : Rep w Z (.at_ m f) u) : Rep w Z (.at_ m g) u := by
 cases hr with
 | at_ m f b off c e u hZ hb hc hr => exact .at_ m g b off c e u hZ hb hc fun j hj => h j hj ▸ hr j hj
abbrev imE (n k : Nat) (F : Nat → Nat → AV) : AV := .im n k fun q => F (q / k) (q % k)
section
variable {P : Program} {B : Bs} {W : Nat → Prop} {s : St'} {o : Oper}
theorem OpV.indexAddr_1 {x y : Operand} {t e n q : Nat} {k : IntKind} {i : Int} {F : Nat → AV} (ho : o.op = .indexAddr t x y) (hu : P.underlying t = some (.slice e)) (hsz : ∀ w, (sizeOf e).run P w = .ok 1 w)
  (hx : evO s x = some (.im n 1 F)) (hy : evO s y = some (.v (.int k i))) (hq : i = (q : Int)) (h1 : q < n) : OpV P B W s o (.at_ 1 fun _ => F q) := fun a w hr => by
 subst hq
 obtain ⟨v, k1, k2⟩ := OpV.indexAddr_im (W := W) ho hu hsz hx hy (by omega) (by omega) a w hr
 exact ⟨v, k1, k2.at_congr fun j hj => by simp [show j = 0 by omega]⟩
theorem OpV.indexAddr_E {x y : Operand} {t e n sz q : Nat} {k : IntKind} {i : Int} {F : Nat → Nat → AV} (ho : o.op = .indexAddr t x y) (hu : P.underlying t = some (.slice e)) (hsz : ∀ w, (sizeOf e).run P w = .ok sz w)
  (hx : evO s x = some (imE n sz F)) (hy : evO s y = some (.v (.int k i))) (hq : i = (q : Int)) (h1 : q < n) : OpV P B W s o (.at_ sz (F q)) := fun a w hr => by
 subst hq
 obtain ⟨v, k1, k2⟩ := OpV.indexAddr_im (W := W) ho hu hsz hx hy (by omega) (by omega) a w hr
 refine ⟨v, k1, k2.at_congr fun j hj => ?_⟩
 simp only [Int.toNat_natCast]
 rw [Nat.add_comm, Nat.add_mul_div_right _ _ (by omega), Nat.add_mul_mod_self_right, Nat.div_eq_of_lt hj, Nat.mod_eq_of_lt hj, Nat.zero_add]
end
abbrev avI (n : Int) : AV := .v (.int .i64 n)
abbrev avB (b : Bool) : AV := .v (.bool b)
abbrev avS (p : ByteArray) : AV := .v (.string p)
abbrev avInts (xs : List Int) : AV := .im xs.length 1 fun j => avI (xs.getD j 0)
abbrev avStrs (xs : List ByteArray) : AV := .im xs.length 1 fun j => avS (xs.getD j ByteArray.empty)
def intsL (xs : List Int) : List AV := xs.map fun n => avI n
def strsL (xs : List ByteArray) : List AV := xs.map fun n => avS n
def boolsL (xs : List Bool) : List AV := xs.map fun n => avB n
theorem intsL_len (xs : List Int) : (intsL xs).length = xs.length := by simp [intsL]
theorem strsL_len (xs : List ByteArray) : (strsL xs).length = xs.length := by simp [strsL]
theorem intsL_snoc (xs : List Int) (n : Int) : intsL xs ++ [avI n] = intsL (xs ++ [n]) := by simp [intsL]
theorem strsL_snoc (xs : List ByteArray) (n : ByteArray) : strsL xs ++ [avS n] = strsL (xs ++ [n]) := by simp [strsL]
theorem intsL_set (xs : List Int) (j : Nat) (n : Int) : (intsL xs).set j (avI n) = intsL (xs.set j n) := by simp [intsL, List.map_set]
theorem strsL_set (xs : List ByteArray) (j : Nat) (n : ByteArray) : (strsL xs).set j (avS n) = strsL (xs.set j n) := by simp [strsL, List.map_set]
theorem intsL_get {xs : List Int} {j : Nat} (h : j < xs.length) : (intsL xs)[j]? = some (avI (xs.getD j 0)) := by simp [intsL, h]
theorem Rep.ints {w : World} {Z : Nat → Prop} {xs : List Int} {n : Nat} (hn : n = xs.length) {u : Value} (h : Rep w Z (.im n 1 fun j => (intsL xs).getD j .any) u) : Rep w Z (avInts xs) u := by
 subst hn
 exact h.im_congr fun j hj => by simp at hj; simp [intsL, hj]
theorem Rep.strs {w : World} {Z : Nat → Prop} {xs : List ByteArray} {n : Nat} (hn : n = xs.length) {u : Value} (h : Rep w Z (.im n 1 fun j => (strsL xs).getD j .any) u) : Rep w Z (avStrs xs) u := by
 subst hn
 exact h.im_congr fun j hj => by simp at hj; simp [strsL, hj]
end
section
class Sxc (α : Type) [Inhabited α] where
 k : Nat
 pos : 0 < k
 cell : α → Nat → AV
section
variable {α : Type} [Inhabited α] [Sxc α]
abbrev avL (xs : List α) : AV := imE xs.length (Sxc.k α) fun q => Sxc.cell (xs.getD q default)
abbrev avT (x : α) : AV := .agg (tab (Sxc.k α) (Sxc.cell x))
def rowL (xs : List α) : List AV := xs.flatMap fun x => tab (Sxc.k α) (Sxc.cell x)
theorem rowL_len (xs : List α) : (rowL xs).length = xs.length * Sxc.k α := by
 induction xs with
 | nil => simp [rowL]
 | cons x xs ih => simp only [rowL, List.flatMap_cons, List.length_append, tab_len, List.length_cons] at ih ⊢; rw [ih, Nat.add_mul]; omega
theorem rowL_snoc (xs : List α) (x : α) : rowL xs ++ tab (Sxc.k α) (Sxc.cell x) = rowL (xs ++ [x]) := by simp [rowL]
theorem rowL_get : ∀ (xs : List α) (q j : Nat), q < xs.length → j < Sxc.k α → (rowL xs)[q * Sxc.k α + j]? = some (Sxc.cell (xs.getD q default) j)
 | [], q, j, h, _ => by simp at h
 | x :: xs, 0, j, _, hj => by
  simp only [rowL, List.flatMap_cons, Nat.zero_mul, Nat.zero_add]
  rw [List.getElem?_append_left (by rw [tab_len]; exact hj), List.getElem?_eq_getElem (by rw [tab_len]; exact hj), tab_get]
  rfl
 | x :: xs, q + 1, j, h, hj => by
  have ih := rowL_get xs q j (by simpa using h) hj
  simp only [rowL, List.flatMap_cons] at ih ⊢
  rw [List.getElem?_append_right (by rw [tab_len, Nat.add_mul]; omega), tab_len, show (q + 1) * Sxc.k α + j - Sxc.k α = q * Sxc.k α + j by rw [Nat.add_mul]; omega, ih]
  simp
theorem Rep.rowL {w : World} {Z : Nat → Prop} {xs : List α} {n : Nat} (hn : n = xs.length) {u : Value} (h : Rep w Z (.im n (Sxc.k α) fun j => (rowL xs).getD j .any) u) : Rep w Z (avL xs) u := by
 subst hn
 refine h.im_congr fun j hj => ?_
 have hp := Sxc.pos (α := α)
 have hq : j / Sxc.k α < xs.length := (Nat.div_lt_iff_lt_mul hp).2 hj
 have := rowL_get xs (j / Sxc.k α) (j % Sxc.k α) hq (Nat.mod_lt _ hp)
 rw [Nat.div_add_mod' j (Sxc.k α)] at this
 rw [List.getD_eq_getElem?_getD, this]; rfl
end
section
variable {P : Program} {B : Bs} {W : Nat → Prop} {s : St'} {o : Oper} {K : St' → Prop} {Q : Exit → St' → Prop}
theorem OpE.append1 {x y : Operand} {T e i n sz bytes : Nat} {u z : Value} {cs cs' : List AV} {F : Nat → AV} (ho : o.op = .call { callee := .builtin .append, args := #[x, y], argTypes := #[T, T] }) (hB : B.Ok) (hd : okd B.nt o.dst = true)
  (hu : P.underlying T = some (.slice e)) (hinfo : (P.info? e).map (fun i => (i.zero, i.size, i.bytes)) = some (some z, sz, bytes)) (hz : z.cells.size = sz) (hsz : 0 < sz) (hby : bytes ≤ 4096)
  (hx : evO s x = some (.v u)) (hi : s.hp[i]? = some (.row u n sz cs e)) (hy : evO s y = some (.im 1 sz F)) (hone : (tab sz F).all AV.one = true) (hcs : cs ++ tab sz F = cs') (hlen : n + 1 ≤ 10000000000) (hW : ∀ g, u.ownBlock = some g → W g)
  (hK : ∀ u', K ((St'.mk s.sl (s.hp.set i (.row u' (n + 1) sz cs' e)) s.k).put o.dst (.v u'))) : OpE P B W s o K := by
 refine OpE.append (m := 1) ho hB hd hu hinfo hz hsz hby hx hi hy (by omega) (fun j hj => ?_) hlen hW fun u' => ?_
 ·rw [Nat.one_mul] at hj
  have := List.all_eq_true.1 hone (F j) (by
   have h : j < (tab sz F).length := by rw [tab_len]; exact hj
   exact List.mem_iff_getElem.2 ⟨j, h, tab_get _ _ _ h⟩)
  exact this
 ·rw [Nat.one_mul, hcs]; exact hK u'
theorem OpE.store1 {x y : Operand} {t g j i : Nat} {o' : Own'} {v : AV} {cs' : List AV} (ho : o.op = .store t x y) (hB : B.Ok) (hd : okd B.nt o.dst = true) (hsz : ∀ w, (sizeOf t).run P w = .ok 1 w) (hx : evO s x = some (.v (.pointer (some ⟨g, j, none⟩)))) (hy : evO s y = some v)
  (hone : v.one = true) (hc1 : cellsOf v = [v]) (hk : v.known = true) (hi : s.hp[i]? = some (.box g o')) (hj : j < o'.cs.length) (hcs : o'.cs.set j v = cs') (hW : W g)
  (hK : K ((St'.mk s.sl (s.hp.set i (.box g ⟨cs', o'.ty, o'.tot⟩)) s.k).put o.dst (.v undef))) : OpE P B W s o K := by
 subst hcs
 refine OpE.store ho hB hd hsz hx hy hk (by rw [hc1]; rfl) (by rw [hc1]; simpa using hone) hi (by omega) hW ?_
 rw [hc1]; exact hK
theorem made_ints (n : Nat) : (madeCells (Value.int .i64 0).cells (n * 1)).toList.map AV.v = intsL (List.replicate n 0) := by
 show (madeCells #[Value.int .i64 0] (n * 1)).toList.map AV.v = _
 rw [Nat.mul_one, toList_madeCells_one]; simp [intsL]
theorem Le.row {t i n sz : Nat} {u : Value} {cs : List AV} {ty : TypeId} {y : AV} (hB : B.Ok) (hnew : True) (ht : look s.sl t = some (.v u)) (hi : s.hp[i]? = some (.row u n sz cs ty))
  (hy : ∀ w Z u, Rep w Z (.im n sz fun j => cs.getD j .any) u → Rep w Z y u) : Le B s ⟨(t, y) :: s.sl, s.hp.eraseIdx i, s.k⟩ :=
 (Le.freezeRow ht hi hnew hB).trans (fun a w hr => by
  have := hr.over t (hy _ _ _ (hr.slots t _ (by simp [look_put])))
  exact this.drop (fun t' x h => by rw [look_put] at h ⊢; split at h <;> rename_i e; (rw [if_pos e]; exact h); (rw [if_neg e, look_put, if_neg e]; exact h)) (List.Sublist.refl _))
theorem Le.box {t i n sz g off cap : Nat} {o' : Own'} {y : AV} (hB : B.Ok) (hnew : True) (ht : look s.sl t = some (.v (.slice (some ⟨g, off, none⟩) n cap))) (hi : s.hp[i]? = some (.box g o')) (hl : off + n * sz ≤ o'.cs.length) (hn : n ≤ cap) (hmx : cap ≤ maxLen)
  (hy : ∀ w Z u, Rep w Z (.im n sz fun j => o'.cs.getD (off + j) .any) u → Rep w Z y u) : Le B s ⟨(t, y) :: s.sl, s.hp.eraseIdx i, s.k⟩ :=
 (Le.freezeBox ht hi hl hn hmx hnew hB).trans (fun a w hr => by
  have := hr.over t (hy _ _ _ (hr.slots t _ (by simp [look_put])))
  exact this.drop (fun t' x h => by rw [look_put] at h ⊢; split at h <;> rename_i e; (rw [if_pos e]; exact h); (rw [if_neg e, look_put, if_neg e]; exact h)) (List.Sublist.refl _))
def ArgP (P : Program) (B : Bs) (s : St') (x : Operand) (v : AV) : Prop := ∀ a w, R B s a w → Rep w (fun b => b < w.heap.size ∧ True) v (a.eval x)
theorem ArgP.ev {x : Operand} {v : AV} (h : evO s x = some v) : ArgP P B s x v := fun a w hr => (hr.ev h).keep fun b hb _ => ⟨rfl, hb.1, trivial⟩
theorem ArgP.row {x : Operand} {i n sz : Nat} {u : Value} {cs : List AV} {ty : TypeId} {y : AV} (hx : evO s x = some (.v u)) (hi : s.hp[i]? = some (.row u n sz cs ty)) (hy : ∀ w Z u, Rep w Z (.im n sz fun j => cs.getD j .any) u → Rep w Z y u) : ArgP P B s x y := fun a w hr => by
 rw [hr.evv hx]
 exact hy _ _ _ (hr.repRow hi (fun b hb => ⟨hb.1, trivial⟩) fun g _ hl => ⟨hl, trivial⟩)
theorem ArgP.box {x : Operand} {i n sz g off cap : Nat} {o' : Own'} {y : AV} (hx : evO s x = some (.v (.slice (some ⟨g, off, none⟩) n cap))) (hi : s.hp[i]? = some (.box g o')) (hl : off + n * sz ≤ o'.cs.length) (hn : n ≤ cap) (hmx : cap ≤ maxLen)
  (hy : ∀ w Z u, Rep w Z (.im n sz fun j => o'.cs.getD (off + j) .any) u → Rep w Z y u) : ArgP P B s x y := fun a w hr => by
 rw [hr.evv hx]
 exact hy _ _ _ (hr.repBox hi hl hn hmx (fun b hb => ⟨hb.1, trivial⟩) fun hl => ⟨hl, trivial⟩)
def ArgsP (P : Program) (B : Bs) (s : St') : List Operand → List AV → Prop
 | [], [] => True
 | x :: r, v :: l => ArgP P B s x v ∧ ArgsP P B s r l
 | _, _ => False
theorem ArgsP.args {a : Act} {w : World} (hr : R B s a w) : ∀ {ops : List Operand} {xs : List AV}, ArgsP P B s ops xs → ops.length = xs.length ∧ ∀ j, (h : j < xs.length) → Rep w (fun b => b < w.heap.size ∧ True) xs[j] ((ops.map a.eval).getD j undef)
 | [], [], _ => ⟨rfl, fun j h => by simp at h⟩
 | [], _ :: _, h => h.elim
 | _ :: _, [], h => h.elim
 | x :: r, v :: l, h => by
  obtain ⟨k1, k2⟩ := ArgsP.args hr h.2
  refine ⟨by simp [k1], fun j hj => ?_⟩
  cases j with
  | zero => exact h.1 a w hr
  | succ j => exact k2 j (by simpa using hj)
theorem OpE.callL {f : FuncId} {args : Array Operand} {ts : Array TypeId} {xs : List AV} {G : AV → Prop} (ho : o.op = .call { callee := .value (.func f), args := args, argTypes := ts }) (hB : B.Ok) (hd : okd B.nt o.dst = true)
  (hcall : ∀ us w, (callFunc f us).run P w = .ok (.enter f us) w) (hspec : SpecN P f xs G) (hargs : ArgsP P B s args.toList xs) (hK : ∀ y, G y → K (s.put o.dst y)) : OpE P B W s o K :=
 OpE.callB ho hB hd hcall (fun a w hr => by
  obtain ⟨k1, k2⟩ := ArgsP.args hr hargs
  refine ⟨by simpa using k1, fun j hj => ?_⟩
  rw [show (args.map a.eval).getD j undef = (args.toList.map a.eval).getD j undef by rw [Array.getD_eq_getD_getElem?, List.getD_eq_getElem?_getD]; simp]
  exact k2 j hj) hspec hK
theorem VC.condT {c : Operand} {x y : Code} {b : Bool} (hc : evO s c = some (.v (.bool b))) (hb : b = true) (h : VC P B x Q s) : VC P B (.cond c x y) Q s := VC.cond hc (fun _ => h) fun e => by rw [hb] at e; cases e
theorem VC.condF {c : Operand} {x y : Code} {b : Bool} (hc : evO s c = some (.v (.bool b))) (hb : b = false) (h : VC P B y Q s) : VC P B (.cond c x y) Q s := VC.cond hc (fun e => by rw [hb] at e; cases e) fun _ => h
theorem VO.opY {ops : Array Oper} {rest : List Oper} {o : Oper} {j : Nat} {want b : Bool} {t : Nat} (hg : o.guard = some (j, want)) (hj : (ops[j]?).bind (·.dst) = some t) (hb : look s.sl t = some (.v (.bool b))) (hd : okd B.nt o.dst = true)
  (hw : b = want) (h1 : OpE P B AllW s o (VO P B ops rest Q)) : VO P B ops (o :: rest) Q s := VO.opG hg hj hb hd (fun _ => h1) fun e => by rw [hw] at e; cases want <;> cases e
theorem VO.opX {ops : Array Oper} {rest : List Oper} {o : Oper} {j : Nat} {want b : Bool} {t : Nat} (hg : o.guard = some (j, want)) (hj : (ops[j]?).bind (·.dst) = some t) (hb : look s.sl t = some (.v (.bool b))) (hd : okd B.nt o.dst = true)
  (hw : b = !want) (h1 : VO P B ops rest Q (s.put o.dst (.v undef))) : VO P B ops (o :: rest) Q s := VO.opG hg hj hb hd (fun e => by rw [hw] at e; cases want <;> cases e) fun _ => h1
theorem VA.takeY {V : Nat → Nat → Prop} {ops : Array Oper} {n : Nat} {L : Array Bool} {i : Nat} {o : Oper} {j t : Nat} {want b : Bool} {x : AV} (hi : ops[i]? = some o) (hs : Region.noSelect ops = true) (hf : Region.free .any ops L i = true) (hr : (Region.ready .any ops L).contains i = true) (hg : o.guard = some (j, want)) (hj : (ops[j]?).bind (·.dst) = some t)
  (hb : look s.sl t = some (.v (.bool b))) (hd : okd B.nt o.dst = true) (hw : b = want) (hv : OpV P B (Wi V ops i) s o x) (h : VA P B V ops Q n (L.setIfInBounds i true) (s.put o.dst x)) : VA P B V ops Q (n + 1) L s :=
 VA.takeG hi hs hf hr hg hj hb hd (fun _ => ⟨x, hv, h⟩) fun e => by rw [hw] at e; cases want <;> cases e
theorem VA.takeX {V : Nat → Nat → Prop} {ops : Array Oper} {n : Nat} {L : Array Bool} {i : Nat} {o : Oper} {j t : Nat} {want b : Bool} (hi : ops[i]? = some o) (hs : Region.noSelect ops = true) (hf : Region.free .any ops L i = true) (hr : (Region.ready .any ops L).contains i = true) (hg : o.guard = some (j, want)) (hj : (ops[j]?).bind (·.dst) = some t)
  (hb : look s.sl t = some (.v (.bool b))) (hd : okd B.nt o.dst = true) (hw : b = !want) (h : VA P B V ops Q n (L.setIfInBounds i true) (s.put o.dst (.v undef))) : VA P B V ops Q (n + 1) L s :=
 VA.takeG hi hs hf hr hg hj hb hd (fun e => by rw [hw] at e; cases want <;> cases e) fun _ => h
theorem OpV.pickT {c x y : Operand} {b : Bool} {v1 v2 : AV} (ho : o.op = .pick c x y) (hc : evO s c = some (.v (.bool b))) (hx : evO s x = some v1) (hy : evO s y = some v2) (hb : b = true) : OpV P B W s o v1 := by
 subst hb; exact OpV.pick ho hc hx hy
theorem OpV.pickF {c x y : Operand} {b : Bool} {v1 v2 : AV} (ho : o.op = .pick c x y) (hc : evO s c = some (.v (.bool b))) (hx : evO s x = some v1) (hy : evO s y = some v2) (hb : b = false) : OpV P B W s o v2 := by
 subst hb; exact OpV.pick ho hc hx hy
end
end
section
def SubL (sl l : List (Nat × AV)) : Prop := ∀ t x, look l t = some x → look sl t = some x
def freeK : List (Nat × AV) → Option Nat → Bool
 | _, none => true
 | [], some _ => true
 | (k, _) :: r, some d => match Nat.beq d k with
  | true => false
  | false => freeK r (some d)
theorem freeK_spec : ∀ {l : List (Nat × AV)} {d : Nat}, freeK l (some d) = true → look l d = none
 | [], d, _ => rfl
 | (k, x) :: r, d, h => by
  simp only [freeK] at h
  rw [look_put]
  split at h
  ·cases h
  ·rename_i hb
   rw [if_neg (fun e => by subst e; rw [Nat.beq_refl] at hb; cases hb)]
   exact freeK_spec h
theorem SubL.refl {l : List (Nat × AV)} : SubL l l := fun _ _ h => h
theorem SubL.put {s : St'} {d : Option Nat} {x : AV} {l : List (Nat × AV)} (hd : freeK l d = true) (h : SubL s.sl l) : SubL (s.put d x).sl l := by
 cases d with
 | none => exact h
 | some d =>
  intro t y hy
  simp only [St'.put, look_put]
  split
  ·rename_i e; subst e; rw [freeK_spec hd] at hy; cases hy
  ·exact h t y hy
section
variable {P : Program} {B : Bs} {W : Nat → Prop} {s s' : St'} {o : Oper} {K : St' → Prop} {Q : Exit → St' → Prop}
def SubJ (vs : List (Nat × AV)) (s s1 : St') : Prop := LeL s1.sl vs ∧ SubL s1.sl s.sl ∧ s1.hp = s.hp ∧ s1.k ≤ s.k
theorem SubJ.intro {vs : List (Nat × AV)} {s1 : St'} (h1 : LeL s1.sl vs) (h2 : SubL s1.sl s.sl) (h3 : s1.hp = s.hp) (h4 : s1.k ≤ s.k) : SubJ vs s s1 := ⟨h1, h2, h3, h4⟩
theorem SubJ.le {vs : List (Nat × AV)} {s1 : St'} (hB : B.Ok) (h : SubJ vs s s1) : Le B s1 ⟨vs ++ s.sl, s.hp, s.k⟩ := fun a w hr => by
 obtain ⟨h1, h2, h3, h4⟩ := h
 have key : SubL s1.sl (vs ++ s.sl) := by
  have : ∀ vs, LeL s1.sl vs → SubL s1.sl (vs ++ s.sl) := by
   intro vs
   induction vs with
   | nil => intro _; exact h2
   | cons p r ih =>
    intro h t x hx
    obtain ⟨k, v⟩ := p
    rw [List.cons_append, look_put] at hx
    split at hx
    ·rename_i e; subst e; cases hx; exact h.1
    ·exact ih h.2 t x hx
  exact this vs h1
 have hr' : R B ⟨vs ++ s.sl, s1.hp, s1.k⟩ a w := hr.drop key (List.Sublist.refl _)
 rw [h3] at hr'
 exact ⟨hr'.slots, hr'.size, hr'.defs, hr'.blocks, hr'.nodup, hr'.chg, hr'.own, hB.up hr'.res h4⟩
theorem capM {cap : Nat} (h : cap ≤ 1000000000000) : cap ≤ maxLen := by unfold maxLen; omega
theorem VA.split {V : Nat → Nat → Prop} {ops : Array Oper} {n : Nat} {L : Array Bool} {t : Nat} {b : Bool} (hb : look s.sl t = some (.v (.bool b))) (h1 : b = true → VA P B V ops Q n L s) (h2 : b = false → VA P B V ops Q n L s) : VA P B V ops Q n L s := by
 cases b with
 | true => exact h1 rfl
 | false => exact h2 rfl
theorem VO.split {ops : Array Oper} {rest : List Oper} {t : Nat} {b : Bool} (hb : look s.sl t = some (.v (.bool b))) (h1 : b = true → VO P B ops rest Q s) (h2 : b = false → VO P B ops rest Q s) : VO P B ops rest Q s := by
 cases b with
 | true => exact h1 rfl
 | false => exact h2 rfl
theorem yielded_undef {ops : Array Oper} {a : Act} {j t : Nat} (hj : (ops[j]?).bind (·.dst) = some t) (hv : a.tmps.getD t undef = undef) : yielded ops a.tmps j = none := by
 unfold yielded
 rw [hj]
 simp only [Option.bind_some]
 rw [Array.getD_eq_getD_getElem?] at hv
 cases ht : a.tmps[t]? with
 | none => rfl
 | some x => rw [ht] at hv; simp at hv; subst hv; rfl
theorem VO.opU {ops : Array Oper} {rest : List Oper} {o : Oper} {j : Nat} {want : Bool} {t : Nat} (hg : o.guard = some (j, want)) (hj : (ops[j]?).bind (·.dst) = some t) (hb : look s.sl t = some (.v undef)) (hd : okd B.nt o.dst = true)
  (h : VO P B ops rest Q (s.put o.dst (.v undef))) : VO P B ops (o :: rest) Q s := fun a w hr => by
 have hy : yielded ops a.tmps j = none := yielded_undef hj (hr.slots t _ hb).eq_v
 refine wpList_step fun K hK => ?_
 rw [if_neg (by simp [Region.wanted, hg, hy])]
 exact hK _ _ (h _ _ (hr.put _ hd _ _ (.v _)))
theorem OpE.callF {f : Operand} {F : FuncId} {args : Array Operand} {ts : Array TypeId} {cs xs : List AV} {G : AV → Prop} (ho : o.op = .call { callee := .value f, args := args, argTypes := ts }) (hB : B.Ok) (hd : okd B.nt o.dst = true)
  (hcall : ∀ us w, (callFunc F us).run P w = .ok (.enter F us) w) (hf : evO s f = some (.fn F cs)) (hxs : evL s args.toList = some xs) (hspec : Spec P F (xs ++ cs) G) (hK : ∀ y, G y → K (s.put o.dst y)) : OpE P B W s o K := by
 intro a w hr next Qx hn
 have hfv := hr.ev hf
 generalize hfe : a.eval f = fv at hfv
 cases hfv with
 | fn F cs us hl hcr =>
 have ha := evL_args hr hxs
 have hA : Args w (Zo B s.hp) (xs ++ cs) (args.map a.eval ++ us) := by
  refine ⟨by simp [ha.1, hl], fun j hj => ?_⟩
  by_cases hjx : j < xs.length
  ·rw [List.getElem_append_left hjx]
   have hlt : j < (args.map a.eval).size := by rw [ha.1]; exact hjx
   have : (args.map a.eval ++ us).getD j undef = (args.map a.eval).getD j undef := by
    rw [Array.getD_eq_getD_getElem?, Array.getD_eq_getD_getElem?, Array.getElem?_append_left hlt]
   rw [this]
   exact ha.2 j hjx
  ·rw [List.getElem_append_right (by omega)]
   have hj' : j - xs.length < cs.length := by rw [List.length_append] at hj; omega
   have : (args.map a.eval ++ us).getD j undef = us.getD (j - xs.length) undef := by
    rw [Array.getD_eq_getD_getElem?, Array.getD_eq_getD_getElem?, Array.getElem?_append_right (by rw [ha.1]; omega), ha.1]
   rw [this]
   exact (hcr _ hj').keep fun b hb _ => ⟨rfl, hb.1, hb.2⟩
 have h1 := hspec w _ _ hA
 unfold Oper.wp
 simp only [execOp, ho, resolve, hfe, Deferred.ofValue, Sem.run_bind, Sem.run_pure, Result.andThen_ok, invoke, hcall, Array.empty_append]
 simp only [Oper.upon]
 refine h1.mono fun e w' hret => ?_
 obtain ⟨y, v, h2, rfl, h3, h4, h5⟩ := hret
 have hr' : R B s a w' := hr.stepN hB h4
 exact hn _ _ _ (hK y h2) (hr'.put _ hd _ _ (h3.keep fun b hb hl => ⟨rfl, hr.zret h4 b hb⟩)) (.ofN h4)
theorem infoOf {P : Program} {e : TypeId} {z : Value} (i : TypeInfo) (sz : Nat) (h : P.info? e = some i) (hz : i.zero = some z) (hs : i.size = sz) : (P.info? e).map (fun i => (i.zero, i.size, i.bytes)) = some (some z, sz, i.bytes) := by
 rw [h, ← hs, ← hz]; rfl
theorem lt2 {φ : Nat → Prop} (h0 : φ 0) (h1 : φ 1) : ∀ j, j < 2 → φ j
 | 0, _ => h0 | 1, _ => h1
theorem lt1 {φ : Nat → Prop} (h0 : φ 0) : ∀ j, j < 1 → φ j
 | 0, _ => h0
theorem lt5 {φ : Nat → Prop} (h0 : φ 0) (h1 : φ 1) (h2 : φ 2) (h3 : φ 3) (h4 : φ 4) : ∀ j, j < 5 → φ j
 | 0, _ => h0 | 1, _ => h1 | 2, _ => h2 | 3, _ => h3 | 4, _ => h4
theorem ArgsP.nil : ArgsP P B s [] [] := trivial
theorem ArgsP.cons {x : Operand} {v : AV} {r : List Operand} {l : List AV} (h : ArgP P B s x v) (hr : ArgsP P B s r l) : ArgsP P B s (x :: r) (v :: l) := ⟨h, hr⟩
theorem ArgP.fn0 {x : Operand} {F : FuncId} (hx : evO s x = some (.v (.func (.func F) #[] #[]))) : ArgP P B s x (.fn F []) := fun a w hr => by
 rw [hr.evv hx]; exact .fn F [] #[] rfl fun j hj => by simp at hj
theorem ArgP.fn1 {x : Operand} {F : FuncId} {i g off m : Nat} {o' : Own'} {f : Nat → AV} (hx : evO s x = some (.v (.func (.func F) #[] #[.pointer (some ⟨g, off, none⟩)]))) (hi : s.hp[i]? = some (.box g o')) (hl : off + m ≤ o'.cs.length)
  (hf : ∀ j, j < m → o'.cs.getD (off + j) .any = f j) : ArgP P B s x (.fn F [.at_ m f]) := fun a w hr => by
 rw [hr.evv hx]
 have hp : Rep w (fun b => b < w.heap.size ∧ True) (.at_ m fun j => o'.cs.getD (off + j) .any) (.pointer (some ⟨g, off, none⟩)) := hr.repPtr hi hl (fun b hb => ⟨hb.1, trivial⟩) fun hl => ⟨hl, trivial⟩
 refine .fn F _ #[_] rfl fun j hj => ?_
 simp at hj
 subst hj
 exact hp.at_congr hf
def BndO (s : St') : Option Operand → Nat → Nat → Prop
 | none, d, n => n = d
 | some y, _, n => ∃ k i, evO s y = some (.v (.int k i)) ∧ i = (n : Int)
theorem BndO.run {lo : Option Operand} {d n : Nat} (h : BndO s lo d n) {a : Act} {w : World} (hr : R B s a w) : (lo = none ∧ n = d) ∨ ∃ k, lo.map a.eval = some (.int k n) := by
 cases lo with
 | none => exact .inl ⟨rfl, h⟩
 | some y =>
  obtain ⟨k, i, h1, rfl⟩ := h
  exact .inr ⟨k, by simp [hr.evv h1]⟩
theorem sliceB_run {isS : Bool} {len cap l h : Nat} {lo hi : Option Value} {dl : lo = none ∧ l = 0 ∨ ∃ k, lo = some (.int k l)} {dh : hi = none ∧ h = len ∨ ∃ k, hi = some (.int k h)} (h1 : l ≤ h) (h2 : h ≤ cap) (w : World) :
  (Instr.sliceBounds isS len cap lo hi none).run P w = .ok (l, h, cap) w := by
 rcases dl with ⟨rfl, rfl⟩ | ⟨k, rfl⟩ <;> rcases dh with ⟨rfl, rfl⟩ | ⟨k', rfl⟩
 ·simp [Instr.sliceBounds]
 ·simp [Instr.sliceBounds, Instr.sliceBound, asIntOf, h2]
 ·simp [Instr.sliceBounds, Instr.sliceBound, asIntOf, h1]
 ·simp [Instr.sliceBounds, Instr.sliceBound, asIntOf, h1, h2]
theorem OpV.makeFunc1 {fn : Fn} {c : Operand} {u : Value} (ho : o.op = .makeFunc fn #[] #[c]) (hc : evO s c = some (.v u)) : OpV P B W s o (.v (.func fn #[] #[u])) :=
 OpV.makeFunc ho fun a w hr => by simp [hr.evv hc]
theorem OpV.shr1 {x y : Operand} {t u : TypeId} {a : Int} {k kk : IntKind} (ho : o.op = .binOp .shr t x y u) (hx : evO s x = some (.v (.int k a))) (hy : evO s y = some (.v (.int kk 1))) (hk : min (1 : Int).toNat k.bits = 1) (h0 : 0 ≤ a) : OpV P B W s o (.v (.int k (a / 2))) :=
 OpV.conc (fun a' w hr w' hcw => by
  have : a.fdiv 2 = a / 2 := Int.fdiv_eq_ediv_of_nonneg _ (by decide)
  have hk' : min 1 k.bits = 1 := hk
  simp [execOp, ho, hr.evv hx, hr.evv hy, eqGuard, binOp, Op.shift, hk', this])
theorem OpV.fieldAddrO (off : Nat) {x : Operand} {t f : Nat} {fs : Array Field} {fd : Field} {g j k : Nat} (ho : o.op = .fieldAddr t x f) (hu : P.underlying t = some (.struct fs)) (hf : fs[f]? = some fd) (hoff : fd.offset = off) (hsz : ∀ w, (sizeOf fd.type).run P w = .ok (k + 1) w) (hx : evO s x = some (.v (.pointer (some ⟨g, j, none⟩)))) :
  OpV P B W s o (.v (.pointer (some ⟨g, j + off, none⟩))) := by subst hoff; exact OpV.fieldAddr ho hu hf hsz hx
theorem OpV.fieldAddr_atO (off : Nat) {x : Operand} {t f : Nat} {fs : Array Field} {fd : Field} {m k : Nat} {F : Nat → AV} (ho : o.op = .fieldAddr t x f) (hu : P.underlying t = some (.struct fs)) (hf : fs[f]? = some fd) (hoff : fd.offset = off) (hsz : ∀ w, (sizeOf fd.type).run P w = .ok (k + 1) w) (hx : evO s x = some (.at_ m F)) (hm : Nat.ble (off + (k + 1)) m = true) :
  OpV P B W s o (.at_ (k + 1) fun j => F (off + j)) := by subst hoff; exact OpV.fieldAddr_at ho hu hf hsz hx hm
theorem OpV.recast {x y : AV} (h : OpV P B W s o x) (hxy : ∀ w Z u, Rep w Z x u → Rep w Z y u) : OpV P B W s o y := fun a w hr =>
 let ⟨v, h1, h2⟩ := h a w hr
 ⟨v, h1, hxy _ _ _ h2⟩
theorem OpV.slice_im {t e sz n : Nat} {x : Operand} {F : Nat → AV} {lo hi : Option Operand} {l h : Nat} (ho : o.op = .slice t x lo hi none) (hu : P.underlying t = some (.slice e)) (hsz : ∀ w, (sizeOf e).run P w = .ok sz w) (hx : evO s x = some (.im n sz F))
  (hl : BndO s lo 0 l) (hh : BndO s hi n h) (h1 : l ≤ h) (h2 : h ≤ n) : OpV P B W s o (.im (h - l) sz fun j => F (l * sz + j)) := fun a w hr => by
 have hv := hr.ev hx
 generalize hva : a.eval x = v at hv
 cases hv with
 | nil =>
  have hl0 : l = 0 := by omega
  have hh0 : h = 0 := by omega
  subst hl0; subst hh0
  refine ⟨.slice none 0 0, fun w' hc => ?_, .nil _ _⟩
  have e := sliceB_run (P := P) (isS := true) (len := 0) (cap := 0) (l := 0) (h := 0) (lo := lo.map a.eval) (hi := hi.map a.eval) (dl := (hl.run hr).imp (fun ⟨h1, h2⟩ => ⟨by rw [h1]; rfl, h2⟩) id) (dh := (hh.run hr).imp (fun ⟨h1, h2⟩ => ⟨by rw [h1]; rfl, h2⟩) id) h1 h2 w'
  simp [execOp, ho, Instr.sliceAt, Instr.slice, run_underlying hu, hva, e, hsz]
 | im n sz f b off cap c ee u hZ k1 k2 hbb hc hrr =>
  have e := fun w' => sliceB_run (P := P) (isS := true) (len := n) (cap := cap) (l := l) (h := h) (lo := lo.map a.eval) (hi := hi.map a.eval) (dl := (hl.run hr).imp (fun ⟨h1, h2⟩ => ⟨by rw [h1]; rfl, h2⟩) id) (dh := (hh.run hr).imp (fun ⟨h1, h2⟩ => ⟨by rw [h1]; rfl, h2⟩) id) h1 (by omega) w'
  by_cases hcl : cap = l
  ·subst hcl
   refine ⟨.slice (some ⟨b, off, none⟩) (h - cap) (cap - cap), fun w' hc => ?_, ?_⟩
   ·simp [execOp, ho, Instr.sliceAt, Instr.slice, run_underlying hu, hva, e w', hsz]
   ·have : h - cap = 0 := by omega
    rw [this]
    exact .im 0 sz _ b off _ c ee u hZ (by omega) (by omega) hbb (fun j hj => by omega) (fun j hj => by omega)
  ·refine ⟨.slice (some ⟨b, off + l * sz, none⟩) (h - l) (cap - l), fun w' hc => ?_, ?_⟩
   ·simp [execOp, ho, Instr.sliceAt, Instr.slice, run_underlying hu, hva, e w', hsz, hcl, Addr.add]
   ·have hle : ∀ j, j < (h - l) * sz → l * sz + j < n * sz := fun j hj => by
     have : (l + (h - l)) * sz ≤ n * sz := Nat.mul_le_mul_right _ (by omega)
     rw [Nat.add_mul] at this; omega
    refine .im (h - l) sz _ b (off + l * sz) (cap - l) c ee (fun j => u (l * sz + j)) hZ (by omega) (by omega) hbb (fun j hj => ?_) (fun j hj => hrr _ (hle j hj))
    rw [Nat.add_assoc]
    exact hc _ (hle j hj)
theorem getD_cut {α : Type} {xs : List α} {l h j : Nat} {d : α} (h2 : h ≤ xs.length) (hj : j < h - l) : ((xs.take h).drop l).getD j d = xs.getD (l + j) d := by
 simp only [List.getD_eq_getElem?_getD, List.getElem?_drop, List.getElem?_take]
 rw [if_pos (by omega)]
theorem len_cut {α : Type} {xs : List α} {l h : Nat} (h2 : h ≤ xs.length) : ((xs.take h).drop l).length = h - l := by simp; omega
section
variable {t e sz : Nat} {x : Operand} {lo hi : Option Operand} {l h : Nat}
theorem OpV.slice_strs {xs : List ByteArray} (ho : o.op = .slice t x lo hi none) (hu : P.underlying t = some (.slice e)) (hsz : ∀ w, (sizeOf e).run P w = .ok 1 w) (hx : evO s x = some (avStrs xs))
  (hl : BndO s lo 0 l) (hh : BndO s hi xs.length h) (h1 : l ≤ h) (h2 : h ≤ xs.length) : OpV P B W s o (avStrs ((xs.take h).drop l)) :=
 (OpV.slice_im ho hu hsz hx hl hh h1 h2).recast fun w Z u hr => by
  rw [avStrs, len_cut h2]
  exact hr.im_congr fun j hj => by rw [Nat.mul_one] at hj ⊢; rw [getD_cut h2 hj]
theorem OpV.slice_L {α : Type} [Inhabited α] [Sxc α] {xs : List α} (ho : o.op = .slice t x lo hi none) (hu : P.underlying t = some (.slice e)) (hsz : ∀ w, (sizeOf e).run P w = .ok (Sxc.k α) w) (hx : evO s x = some (avL xs))
  (hl : BndO s lo 0 l) (hh : BndO s hi xs.length h) (h1 : l ≤ h) (h2 : h ≤ xs.length) : OpV P B W s o (avL ((xs.take h).drop l)) :=
 (OpV.slice_im ho hu hsz hx hl hh h1 h2).recast fun w Z u hr => by
  rw [avL, len_cut h2]
  have hp := Sxc.pos (α := α)
  refine hr.im_congr fun j hj => ?_
  have e1 : (l * Sxc.k α + j) / Sxc.k α = l + j / Sxc.k α := by rw [Nat.add_comm, Nat.add_mul_div_right _ _ hp, Nat.add_comm]
  have e2 : (l * Sxc.k α + j) % Sxc.k α = j % Sxc.k α := by rw [Nat.add_comm, Nat.add_mul_mod_self_right]
  simp only [e1, e2]
  rw [getD_cut h2 (Nat.div_lt_of_lt_mul (by rw [Nat.mul_comm]; exact hj))]
end
theorem OpV.indexAddr_o {x y : Operand} {t e n g cap q : Nat} {k : IntKind} {i : Int} (ho : o.op = .indexAddr t x y) (hu : P.underlying t = some (.slice e)) (hsz : ∀ w, (sizeOf e).run P w = .ok 1 w)
  (hx : evO s x = some (.v (.slice (some ⟨g, 0, none⟩) n cap))) (hy : evO s y = some (.v (.int k i))) (hq : i = (q : Int)) (h1 : q < n) : OpV P B W s o (.v (.pointer (some ⟨g, q, none⟩))) := by
 subst hq
 have := OpV.indexAddr_v (B := B) (W := W) ho hu hsz hx hy (by omega) (by omega)
 simpa using this
theorem Le.rowI {t i n : Nat} {u : Value} {xs : List Int} {ty : TypeId} (hB : B.Ok) (hnew : True) (ht : look s.sl t = some (.v u)) (hi : s.hp[i]? = some (.row u n 1 (intsL xs) ty)) (hn : n = xs.length) : Le B s ⟨(t, avInts xs) :: s.sl, s.hp.eraseIdx i, s.k⟩ :=
 Le.row hB hnew ht hi fun w Z u h => Rep.ints hn h
theorem Le.rowS {t i n : Nat} {u : Value} {xs : List ByteArray} {ty : TypeId} (hB : B.Ok) (hnew : True) (ht : look s.sl t = some (.v u)) (hi : s.hp[i]? = some (.row u n 1 (strsL xs) ty)) (hn : n = xs.length) : Le B s ⟨(t, avStrs xs) :: s.sl, s.hp.eraseIdx i, s.k⟩ :=
 Le.row hB hnew ht hi fun w Z u h => Rep.strs hn h
theorem Le.rowT {α : Type} [Inhabited α] [Sxc α] {t i n : Nat} {u : Value} {xs : List α} {ty : TypeId} (hB : B.Ok) (hnew : True) (ht : look s.sl t = some (.v u)) (hi : s.hp[i]? = some (.row u n (Sxc.k α) (rowL xs) ty)) (hn : n = xs.length) : Le B s ⟨(t, avL xs) :: s.sl, s.hp.eraseIdx i, s.k⟩ :=
 Le.row hB hnew ht hi fun w Z u h => Rep.rowL hn h
theorem ArgP.rowI {x : Operand} {i n : Nat} {u : Value} {xs : List Int} {ty : TypeId} (hx : evO s x = some (.v u)) (hi : s.hp[i]? = some (.row u n 1 (intsL xs) ty)) (hn : n = xs.length) : ArgP P B s x (avInts xs) := ArgP.row hx hi fun w Z u h => Rep.ints hn h
theorem ArgP.rowS {x : Operand} {i n : Nat} {u : Value} {xs : List ByteArray} {ty : TypeId} (hx : evO s x = some (.v u)) (hi : s.hp[i]? = some (.row u n 1 (strsL xs) ty)) (hn : n = xs.length) : ArgP P B s x (avStrs xs) := ArgP.row hx hi fun w Z u h => Rep.strs hn h
theorem ArgP.rowT {α : Type} [Inhabited α] [Sxc α] {x : Operand} {i n : Nat} {u : Value} {xs : List α} {ty : TypeId} (hx : evO s x = some (.v u)) (hi : s.hp[i]? = some (.row u n (Sxc.k α) (rowL xs) ty)) (hn : n = xs.length) : ArgP P B s x (avL xs) := ArgP.row hx hi fun w Z u h => Rep.rowL hn h
theorem OpV.indexAddr_q {x y : Operand} {t e n sz g off cap q : Nat} {k : IntKind} {i : Int} (ho : o.op = .indexAddr t x y) (hu : P.underlying t = some (.slice e)) (hsz : ∀ w, (sizeOf e).run P w = .ok sz w)
  (hx : evO s x = some (.v (.slice (some ⟨g, off, none⟩) n cap))) (hy : evO s y = some (.v (.int k i))) (hq : i = (q : Int)) (h1 : q < n) : OpV P B W s o (.v (.pointer (some ⟨g, off + q * sz, none⟩))) := by
 subst hq
 have := OpV.indexAddr_v (B := B) (W := W) ho hu hsz hx hy (by omega) (by omega)
 simpa using this
end
def SpecR (P : Program) (F : FuncId) (xs : List AV) (n sz : Nat) (cs : List AV) (ty : TypeId) : Prop :=
 ∀ (w : World) (us : Array Value), Args w (fun _ => True) xs us → Calls P F us w fun e w' => ∃ u, e = .returned u ∧ EntR w' (fun _ => False) (.row u n sz cs ty) ∧ (∀ g, u.ownBlock = some g → w.heap.size ≤ g) ∧ Chg NoB w w'
section
variable {P : Program} {B : Bs} {W : Nat → Prop} {s : St'} {o : Oper} {K : St' → Prop} {a : Act} {w w' : World}
theorem R.newRow (hB : B.Ok) (hr : R B s a w) (hc : Chg NoB w w') {e : Ent} (hb : ∀ g, e.blk = some g → w.heap.size ≤ g) (hE : EntR w' (fun _ => False) e) : R B ⟨s.sl, s.hp ++ [e], s.k⟩ a w' := by
 have hEl := hE.lt
 have hz : ∀ b, Zn B s.hp w b → b < w.heap.size → w'.heap[b]? = w.heap[b]? ∧ Zn B (s.hp ++ [e]) w' b := fun b hb' hl => by
  refine ⟨hc.block b hl fun h => h, Nat.lt_of_lt_of_le hl hc.size, fun p hp => ?_, hb'.2.2⟩
  rcases List.mem_append.1 hp with hp | hp
  ·exact hb'.2.1 p hp
  ·simp at hp; subst hp; intro h; have := hb b h; omega
 have hw0 := hr.chg.size
 refine ⟨fun t x hx => (hr.slots t x hx).keep hz, hr.size, hr.defs, fun p hp => ?_, ?_, ?_, fun p hp g hg => ?_, hB.keep hr.res hc fun j _ h => h⟩
 ·rcases List.mem_append.1 hp with hp | hp
  ·exact (hr.blocks p hp).keep hz fun g hg => hc.block g (hr.lt p hp g hg) fun h => h
  ·simp at hp; subst hp; exact hE.keep (fun b h => h.elim) fun g hg => rfl
 ·refine Apart.of fun i j p q hij hi hj g hg hq => ?_
  by_cases hjl : j < s.hp.length
  ·rw [List.getElem?_append_left (by omega)] at hi
   rw [List.getElem?_append_left hjl] at hj
   exact hr.nodup.get hi hj (by omega) hg hq
  ·have hje : j = s.hp.length := by
    have := (List.getElem?_eq_some_iff.1 hj).1
    simp at this; omega
   rw [hje, List.getElem?_append_right (Nat.le_refl _)] at hj
   simp at hj
   subst hj
   rw [List.getElem?_append_left (by omega)] at hi
   have := hr.lt p (List.mem_of_getElem? hi) g hg
   have := hb g hq
   omega
 ·exact hr.chg.trans (hc.any)
 ·rcases List.mem_append.1 hp with hp | hp
  ·exact hr.own p hp g hg
  ·simp at hp; subst hp
   have := hb g hg
   exact ⟨fun h => by have := hB.low g h; omega, fun h => by omega⟩
theorem OpE.callR {f : FuncId} {args : Array Operand} {ts : Array TypeId} {xs : List AV} {n sz : Nat} {cs : List AV} {ty : TypeId} (ho : o.op = .call { callee := .value (.func f), args := args, argTypes := ts }) (hB : B.Ok) (hd : okd B.nt o.dst = true)
  (hcall : ∀ us w, (callFunc f us).run P w = .ok (.enter f us) w) (hspec : SpecR P f xs n sz cs ty) (hargs : ArgsP P B s args.toList xs) (hK : ∀ u, K ((St'.mk s.sl (s.hp ++ [.row u n sz cs ty]) s.k).put o.dst (.v u))) : OpE P B W s o K := by
 intro a w hr next Qx hn
 have hA : Args w (fun _ => True) xs (args.map a.eval) := by
  obtain ⟨k1, k2⟩ := ArgsP.args hr hargs
  refine ⟨by simpa using k1, fun j hj => ?_⟩
  rw [show (args.map a.eval).getD j undef = (args.toList.map a.eval).getD j undef by rw [Array.getD_eq_getD_getElem?, List.getD_eq_getElem?_getD]; simp]
  exact k2 j hj
 have h1 := hspec w _ hA
 unfold Oper.wp
 simp only [execOp, ho, resolve, Act.eval, Deferred.ofValue, Sem.run_bind, Sem.run_pure, Result.andThen_ok, invoke, hcall, Array.empty_append, Array.append_empty]
 simp only [Oper.upon]
 refine h1.mono fun e w' hret => ?_
 obtain ⟨u, rfl, h3, h4, h5⟩ := hret
 have hr' : R B ⟨s.sl, s.hp ++ [.row u n sz cs ty], s.k⟩ a w' := hr.newRow hB h5 h4 h3
 exact hn _ _ _ (hK u) (hr'.put _ hd _ _ (.v _)) (.ofN h5)
theorem VC.asBox {c : Code} {Q : Exit → St' → Prop} {i n sz : Nat} {u : Value} {cs : List AV} {ty : TypeId} (hi : s.hp[i]? = some (.row u n sz cs ty)) (hn : 0 < n)
  (h : ∀ g cap, u = .slice (some ⟨g, 0, none⟩) n cap → n ≤ cap → cap ≤ maxLen → VC P B c Q ⟨s.sl, s.hp.set i (.box g ⟨cs, ty, cap * sz⟩), s.k⟩) : VC P B c Q s := fun a w hr => by
 obtain ⟨g, cap, h1, h2, h3, h4⟩ := hr.rowBox hi hn
 exact h g cap h1 h2 h3 a w h4
end
section
variable {α : Type} [Inhabited α] [Sxc α]
theorem rowL_at {xs : List α} {q j k : Nat} (hk : k = Sxc.k α) (h : q < xs.length) (hj : j < k) : (rowL xs)[0 + q * k + j]? = some (Sxc.cell (xs.getD q default) j) := by
 subst hk; rw [Nat.zero_add]; exact rowL_get xs q j h hj
theorem rowL_set {xs : List α} {q j k : Nat} {v : AV} {x : α} (hk : k = Sxc.k α) (h : q < xs.length) (hj : j < k) (hv : v = Sxc.cell x j) (ho : ∀ i, i < k → i ≠ j → Sxc.cell (xs.getD q default) i = Sxc.cell x i) : (rowL xs).set (0 + q * k + j) v = rowL (xs.set q x) := by
 subst hk
 rw [Nat.zero_add]
 have hp := Sxc.pos (α := α)
 apply List.ext_getElem?
 intro i
 by_cases hi : i < xs.length * Sxc.k α
 ·have hd : i / Sxc.k α < xs.length := Nat.div_lt_of_lt_mul (by rw [Nat.mul_comm]; exact hi)
  have hm := Nat.mod_lt i hp
  have e : i = i / Sxc.k α * Sxc.k α + i % Sxc.k α := by rw [Nat.mul_comm]; exact (Nat.div_add_mod i _).symm
  have e1 := rowL_get xs (i / Sxc.k α) (i % Sxc.k α) hd hm
  have e2 := rowL_get (xs.set q x) (i / Sxc.k α) (i % Sxc.k α) (by rw [List.length_set]; exact hd) hm
  rw [← e] at e1 e2
  rw [e2, List.getElem?_set]
  by_cases hij : q * Sxc.k α + j = i
  ·have hq : i / Sxc.k α = q := by rw [← hij, Nat.add_comm, Nat.add_mul_div_right _ _ hp, Nat.div_eq_of_lt hj, Nat.zero_add]
   have hj' : i % Sxc.k α = j := by rw [← hij, Nat.add_comm, Nat.add_mul_mod_self_right, Nat.mod_eq_of_lt hj]
   rw [if_pos hij, if_pos (by rw [rowL_len, hij]; exact hi), hq, hj', hv]
   simp [h]
  ·rw [if_neg hij, e1]
   by_cases hq : i / Sxc.k α = q
   ·have hj' : i % Sxc.k α ≠ j := fun h' => hij (by rw [← hq, ← h']; exact e.symm)
    rw [hq]
    have := ho _ hm hj'
    simp [h] at this ⊢
    exact this
   ·congr 2
    simp only [List.getD_eq_getElem?_getD, List.getElem?_set]
    rw [if_neg (fun h => hq h.symm)]
 ·have l1 : ((rowL xs).set (q * Sxc.k α + j) v).length ≤ i := by rw [List.length_set, rowL_len]; omega
  have l2 : (rowL (xs.set q x)).length ≤ i := by rw [rowL_len, List.length_set]; omega
  rw [List.getElem?_eq_none l1, List.getElem?_eq_none l2]
theorem rowL_in {xs : List α} {q j k : Nat} (hk : k = Sxc.k α) (h : q < xs.length) (hj : j < k) : 0 + q * k + j < (rowL xs).length := by
 subst hk
 rw [rowL_len, Nat.zero_add]
 have : (q + 1) * Sxc.k α ≤ xs.length * Sxc.k α := Nat.mul_le_mul_right _ h
 rw [Nat.add_mul] at this
 omega
theorem Le.boxT {B : Bs} {s : St'} {t i n g cap : Nat} {xs : List α} {ty : TypeId} {tot : Nat} (hB : B.Ok) (hnew : True) (ht : look s.sl t = some (.v (.slice (some ⟨g, 0, none⟩) n cap))) (hi : s.hp[i]? = some (.box g ⟨rowL xs, ty, tot⟩)) (hn : n = xs.length) (hcap : n ≤ cap) (hm : cap ≤ maxLen) :
  Le B s ⟨(t, avL xs) :: s.sl, s.hp.eraseIdx i, s.k⟩ :=
 Le.box (n := n) (sz := Sxc.k α) hB hnew ht hi (by show 0 + n * Sxc.k α ≤ (rowL xs).length; rw [rowL_len]; rw [hn]; omega) hcap hm fun w Z u h => Rep.rowL hn (h.im_congr fun j hj => by rw [Nat.zero_add])
end
theorem Le.boxRow {B : Bs} {s : St'} {i g n cap sz : Nat} {cs : List AV} {ty : TypeId} (hi : s.hp[i]? = some (.box g ⟨cs, ty, cap * sz⟩)) (hl : cs.length = n * sz) (hn : n ≤ cap) (hm : cap ≤ maxLen) :
  Le B s ⟨s.sl, s.hp.set i (.row (.slice (some ⟨g, 0, none⟩) n cap) n sz cs ty), s.k⟩ := fun a w hr => by
 have hil := (List.getElem?_eq_some_iff.1 hi).1
 have key : ∀ (j : Nat) (p : Ent), (s.hp.set i (.row (.slice (some ⟨g, 0, none⟩) n cap) n sz cs ty))[j]? = some p → ∃ p', s.hp[j]? = some p' ∧ p'.blk = p.blk ∧ (p' = p ∨ (p' = .box g ⟨cs, ty, cap * sz⟩ ∧ p = .row (.slice (some ⟨g, 0, none⟩) n cap) n sz cs ty)) := fun j p hp => by
  rw [List.getElem?_set] at hp
  split at hp
  ·rename_i e
   subst e
   first | rw [if_pos hil] at hp | skip
   cases hp
   exact ⟨_, hi, rfl, .inr ⟨rfl, rfl⟩⟩
  ·exact ⟨p, hp, rfl, .inl rfl⟩
 have hZ : ∀ b, Zn B s.hp w b → Zn B (s.hp.set i (.row (.slice (some ⟨g, 0, none⟩) n cap) n sz cs ty)) w b := fun b hb => ⟨hb.1, fun p hp => by
  obtain ⟨j, hj⟩ := List.mem_iff_getElem?.1 hp
  obtain ⟨p', h1, h2, _⟩ := key j p hj
  rw [← h2]; exact hb.2.1 p' (List.mem_of_getElem? h1), hb.2.2⟩
 refine ⟨fun t x hx => (hr.slots t x hx).keep fun b hb _ => ⟨rfl, hZ b hb⟩, hr.size, hr.defs, fun p hp => ?_, ?_, hr.chg, fun p hp g' hg => ?_, hr.res⟩
 ·obtain ⟨j, hj⟩ := List.mem_iff_getElem?.1 hp
  obtain ⟨p', h1, h2, h3 | ⟨h3, h4⟩⟩ := key j p hj
  ·subst h3; exact (hr.blocks p' (List.mem_of_getElem? h1)).keep (fun b hb _ => ⟨rfl, hZ b hb⟩) fun g _ => rfl
  ·subst h3; subst h4
   obtain ⟨c, k1, k2, k3, k4⟩ := hr.blocks _ (List.mem_of_getElem? h1)
   exact ⟨hl, .inr ⟨g, cap, c, rfl, hn, hm, k1, k2, fun j hj => let ⟨u, q1, q2⟩ := k4 j hj; ⟨u, q1, q2.keep fun b hb _ => ⟨rfl, hZ b hb⟩⟩⟩⟩
 ·refine Apart.of fun j k p q hjk hp hq g' hg => ?_
  obtain ⟨p', h1, h2, _⟩ := key j p hp
  obtain ⟨q', h3, h4, _⟩ := key k q hq
  rw [← h4]
  exact hr.nodup.get h1 h3 (by omega) (h2.trans hg)
 ·obtain ⟨j, hj⟩ := List.mem_iff_getElem?.1 hp
  obtain ⟨p', h1, h2, _⟩ := key j p hj
  exact hr.own p' (List.mem_of_getElem? h1) g' (h2.trans hg)
def NewZ (B : Bs) (w : World) : Nat → Prop := fun b => b < w.heap.size ∧ (b < B.w0.heap.size → False)
def ResN (P : Program) (s : St') (r : ResultVar) (x : AV) : Prop := ∀ B a w, (∀ b, ¬ B.S b) → R B s a w → ∃ v, (resRun a.tmps r).run P w = .ok v w ∧ Rep w (NewZ B w) x v
def RetN (P : Program) (fn : Func) (s : St') (y : AV) : Prop := ∀ B a w, (∀ b, ¬ B.S b) → R B s a w → ∃ v, (results fn a.tmps).run P w = .ok v w ∧ Rep w (NewZ B w) y v
def FlatA (cs : List AV) : Prop := ∀ x ∈ cs, ∃ v, x = .v v
theorem flat_ints (xs : List Int) : FlatA (intsL xs) := fun x h => by obtain ⟨n, _, rfl⟩ := List.mem_map.1 h; exact ⟨_, rfl⟩
theorem flat_strs (xs : List ByteArray) : FlatA (strsL xs) := fun x h => by obtain ⟨n, _, rfl⟩ := List.mem_map.1 h; exact ⟨_, rfl⟩
theorem flat_bools (xs : List Bool) : FlatA (boolsL xs) := fun x h => by obtain ⟨n, _, rfl⟩ := List.mem_map.1 h; exact ⟨_, rfl⟩
theorem Rep.flat {w w' : World} {Z Z' : Nat → Prop} {x : AV} {u : Value} (h : Rep w Z x u) (hx : ∃ v, x = .v v) : Rep w' Z' x u := by
 obtain ⟨v, rfl⟩ := hx
 rw [h.eq_v]; exact .v v
section
variable {P : Program} {s : St'} {fn : Func} {r1 r2 r3 r4 : ResultVar} {x1 x2 x3 x4 : AV}
theorem ResN.v {t : Nat} {x : Value} (h : look s.sl t = some (.v x)) : ResN P s (.tmp t) (.v x) := fun B a w hS hr => ⟨_, rfl, (hr.slots t _ h).flat ⟨_, rfl⟩⟩
theorem ResN.row {t i n sz : Nat} {u : Value} {cs : List AV} {ty : TypeId} {y : AV} (h : look s.sl t = some (.v u)) (hi : s.hp[i]? = some (.row u n sz cs ty)) (hf : FlatA cs)
  (hy : ∀ w Z u, Rep w Z (.im n sz fun j => cs.getD j .any) u → Rep w Z y u) : ResN P s (.tmp t) y := fun B a w hS hr => by
 refine ⟨_, rfl, ?_⟩
 have he := List.mem_of_getElem? hi
 show Rep w (NewZ B w) y (a.tmps.getD t undef)
 rw [(hr.slots t _ h).eq_v]
 refine hy _ _ _ ?_
 have hn := fun g hg => hr.isNew hS he (g := g) hg
 obtain ⟨h0, ⟨rfl, rfl⟩ | ⟨g, cap, c, rfl, h1, h2, h3, h4, h5⟩⟩ := hr.blocks _ he
 ·exact .nil _ _
 ·refine .im n sz _ g 0 cap c ty (fun j => c.getD j undef) ⟨(Array.getElem?_eq_some_iff.1 h3).1, fun hl => hn g rfl hl⟩ h1 h2 h3 (fun j hj => ?_) fun j hj => ?_
  ·obtain ⟨x, k1, _⟩ := h5 j (by omega)
   rw [Nat.zero_add]
   exact getD_lt (Array.getElem?_eq_some_iff.1 k1).1
  ·obtain ⟨x, k1, k2⟩ := h5 j (by omega)
   rw [List.getD_eq_getElem?_getD, List.getElem?_eq_getElem (by omega)]
   rw [show c.getD j undef = x by rw [Array.getD_eq_getD_getElem?, k1]; rfl]
   exact k2.flat (hf _ (List.getElem_mem _))
theorem ResN.box {t i n sz g cap : Nat} {o' : Own'} {y : AV} (h : look s.sl t = some (.v (.slice (some ⟨g, 0, none⟩) n cap))) (hi : s.hp[i]? = some (.box g o')) (hl : n * sz ≤ o'.cs.length) (hnc : n ≤ cap) (hm : cap ≤ maxLen) (hf : FlatA o'.cs)
  (hy : ∀ w Z u, Rep w Z (.im n sz fun j => o'.cs.getD j .any) u → Rep w Z y u) : ResN P s (.tmp t) y := fun B a w hS hr => by
 refine ⟨_, rfl, ?_⟩
 have he := List.mem_of_getElem? hi
 show Rep w (NewZ B w) y (a.tmps.getD t undef)
 rw [(hr.slots t _ h).eq_v]
 refine hy _ _ _ ?_
 have hn := hr.isNew hS he (g := g) rfl
 obtain ⟨c, h1, h2, h3, h4⟩ := hr.blocks _ he
 refine .im n sz _ g 0 cap c o'.ty (fun j => c.getD j undef) ⟨(Array.getElem?_eq_some_iff.1 h1).1, fun hl => hn hl⟩ hnc hm h1 (fun j hj => ?_) fun j hj => ?_
 ·obtain ⟨x, k1, _⟩ := h4 j (by omega)
  rw [Nat.zero_add]
  exact getD_lt (Array.getElem?_eq_some_iff.1 k1).1
 ·obtain ⟨x, k1, k2⟩ := h4 j (by omega)
  rw [List.getD_eq_getElem?_getD, List.getElem?_eq_getElem (by omega)]
  rw [show c.getD j undef = x by rw [Array.getD_eq_getD_getElem?, k1]; rfl]
  exact k2.flat (hf _ (List.getElem_mem _))
theorem ResN.rowI {t i n : Nat} {u : Value} {xs : List Int} {ty : TypeId} (h : look s.sl t = some (.v u)) (hi : s.hp[i]? = some (.row u n 1 (intsL xs) ty)) (hn : n = xs.length) : ResN P s (.tmp t) (avInts xs) :=
 ResN.row h hi (flat_ints xs) fun w Z u h => Rep.ints hn h
theorem ResN.rowS {t i n : Nat} {u : Value} {xs : List ByteArray} {ty : TypeId} (h : look s.sl t = some (.v u)) (hi : s.hp[i]? = some (.row u n 1 (strsL xs) ty)) (hn : n = xs.length) : ResN P s (.tmp t) (avStrs xs) :=
 ResN.row h hi (flat_strs xs) fun w Z u h => Rep.strs hn h
theorem RetN.one (h : fn.results = #[r1]) (h1 : ResN P s r1 x1) : RetN P fn s x1 := fun B a w hS hr => by
 obtain ⟨v1, k1, q1⟩ := h1 B a w hS hr
 exact ⟨v1, by simp [results_eq, h, k1], q1⟩
theorem RetN.two (h : fn.results = #[r1, r2]) (h1 : ResN P s r1 x1) (h2 : ResN P s r2 x2) : RetN P fn s (.tup [x1, x2]) := fun B a w hS hr => by
 obtain ⟨v1, k1, q1⟩ := h1 B a w hS hr
 obtain ⟨v2, k2, q2⟩ := h2 B a w hS hr
 refine ⟨.tuple #[v1, v2], by simp [results_eq, h, k1, k2], .tup _ _ rfl fun j hj => ?_⟩
 match j, hj with
 | 0, _ => exact q1
 | 1, _ => exact q2
theorem RetN.three (h : fn.results = #[r1, r2, r3]) (h1 : ResN P s r1 x1) (h2 : ResN P s r2 x2) (h3 : ResN P s r3 x3) : RetN P fn s (.tup [x1, x2, x3]) := fun B a w hS hr => by
 obtain ⟨v1, k1, q1⟩ := h1 B a w hS hr
 obtain ⟨v2, k2, q2⟩ := h2 B a w hS hr
 obtain ⟨v3, k3, q3⟩ := h3 B a w hS hr
 refine ⟨.tuple #[v1, v2, v3], by simp [results_eq, h, k1, k2, k3], .tup _ _ rfl fun j hj => ?_⟩
 match j, hj with
 | 0, _ => exact q1
 | 1, _ => exact q2
 | 2, _ => exact q3
theorem RetN.four (h : fn.results = #[r1, r2, r3, r4]) (h1 : ResN P s r1 x1) (h2 : ResN P s r2 x2) (h3 : ResN P s r3 x3) (h4 : ResN P s r4 x4) : RetN P fn s (.tup [x1, x2, x3, x4]) := fun B a w hS hr => by
 obtain ⟨v1, k1, q1⟩ := h1 B a w hS hr
 obtain ⟨v2, k2, q2⟩ := h2 B a w hS hr
 obtain ⟨v3, k3, q3⟩ := h3 B a w hS hr
 obtain ⟨v4, k4, q4⟩ := h4 B a w hS hr
 refine ⟨.tuple #[v1, v2, v3, v4], by simp [results_eq, h, k1, k2, k3, k4], .tup _ _ rfl fun j hj => ?_⟩
 match j, hj with
 | 0, _ => exact q1
 | 1, _ => exact q2
 | 2, _ => exact q3
 | 3, _ => exact q4
end
def retN (P : Program) (fn : Func) (G : AV → Prop) (e : Exit) (s : St') : Prop :=
 match e with
 | .normal => ∃ y, RetN P fn s y ∧ G y
 | .ret => ∃ y, RetN P fn s y ∧ G y
 | _ => False
theorem SpecN.of_VCN {P : Program} {F : FuncId} {fn : Func} {c : Code} (hf : P.funcs[F]? = some fn) (hb : fn.body = some c) {xs : List AV} {G : AV → Prop} {nt : Nat} (hn : fn.ntmps = nt) (hle : xs.length ≤ nt)
  (h : ∀ w A, (B0 w A nt).Ok → VC P (B0 w A nt) c (retN P fn G) ⟨slots0 0 xs, [], 0⟩) : SpecN P F xs G := fun w us ha => by
 subst hn
 have hus : us.size ≤ fn.ntmps := by rw [ha.1]; exact hle
 have hS : ∀ b, ¬ (B0 w (fun _ => True) fn.ntmps).S b := fun _ h => h
 refine calls_of_wp hf hb (Code.wp_mono (fun e a w' hq => ?_) (h w (fun _ => True) (B0.ok _ _ _) _ w (by
  have := R.start (B := B0 w (fun _ => True) fn.ntmps) (k := 0) rfl ha (fun _ h => h.elim) trivial (by show fn.ntmps = us.size + (fn.ntmps - us.size); omega)
  exact this)))
 obtain ⟨s, hq, hr⟩ := hq
 cases e with
 | normal =>
  obtain ⟨y, h1, h2⟩ := hq
  obtain ⟨v, h3, h4⟩ := h1 _ a w' hS hr
  exact ⟨hr.defs, v, h3, y, v, h2, rfl, h4, hr.chg, trivial⟩
 | ret =>
  obtain ⟨y, h1, h2⟩ := hq
  obtain ⟨v, h3, h4⟩ := h1 _ a w' hS hr
  exact ⟨hr.defs, v, h3, y, v, h2, rfl, h4, hr.chg, trivial⟩
 | exit id => exact hq.elim
 | goto l => exact hq.elim
 | panic c => exact hq.elim
 | outgrown => exact hq.elim
end
section
section
variable {P : Program} {B : Bs} {W : Nat → Prop} {s : St'} {o : Oper} {K : St' → Prop} {Q : Exit → St' → Prop} {a : Act} {w : World}
theorem OpV.convStr {t u : TypeId} {x : Operand} {k : IntKind} {n : Int} (ho : o.op = .convert t u x) (h1 : P.underlying t = some (.int k)) (h2 : P.underlying u = some .string) (hx : evO s x = some (.v (.int k n))) : OpV P B W s o (avS (Utf8.encode n)) :=
 OpV.conc (fun a w hr w' hcw => by simp [execOp, ho, hr.evv hx, convert, run_underlying h1, run_underlying h2, Conv.intToString])
theorem R.perm (hr : R B s a w) {hp : List Ent} (h : s.hp.Perm hp) : R B ⟨s.sl, hp, s.k⟩ a w := by
 have hm : ∀ p, p ∈ hp ↔ p ∈ s.hp := fun p => (h.mem_iff).symm
 have hZ : ∀ b, Zn B s.hp w b → Zn B hp w b := fun b hb => ⟨hb.1, fun p hp => hb.2.1 p ((hm p).1 hp), hb.2.2⟩
 refine ⟨fun t x hx => (hr.slots t x hx).keep fun b hb _ => ⟨rfl, hZ b hb⟩, hr.size, hr.defs, fun p hp => ?_, ?_, hr.chg, fun p hp g hg => hr.own p ((hm p).1 hp) g hg, hr.res⟩
 ·exact (hr.blocks p ((hm p).1 hp)).keep (fun b hb _ => ⟨rfl, hZ b hb⟩) fun g _ => rfl
 ·refine (h.pairwise_iff ?_).1 hr.nodup
  intro p q hpq g hg hq
  exact hpq g hq hg
theorem Le.perm {hp : List Ent} (h : s.hp.Perm hp) : Le B s ⟨s.sl, hp, s.k⟩ := fun a w hr => hr.perm h
theorem Le.mkP {sl : List (Nat × AV)} {hp hp1 : List Ent} {k : Nat} (hB : B.Ok) (h1 : LeL s.sl sl) (h2 : hp1.Sublist s.hp) (h3 : hp1.Perm hp) (hk : s.k ≤ k) : Le B s ⟨sl, hp, k⟩ := fun a w hr => by
 have hr1 : R B ⟨sl, hp1, s.k⟩ a w := hr.drop (LeL.look h1) h2
 have hr2 : R B ⟨sl, hp, s.k⟩ a w := hr1.perm h3
 exact ⟨hr2.slots, hr2.size, hr2.defs, hr2.blocks, hr2.nodup, hr2.chg, hr2.own, hB.up hr2.res hk⟩
theorem Le.front {hp : List Ent} {e : Ent} (h : s.hp = hp ++ [e]) : Le B s ⟨s.sl, e :: hp, s.k⟩ := Le.perm (by rw [h]; exact List.perm_append_comm)
theorem OpE.know {K2 : St' → Prop} (h : OpE P B W s o K2) (hk : ∀ s' a w, K2 s' → R B s' a w → K s') : OpE P B W s o K := fun a w hr next Qx hn =>
 h a w hr next Qx fun s' a' w' h1 h2 h3 => hn s' a' w' (hk s' a' w' h1 h2) h2 h3
theorem R.rowIs (hr : R B s a w) {i n sz : Nat} {u : Value} {cs : List AV} {ty : TypeId} (hi : s.hp[i]? = some (.row u n sz cs ty)) : ∃ b c, u = .slice b n c := by
 obtain ⟨_, ⟨rfl, rfl⟩ | ⟨g, cap, c, rfl, _⟩⟩ := hr.blocks _ (List.mem_of_getElem? hi)
 ·exact ⟨none, 0, rfl⟩
 ·exact ⟨_, cap, rfl⟩
theorem OpE.append1S {x y : Operand} {T e i n sz bytes : Nat} {u z : Value} {cs cs' : List AV} {F : Nat → AV} (ho : o.op = .call { callee := .builtin .append, args := #[x, y], argTypes := #[T, T] }) (hB : B.Ok) (hd : okd B.nt o.dst = true)
  (hu : P.underlying T = some (.slice e)) (hinfo : (P.info? e).map (fun i => (i.zero, i.size, i.bytes)) = some (some z, sz, bytes)) (hz : z.cells.size = sz) (hsz : 0 < sz) (hby : bytes ≤ 4096)
  (hx : evO s x = some (.v u)) (hi : s.hp[i]? = some (.row u n sz cs e)) (hy : evO s y = some (.im 1 sz F)) (hone : (tab sz F).all AV.one = true) (hcs : cs ++ tab sz F = cs') (hlen : n + 1 ≤ 10000000000) (hW : ∀ g, u.ownBlock = some g → W g)
  (hK : ∀ b c, K ((St'.mk s.sl (s.hp.set i (.row (.slice b (n + 1) c) (n + 1) sz cs' e)) s.k).put o.dst (.v (.slice b (n + 1) c)))) : OpE P B W s o K := by
 refine OpE.know (K2 := fun s' => ∃ u', s' = (St'.mk s.sl (s.hp.set i (.row u' (n + 1) sz cs' e)) s.k).put o.dst (.v u')) (OpE.append1 ho hB hd hu hinfo hz hsz hby hx hi hy hone hcs hlen hW fun u' => ⟨u', rfl⟩) ?_
 rintro s' a w ⟨u', rfl⟩ hr
 have hil := (List.getElem?_eq_some_iff.1 hi).1
 obtain ⟨b, c, rfl⟩ := R.rowIs hr (i := i) (u := u') (n := n + 1) (sz := sz) (cs := cs') (ty := e) (by
  have : ((St'.mk s.sl (s.hp.set i (.row u' (n + 1) sz cs' e)) s.k).put o.dst (.v u')).hp = s.hp.set i (.row u' (n + 1) sz cs' e) := by cases o.dst <;> rfl
  rw [this, List.getElem?_set, if_pos rfl, if_pos hil])
 exact hK b c
end
end
section
def BlkL (hp : List Ent) (b : Nat) : Prop := ∃ e ∈ hp, e.blk = some b
def Zh (w : World) (A : Nat → Prop) (hp hp' : List Ent) (w' : World) : Nat → Prop := fun b => b < w'.heap.size ∧ ¬ BlkL hp' b ∧ (b < w.heap.size → A b ∨ BlkL hp b)
def SpecH (P : Program) (F : FuncId) (xs : List AV) (hp : List Ent) (G : AV → List Ent → Prop) : Prop :=
 ∀ (w : World) (A : Nat → Prop) (us : Array Value), Args w A xs us → Apart hp → (∀ b, BlkL hp b → ¬ A b) → (∀ e ∈ hp, EntR w (fun b => b < w.heap.size ∧ A b) e) →
  Calls P F us w fun e w' => ∃ y v hp', G y hp' ∧ e = .returned v ∧ Apart hp' ∧ Rep w' (Zh w A hp hp' w') y v ∧ (∀ e ∈ hp', EntR w' (Zh w A hp hp' w') e) ∧
   (∀ b, BlkL hp' b → b < w.heap.size → BlkL hp b) ∧ Chg (BlkL hp) w w'
theorem SpecH.mono {P : Program} {F : FuncId} {xs : List AV} {hp : List Ent} {G G' : AV → List Ent → Prop} (h : SpecH P F xs hp G) (hg : ∀ y hp', G y hp' → G' y hp') : SpecH P F xs hp G' := fun w A us h1 h2 h3 h4 =>
 (h w A us h1 h2 h3 h4).mono fun e w' ⟨y, v, hp', k1, k2⟩ => ⟨y, v, hp', hg _ _ k1, k2⟩
theorem SpecN.ofRow {P : Program} {F : FuncId} {xs : List AV} {n sz : Nat} {cs : List AV} {ty : TypeId} {Y : AV} (h : SpecH P F xs [] fun y hp' => ∃ u, y = .v u ∧ hp' = [.row u n sz cs ty]) (hf : FlatA cs)
    (hy : ∀ w Z u, Rep w Z (.im n sz fun j => cs.getD j .any) u → Rep w Z Y u) : SpecN P F xs fun y => y = Y := fun w us ha =>
  (h w (fun _ => True) us ha List.Pairwise.nil (fun b ⟨e, he, _⟩ => by cases he) (fun e he => by cases he)).mono fun e w' ⟨y, v, hp', ⟨u, h1, h2⟩, h3, h4, h5, h6, h7, h8⟩ => by
    subst h1; subst h2; subst h3
    have hv := h5.eq_v
    subst hv
    refine ⟨Y, _, rfl, rfl, hy _ _ _ ?_, h8.mono fun b _ ⟨e, he, _⟩ => (by cases he), trivial⟩
    have hE := h6 _ (List.mem_cons_self ..)
    obtain ⟨h0, ⟨rfl, rfl⟩ | ⟨g, cap, c, rfl, k1, k2, k3, k4, k5⟩⟩ := hE
    · exact .nil _ _
    · refine .im n sz _ g 0 cap c ty (fun j => c.getD j undef) ⟨(Array.getElem?_eq_some_iff.1 k3).1, fun hl => ?_⟩ k1 k2 k3 (fun j hj => ?_) fun j hj => ?_
      · obtain ⟨e, he, _⟩ := h7 g ⟨_, List.mem_cons_self .., rfl⟩ hl
        cases he
      · obtain ⟨x, q1, _⟩ := k5 j (by omega)
        rw [Nat.zero_add]
        exact getD_lt (Array.getElem?_eq_some_iff.1 q1).1
      · obtain ⟨x, q1, q2⟩ := k5 j (by omega)
        rw [List.getD_eq_getElem?_getD, List.getElem?_eq_getElem (by omega)]
        rw [show c.getD j undef = x by rw [Array.getD_eq_getD_getElem?, q1]; rfl]
        obtain ⟨v, hv⟩ := hf _ (List.getElem_mem (by omega : j < cs.length))
        simp only [Option.getD_some]
        rw [hv] at q2 ⊢
        rw [q2.eq_v]
        exact .v _
def Bh (w : World) (A : Nat → Prop) (nt : Nat) (hp : List Ent) : Bs := ⟨w, BlkL hp, A, nt, NoB, NoB, fun _ _ => True⟩
theorem Bh.ok (w : World) (A : Nat → Prop) (nt : Nat) (hp : List Ent) : (Bh w A nt hp).Ok := ⟨fun _ _ _ => trivial, fun _ h => h.elim, fun _ h => h.elim, fun _ _ => trivial⟩
theorem R.startH {w : World} {A : Nat → Prop} {nt : Nat} {hp : List Ent} {xs : List AV} {us : Array Value} (hA : Args w A xs us) (h1 : Apart hp) (h2 : ∀ b, BlkL hp b → ¬ A b) (h3 : ∀ e ∈ hp, EntR w (fun b => b < w.heap.size ∧ A b) e) (hn : nt = us.size + (nt - us.size)) :
  R (Bh w A nt hp) ⟨slots0 0 xs, hp, 0⟩ { tmps := us ++ Array.replicate (nt - us.size) undef, defers := [] } w := by
 have hZ : ∀ b, (b < w.heap.size ∧ A b) → Zn (Bh w A nt hp) hp w b := fun b hb => ⟨hb.1, fun p hp' hpb => h2 b ⟨p, hp', hpb⟩ hb.2, fun _ => ⟨.inl hb.2, fun h => h⟩⟩
 refine ⟨fun t x ht => ?_, by simp [Bh]; omega, rfl, fun p hp' => (h3 p hp').keep (fun b hb _ => ⟨rfl, hZ b hb⟩) fun g _ => rfl, h1, Chg.refl _ _, fun p hp' g hg => ⟨fun h => h, fun _ => ⟨p, hp', hg⟩⟩, trivial⟩
 obtain ⟨⟨_, k2⟩, k3⟩ := slots0_look xs 0 t x ht
 simp at k2 k3
 have hlt : t < us.size := by rw [hA.1]; exact k2
 have := hA.2 t k2
 rw [k3] at this
 rw [show (us ++ Array.replicate (nt - us.size) undef).getD t undef = us.getD t undef by
  rw [Array.getD_eq_getD_getElem?, Array.getD_eq_getD_getElem?, Array.getElem?_append_left hlt]]
 exact this.keep fun b hb _ => ⟨rfl, hZ b hb⟩
theorem SpecH.of_VC {P : Program} {F : FuncId} {fn : Func} {c : Code} (hf : P.funcs[F]? = some fn) (hb : fn.body = some c) {xs : List AV} {hp : List Ent} {G : AV → List Ent → Prop} {nt : Nat} (hn : fn.ntmps = nt) (hle : xs.length ≤ nt)
  (h : ∀ w A, (Bh w A nt hp).Ok → VC P (Bh w A nt hp) c (retS P fn fun y s => G y s.hp) ⟨slots0 0 xs, hp, 0⟩) : SpecH P F xs hp G := fun w A us ha h1 h2 h3 => by
 have hus : us.size ≤ fn.ntmps := by rw [ha.1, hn]; exact hle
 refine calls_of_wp hf hb (Code.wp_mono (fun e a w' hq => ?_) (h w A (Bh.ok _ _ _ _) _ w (by
  have := R.startH (nt := nt) ha h1 h2 h3 (by omega)
  rwa [hn])))
 obtain ⟨s, hq, hr⟩ := hq
 have key : ∀ y v, G y s.hp → Rep w' (Zn (Bh w A nt hp) s.hp w') y v → ∃ y v' hp', G y hp' ∧ Ending.returned v = .returned v' ∧ Apart hp' ∧ Rep w' (Zh w A hp hp' w') y v' ∧ (∀ e ∈ hp', EntR w' (Zh w A hp hp' w') e) ∧
   (∀ b, BlkL hp' b → b < w.heap.size → BlkL hp b) ∧ Chg (BlkL hp) w w' := fun y v hG hv => by
  have hZ : ∀ b, Zn (Bh w A nt hp) s.hp w' b → Zh w A hp s.hp w' b := fun b hb => ⟨hb.1, fun ⟨p, hp1, hp2⟩ => hb.2.1 p hp1 hp2, fun hl => (hb.2.2 hl).1⟩
  exact ⟨y, v, s.hp, hG, rfl, hr.nodup, hv.keep fun b hb _ => ⟨rfl, hZ b hb⟩, fun p hp' => (hr.blocks p hp').keep (fun b hb _ => ⟨rfl, hZ b hb⟩) fun g _ => rfl, fun b ⟨p, hp1, hp2⟩ hl => (hr.own p hp1 b hp2).2 hl, hr.chg⟩
 cases e with
 | normal =>
  obtain ⟨y, k1, k2⟩ := hq
  obtain ⟨v, k3, k4⟩ := k1 _ a w' hr
  exact ⟨hr.defs, v, k3, key y v k2 k4⟩
 | ret =>
  obtain ⟨y, k1, k2⟩ := hq
  obtain ⟨v, k3, k4⟩ := k1 _ a w' hr
  exact ⟨hr.defs, v, k3, key y v k2 k4⟩
 | exit id => exact hq.elim
 | goto l => exact hq.elim
 | panic c => exact hq.elim
 | outgrown => exact hq.elim
section
variable {P : Program} {B : Bs} {W : Nat → Prop} {s : St'} {o : Oper} {K : St' → Prop} {a : Act} {w w' : World}
theorem BlkL.append {hp hp2 : List Ent} {b : Nat} : BlkL (hp ++ hp2) b ↔ BlkL hp b ∨ BlkL hp2 b := by
 constructor
 ·rintro ⟨e, he, hb⟩
  rcases List.mem_append.1 he with he | he
  ·exact .inl ⟨e, he, hb⟩
  ·exact .inr ⟨e, he, hb⟩
 ·rintro (⟨e, he, hb⟩ | ⟨e, he, hb⟩)
  ·exact ⟨e, List.mem_append_left _ he, hb⟩
  ·exact ⟨e, List.mem_append_right _ he, hb⟩
theorem R.afterH (hB : B.Ok) {hp rest hp' : List Ent} (hr : R B ⟨s.sl, hp ++ rest, s.k⟩ a w) (hap : Apart hp') (hE : ∀ e ∈ hp', EntR w' (Zh w (Zo B (hp ++ rest)) hp hp' w') e) (hbl : ∀ b, BlkL hp' b → b < w.heap.size → BlkL hp b) (hc : Chg (BlkL hp) w w') :
  R B ⟨s.sl, hp' ++ rest, s.k⟩ a w' ∧ ∀ b, Zh w (Zo B (hp ++ rest)) hp hp' w' b → Zn B (hp' ++ rest) w' b := by
 have hcross : ∀ p ∈ hp, ∀ q ∈ rest, ∀ g, p.blk = some g → q.blk ≠ some g := by
  have := hr.nodup
  unfold Apart at this
  rw [List.pairwise_append] at this
  exact this.2.2
 have hnr : ∀ b, BlkL rest b → ¬ BlkL hp b := fun b ⟨q, hq, hqb⟩ ⟨p, hp1, hpb⟩ => hcross p hp1 q hq b hpb hqb
 have hlt : ∀ b, BlkL rest b → b < w.heap.size := fun b ⟨q, hq, hqb⟩ => hr.lt q (List.mem_append_right _ hq) b hqb
 have hnr' : ∀ b, BlkL rest b → ¬ BlkL hp' b := fun b h1 h2 => hnr b h1 (hbl b h2 (hlt b h1))
 have hw0 := hr.chg.size
 have hownp : ∀ b, BlkL hp b → ¬ B.low b ∧ (b < B.w0.heap.size → B.S b) := fun b ⟨p, hp1, hpb⟩ => hr.own p (List.mem_append_left _ hp1) b hpb
 have hz1 : ∀ b, Zn B (hp ++ rest) w b → b < w.heap.size → w'.heap[b]? = w.heap[b]? ∧ Zn B (hp' ++ rest) w' b := fun b hb hl => by
  have n1 : ¬ BlkL (hp ++ rest) b := fun ⟨p, hp1, hpb⟩ => hb.2.1 p hp1 hpb
  have n2 : ¬ BlkL hp b := fun h => n1 (BlkL.append.2 (.inl h))
  refine ⟨hc.block b hl n2, Nat.lt_of_lt_of_le hl hc.size, fun p hp1 hpb => ?_, hb.2.2⟩
  rcases List.mem_append.1 hp1 with h | h
  ·exact n2 (hbl b ⟨p, h, hpb⟩ hl)
  ·exact n1 (BlkL.append.2 (.inr ⟨p, h, hpb⟩))
 have hz2 : ∀ b, Zh w (Zo B (hp ++ rest)) hp hp' w' b → Zn B (hp' ++ rest) w' b := fun b hb => by
  refine ⟨hb.1, fun p hp1 hpb => ?_, fun h0 => ?_⟩
  ·rcases List.mem_append.1 hp1 with h | h
   ·exact hb.2.1 ⟨p, h, hpb⟩
   ·have hr1 : BlkL rest b := ⟨p, h, hpb⟩
    rcases hb.2.2 (hlt b hr1) with h' | h'
    ·exact h'.1 p (List.mem_append_right _ h) hpb
    ·exact hnr b hr1 h'
  ·rcases hb.2.2 (Nat.lt_of_lt_of_le h0 hw0) with h' | h'
   ·exact h'.2 h0
   ·obtain ⟨k1, k2⟩ := hownp b h'
    exact ⟨.inr (k2 h0), fun hs => k1 (hB.str b hs).1⟩
 refine ⟨⟨fun t x hx => (hr.slots t x hx).keep hz1, hr.size, hr.defs, fun p hp1 => ?_, ?_, ?_, fun p hp1 g hg => ?_, hB.keep hr.res hc fun j hj h => (hownp j h).1 hj⟩, hz2⟩
 ·rcases List.mem_append.1 hp1 with h | h
  ·exact (hE p h).keep (fun b hb _ => ⟨rfl, hz2 b hb⟩) fun g _ => rfl
  ·exact (hr.blocks p (List.mem_append_right _ h)).keep hz1 fun g hg => hc.block g (hlt g ⟨p, h, hg⟩) (hnr g ⟨p, h, hg⟩)
 ·have hn := hr.nodup
  unfold Apart at hn ⊢
  rw [List.pairwise_append] at hn ⊢
  exact ⟨hap, hn.2.1, fun p hp1 q hq g hpg hqg => hnr' g ⟨q, hq, hqg⟩ ⟨p, hp1, hpg⟩⟩
 ·exact ((hr.chg.mono (S' := fun b => B.S b ∨ BlkL hp b) fun b _ h => .inl h).trans (hc.mono fun b _ h => .inr h)).mono fun b hb0 h => h.elim id fun h => (hownp b h).2 hb0
 ·rcases List.mem_append.1 hp1 with h | h
  ·by_cases hl : g < w.heap.size
   ·exact hownp g (hbl g ⟨p, h, hg⟩ hl)
   ·exact ⟨fun hlow => hl (Nat.lt_of_lt_of_le (hB.low g hlow) hw0), fun h0 => absurd (Nat.lt_of_lt_of_le h0 hw0) hl⟩
  ·exact hr.own p (List.mem_append_right _ h) g hg
theorem OpE.callH {f : Operand} {F : FuncId} {caps : Array Value} {args : Array Operand} {ts : Array TypeId} {xs : List AV} {hp rest : List Ent} {G : AV → List Ent → Prop} (ho : o.op = .call { callee := .value f, args := args, argTypes := ts }) (hB : B.Ok) (hd : okd B.nt o.dst = true)
  (hcall : ∀ us w, (callFunc F us).run P w = .ok (.enter F us) w) (hf : evO s f = some (.v (.func (.func F) #[] caps))) (hxs : evL s args.toList = some xs) (hspec : SpecH P F (xs ++ caps.toList.map .v) hp G) (hsp : s.hp.Perm (hp ++ rest)) (hW : ∀ b, BlkL hp b → W b)
  (hK : ∀ y hp', G y hp' → K ((St'.mk s.sl (hp' ++ rest) s.k).put o.dst y)) : OpE P B W s o K := by
 intro a w hr next Qx hn
 have hr1 := hr.perm hsp
 have hA : Args w (Zo B (hp ++ rest)) (xs ++ caps.toList.map .v) (args.map a.eval ++ caps) := by
  have ha := evL_args hr hxs
  have hZo : ∀ b, Zo B s.hp b → Zo B (hp ++ rest) b := fun b hb => ⟨fun p hp1 => hb.1 p (hsp.mem_iff.2 hp1), hb.2⟩
  refine ⟨by simp [ha.1], fun j hj => ?_⟩
  by_cases hjx : j < xs.length
  ·rw [List.getElem_append_left hjx]
   have hlt : j < (args.map a.eval).size := by rw [ha.1]; exact hjx
   have : (args.map a.eval ++ caps).getD j undef = (args.map a.eval).getD j undef := by
    rw [Array.getD_eq_getD_getElem?, Array.getD_eq_getD_getElem?, Array.getElem?_append_left hlt]
   rw [this]
   exact (ha.2 j hjx).keep fun b hb _ => ⟨rfl, hb.1, hZo b hb.2⟩
  ·rw [List.getElem_append_right (by omega)]
   have hj' : j - xs.length < caps.size := by rw [List.length_append] at hj; simp at hj; omega
   have : (args.map a.eval ++ caps).getD j undef = caps.getD (j - xs.length) undef := by
    rw [Array.getD_eq_getD_getElem?, Array.getD_eq_getD_getElem?, Array.getElem?_append_right (by rw [ha.1]; omega), ha.1]
   rw [this, Array.getD_eq_getD_getElem?, Array.getElem?_eq_getElem hj']
   simp
   exact .v _
 have hap := hr1.nodup
 unfold Apart at hap
 rw [List.pairwise_append] at hap
 have h1 := hspec w (Zo B (hp ++ rest)) _ hA hap.1 (fun b ⟨p, hp1, hpb⟩ h => h.1 p (List.mem_append_left _ hp1) hpb) fun e he => (hr1.blocks e (List.mem_append_left _ he)).keep (fun b hb _ => ⟨rfl, hb.1, hb.2⟩) fun g _ => rfl
 unfold Oper.wp
 simp only [execOp, ho, resolve, hr.evv hf, Deferred.ofValue, Sem.run_bind, Sem.run_pure, Result.andThen_ok, invoke, hcall, Array.empty_append]
 simp only [Oper.upon]
 refine h1.mono fun e w' hret => ?_
 obtain ⟨y, v, hp', k1, rfl, k2, k3, k4, k5, k6⟩ := hret
 obtain ⟨hr', hz⟩ := hr1.afterH hB k2 k4 k5 k6
 exact hn _ _ _ (hK y hp' k1) (hr'.put _ hd _ _ (k3.keep fun b hb _ => ⟨rfl, hz b hb⟩)) (k6.mono fun b _ h => .inr (hW b h))
theorem OpE.callH0 {f : Operand} {F : FuncId} {caps : Array Value} {args : Array Operand} {ts : Array TypeId} {xs : List AV} {hp : List Ent} {G : AV → List Ent → Prop} (ho : o.op = .call { callee := .value f, args := args, argTypes := ts }) (hB : B.Ok) (hd : okd B.nt o.dst = true)
  (hcall : ∀ us w, (callFunc F us).run P w = .ok (.enter F us) w) (hf : evO s f = some (.v (.func (.func F) #[] caps))) (hxs : evL s args.toList = some xs) (hspec : SpecH P F (xs ++ caps.toList.map .v) hp G) (hsp : s.hp.Perm hp) (hW : ∀ b, BlkL hp b → W b)
  (hK : ∀ y hp', G y hp' → K ((St'.mk s.sl hp' s.k).put o.dst y)) : OpE P B W s o K :=
 OpE.callH (rest := []) ho hB hd hcall hf hxs hspec (by rw [List.append_nil]; exact hsp) hW fun y hp' h => by rw [List.append_nil]; exact hK y hp' h
end
section
variable {P : Program} {B : Bs} {s : St'} {Q : Exit → St' → Prop}
theorem VC.sr {id : Nat} {l : List Oper} {y : Code} (h : VO P B l.toArray l (thenQ (VC P B y Q) Q) s) : VC P B (.seq (.region id l.toArray false) y) Q s := VC.seq (VC.region h)
theorem VO.mv {ops : Array Oper} {rest : List Oper} {o : Oper} {x : Operand} {v : AV} (hg : o.guard = none) (hd : okd B.nt o.dst = true) (ho : o.op = .move x) (hx : evO s x = some v) (hK : VO P B ops rest Q (s.put o.dst v)) : VO P B ops (o :: rest) Q s := VO.val hg hd (OpV.move (.inl ho) hx) hK
theorem VO.ma {ops : Array Oper} {rest : List Oper} {o : Oper} {x : Operand} {v : AV} (hg : o.guard = none) (hd : okd B.nt o.dst = true) (ho : o.op = .assign x) (hx : evO s x = some v) (hK : VO P B ops rest Q (s.put o.dst v)) : VO P B ops (o :: rest) Q s := VO.val hg hd (OpV.move (.inr ho) hx) hK
end
theorem qq : (∀ (p : Prop) [Decidable p], (decide p = true) = p) ∧ (∀ (p : Prop) [Decidable p], decide p = false ↔ ¬p) ∧ (∀ b : Bool, ((!b) = true) = (b = false)) ∧ (∀ b : Bool, ((!b) = false) = (b = true)) ∧ (∀ a b : Int, ¬a < b ↔ b ≤ a) ∧ (∀ a b : Int, ¬a ≤ b ↔ b < a) := ⟨fun _ _ => decide_eq_true_eq, fun _ _ => decide_eq_false_iff_not, Bool.not_eq_true', Bool.not_eq_false', fun _ _ => Int.not_lt, fun _ _ => Int.not_le⟩
theorem Nle {a b : Nat} (h : Nat.ble a b = true) : a ≤ b := Nat.le_of_ble_eq_true h
section
variable {P : Program} {B : Bs} {s : St'} {Q : Exit → St' → Prop} {V : Nat → Nat → Prop} {ops : Array Oper} {rest : List Oper} {n i : Nat} {L : Array Bool} {o : Oper} {x : Operand} {v : AV}
theorem VO.mw (hK : VO P B ops rest Q (s.put o.dst v)) (hg : o.guard = none := by exact rfl) (hd : okd B.nt o.dst = true := by exact rfl) (ho : o.op = .move x := by exact rfl) (hx : evO s x = some v := by exact rfl) : VO P B ops (o :: rest) Q s := VO.mv hg hd ho hx hK
theorem VO.mb (hK : VO P B ops rest Q (s.put o.dst v)) (hg : o.guard = none := by exact rfl) (hd : okd B.nt o.dst = true := by exact rfl) (ho : o.op = .assign x := by exact rfl) (hx : evO s x = some v := by exact rfl) : VO P B ops (o :: rest) Q s := VO.ma hg hd ho hx hK
theorem VO.vv (hv : OpV P B NoB s o v) (hK : VO P B ops rest Q (s.put o.dst v)) (hg : o.guard = none := by exact rfl) (hd : okd B.nt o.dst = true := by exact rfl) : VO P B ops (o :: rest) Q s := VO.val hg hd hv hK
theorem VA.tk (hi : ops[i]? = some o) (hv : OpV P B (Wi V ops i) s o v) (h : VA P B V ops Q n (L.setIfInBounds i true) (s.put o.dst v)) (hs : Region.noSelect ops = true := by kernel_rfl) (hf : Region.free .any ops L i = true := by kernel_rfl) (hr : (Region.ready .any ops L).contains i = true := by kernel_rfl) (hg : o.guard = none := by exact rfl) (hd : okd B.nt o.dst = true := by exact rfl) : VA P B V ops Q (n + 1) L s := VA.take hi hs hf hr hg hd hv h
theorem VA.td (hi : ops[i]? = some o) (hv : OpV P B (Wi V ops i) s o v) (h : VA P B V ops Q n (L.setIfInBounds i true) (s.put o.dst v)) (hs : Region.noSelect ops = true := by decide +kernel) (hf : Region.free .any ops L i = true := by decide +kernel) (hr : (Region.ready .any ops L).contains i = true := by decide +kernel) (hg : o.guard = none := by exact rfl) (hd : okd B.nt o.dst = true := by exact rfl) : VA P B V ops Q (n + 1) L s := VA.take hi hs hf hr hg hd hv h
theorem Le.lS {t n : Nat} {xs : List ByteArray} (hn : n = xs.length) (ht : look s.sl t = some (.im n 1 fun j => (strsL xs).getD j .any)) : Le B s ⟨(t, avStrs xs) :: s.sl, s.hp, s.k⟩ := Le.recast ht fun w Z u h => Rep.strs hn h
theorem Le.lI {t n : Nat} {xs : List Int} (hn : n = xs.length) (ht : look s.sl t = some (.im n 1 fun j => (intsL xs).getD j .any)) : Le B s ⟨(t, avInts xs) :: s.sl, s.hp, s.k⟩ := Le.recast ht fun w Z u h => Rep.ints hn h
theorem bI {W : Nat → Prop} {K : St' → Prop} {parts : Array (Nat × Operand)} {ps : List (Nat × AV)} {r : List AV} (ho : o.op = .buildSlice 22 n parts) (hB : B.Ok) (hd : okd B.nt o.dst = true) (h0 : Nat.ble n 60000 = true ∧ n ≠ 0) (hps : evPs s parts.toList = some ps) (hf : fillA (fun i => some (i * 1, 1)) (List.replicate n (.v (.int .i64 0))) ps = some r) (hK : K (s.put o.dst (.im n 1 fun j => r.getD j .any))) : OpE Tryz.prog B W s o K :=
 OpE.buildSlice (zc := Array.replicate n (.int .i64 0)) ho hB hd Tryz.underlying22 Tryz.sizeOf3 Tryz.zeroValue3 (by have := Nat.le_of_ble_eq_true h0.1; omega) ⟨h0.2, by decide⟩ (by apply Array.ext (by simp); intro j h1 h2; simp [Value.cells, Nat.mod_one]) hps (by rw [Array.toList_replicate, List.map_replicate]; exact hf) hK
theorem bS {W : Nat → Prop} {K : St' → Prop} {parts : Array (Nat × Operand)} {ps : List (Nat × AV)} {r : List AV} (ho : o.op = .buildSlice 82 n parts) (hB : B.Ok) (hd : okd B.nt o.dst = true) (h0 : Nat.ble n 60000 = true ∧ n ≠ 0) (hps : evPs s parts.toList = some ps) (hf : fillA (fun i => some (i * 1, 1)) (List.replicate n (.v (.string ⟨#[]⟩))) ps = some r) (hK : K (s.put o.dst (.im n 1 fun j => r.getD j .any))) : OpE Tryz.prog B W s o K :=
 OpE.buildSlice (zc := Array.replicate n (.string ⟨#[]⟩)) ho hB hd Tryz.underlying82 Tryz.sizeOf9 Tryz.zeroValue9 (by have := Nat.le_of_ble_eq_true h0.1; omega) ⟨h0.2, by decide⟩ (by apply Array.ext (by simp); intro j h1 h2; simp [Value.cells, Nat.mod_one]) hps (by rw [Array.toList_replicate, List.map_replicate]; exact hf) hK
end
end
section
def TT (p : Nat) (L : List Int) (w : World) (k : Nat) : Prop := ∃ k', k' ≤ k ∧ Strm w p L k'
abbrev sp (p : Nat) : AV := .v (.pointer (some ⟨p, 0, none⟩))
theorem TT.ok {p : Nat} {L : List Int} {w : World} {A : Nat → Prop} {nt k : Nat} (h : TT p L w k) : (B1 w A nt (fun b => b = p) (fun b => b ≤ p) (TT p L)).Ok := by
 obtain ⟨k', hk, hs⟩ := h
 exact {
  keep := fun {S w w' k} ⟨k', hk, hs⟩ hc hS => ⟨k', hk, hs.keep hc hS⟩
  low := fun j hj => Nat.lt_of_le_of_lt hj hs.lt
  str := fun j hj => by cases hj; exact ⟨Nat.le_refl _, rfl⟩
  up := fun {w k k2} ⟨k', h1, h2⟩ h3 => ⟨k', Nat.le_trans h1 h3, h2⟩ }
theorem args2 {p : Nat} {u : Value} {w : World} {A : Nat → Prop} {us : Array Value} (h : Args w A [sp p, .v u] us) : us = #[.pointer (some ⟨p, 0, none⟩), u] := by
 obtain ⟨h1, h2⟩ := h
 have e0 := (h2 0 (by simp)).eq_v
 have e1 := (h2 1 (by simp)).eq_v
 apply Array.ext (by simpa using h1)
 intro i hi hi'
 simp at hi'
 rw [h1] at hi
 match i, hi' with
 | 0, _ => simpa [Array.getD_eq_getD_getElem?, h1] using e0
 | 1, _ => simpa [Array.getD_eq_getD_getElem?, h1] using e1
section
variable {p : Nat} {L : List Int}
end
def AllI (lo hi : Int) : List AV → Prop
 | [] => True
 | x :: r => (∃ i : Int, (lo ≤ i ∧ i ≤ hi) ∧ x = avI i) ∧ AllI lo hi r
theorem AllI.nil {lo hi : Int} : AllI lo hi [] := trivial
theorem AllI.cons {lo hi i : Int} {r : List AV} (h : lo ≤ i ∧ i ≤ hi) (hr : AllI lo hi r) : AllI lo hi (avI i :: r) := ⟨⟨i, h, rfl⟩, hr⟩
theorem AllI.get {lo hi : Int} : ∀ {l : List AV} {q : Nat}, AllI lo hi l → q < l.length → ∃ i : Int, (lo ≤ i ∧ i ≤ hi) ∧ l.getD q .any = avI i
 | [], q, _, h => by simp at h
 | x :: r, 0, h, _ => by simpa using h.1
 | x :: r, q + 1, h, hq => by simpa using AllI.get h.2 (by simpa using hq)
def AllX : List AV → Prop
 | [] => True
 | x :: r => (∃ i : Int, x = avI i) ∧ AllX r
theorem AllX.nil : AllX [] := trivial
theorem AllX.cons {i : Int} {r : List AV} (hr : AllX r) : AllX (avI i :: r) := ⟨⟨i, rfl⟩, hr⟩
theorem AllX.get : ∀ {l : List AV} {q : Nat}, AllX l → q < l.length → ∃ i : Int, l.getD q .any = avI i
 | [], q, _, h => by simp at h
 | x :: r, 0, h, _ => by simpa using h.1
 | x :: r, q + 1, h, hq => by simpa using AllX.get h.2 (by simpa using hq)
def AllS (m : Nat) : List AV → Prop
 | [] => True
 | x :: r => (∃ i : ByteArray, i.size ≤ m ∧ x = avS i) ∧ AllS m r
theorem AllS.nil {m : Nat} : AllS m [] := trivial
theorem AllS.cons {m : Nat} {i : ByteArray} {r : List AV} (h : i.size ≤ m) (hr : AllS m r) : AllS m (avS i :: r) := ⟨⟨i, h, rfl⟩, hr⟩
theorem AllS.get {m : Nat} : ∀ {l : List AV} {q : Nat}, AllS m l → q < l.length → ∃ i : ByteArray, i.size ≤ m ∧ l.getD q .any = avS i
 | [], q, _, h => by simp at h
 | x :: r, 0, h, _ => by simpa using h.1
 | x :: r, q + 1, h, hq => by simpa using AllS.get h.2 (by simpa using hq)
end
section
def SpecW (g : World → Prop) (P : Program) (F : FuncId) (xs : List AV) (G : AV → Prop) : Prop :=
 ∀ (w : World) (A : Nat → Prop) (us : Array Value), g w → Args w A xs us → Calls P F us w (Ret w A NoB (fun _ => True) G)
section
variable {P : Program} {B : Bs} {W : Nat → Prop} {s : St'} {o : Oper} {K : St' → Prop}
theorem SpecW.of_VC {g : World → Prop} {F : FuncId} {fn : Func} {c : Code} (hf : P.funcs[F]? = some fn) (hb : fn.body = some c) {xs : List AV} {G : AV → Prop} {nt : Nat} (hn : fn.ntmps = nt) (hle : xs.length ≤ nt)
  (h : ∀ w A, g w → (B0 w A nt).Ok → VC P (B0 w A nt) c (retQ P fn G) ⟨slots0 0 xs, [], 0⟩) : SpecW g P F xs G := fun w A us hg ha =>
 (calls_of_VC (k := 0) hf hb (B := B0 w A nt) rfl hn.symm ha (fun _ h => h.elim) trivial (by omega) (h w A hg (B0.ok _ _ _))).mono fun e w' ⟨y, v, s, a, h1, h2, h3, h4⟩ =>
  ⟨y, v, h1, h2, h3.keep fun b hb _ => ⟨rfl, hb.1, fun hl => (hb.2.2 hl).1.elim id fun h => h.elim⟩, h4.chg, trivial⟩
end
def TabW (P : Program) (w : World) : Prop := Lib.TabIs P w "internal/strconv.uint64pow10" .u64 Lib.pow10Tab
theorem TabW.keep {P : Program} {S : Nat → Prop} {w w' : World} {g : Nat} (hg : P.globalNamed "internal/strconv.uint64pow10" = some g) (h : TabW P w) (c : Chg S w w') (hS : ¬ S g) : TabW P w' := by
 unfold TabW Lib.TabIs World.var? at *
 rw [hg] at h ⊢
 simp only [Option.bind_some] at h ⊢
 have hlt : g < w.heap.size := by
  by_cases hl : g < w.heap.size
  ·exact hl
  ·rw [Array.getElem?_eq_none (by omega)] at h; cases h
 rw [c.block g hlt hS]
 exact h
theorem TabW.base {P : Program} {w : World} {A : Nat → Prop} {nt g : Nat} (hg : P.globalNamed "internal/strconv.uint64pow10" = some g) (h : TabW P w) : ∀ {s a w'}, R (B0 w A nt) s a w' → TabW P w' := fun hr => h.keep hg hr.chg fun h => h
end
section
structure StabX (TX : List Ent → World → Prop) : Prop where
 keep : ∀ {hp hp' : List Ent} {w w' : World}, TX hp w → Chg (BlkL hp) w w' → (∀ b, BlkL hp' b → b < w.heap.size → BlkL hp b) → TX hp' w'
def SpecHX (TX : List Ent → World → Prop) (P : Program) (F : FuncId) (xs : List AV) (hp : List Ent) (G : AV → List Ent → Prop) : Prop :=
 ∀ (w : World) (A : Nat → Prop) (us : Array Value), TX hp w → Args w A xs us → Apart hp → (∀ b, BlkL hp b → ¬ A b) → (∀ e ∈ hp, EntR w (fun b => b < w.heap.size ∧ A b) e) →
  Calls P F us w fun e w' => ∃ y v hp', G y hp' ∧ e = .returned v ∧ Apart hp' ∧ Rep w' (Zh w A hp hp' w') y v ∧ (∀ e ∈ hp', EntR w' (Zh w A hp hp' w') e) ∧
   (∀ b, BlkL hp' b → b < w.heap.size → BlkL hp b) ∧ Chg (BlkL hp) w w'
theorem SpecHX.of_VC {TX : List Ent → World → Prop} (hst : StabX TX) {P : Program} {F : FuncId} {fn : Func} {c : Code} (hf : P.funcs[F]? = some fn) (hb : fn.body = some c) {xs : List AV} {hp : List Ent} {G : AV → List Ent → Prop} {nt : Nat} (hn : fn.ntmps = nt) (hle : xs.length ≤ nt)
  (h : ∀ w A, (Bh w A nt hp).Ok → (∀ s a w', R (Bh w A nt hp) s a w' → TX s.hp w') → VC P (Bh w A nt hp) c (retS P fn fun y s => G y s.hp) ⟨slots0 0 xs, hp, 0⟩) : SpecHX TX P F xs hp G := fun w A us hx ha h1 h2 h3 => by
 have hus : us.size ≤ fn.ntmps := by rw [ha.1, hn]; exact hle
 refine calls_of_wp hf hb (Code.wp_mono (fun e a w' hq => ?_) (h w A (Bh.ok _ _ _ _) (fun s a w' hr => hst.keep hx hr.chg fun b ⟨p, hp1, hpb⟩ hl => (hr.own p hp1 b hpb).2 hl) _ w (by
  have := R.startH (nt := nt) ha h1 h2 h3 (by omega)
  rwa [hn])))
 obtain ⟨s, hq, hr⟩ := hq
 have key : ∀ y v, G y s.hp → Rep w' (Zn (Bh w A nt hp) s.hp w') y v → ∃ y v' hp', G y hp' ∧ Ending.returned v = .returned v' ∧ Apart hp' ∧ Rep w' (Zh w A hp hp' w') y v' ∧ (∀ e ∈ hp', EntR w' (Zh w A hp hp' w') e) ∧
   (∀ b, BlkL hp' b → b < w.heap.size → BlkL hp b) ∧ Chg (BlkL hp) w w' := fun y v hG hv => by
  have hZ : ∀ b, Zn (Bh w A nt hp) s.hp w' b → Zh w A hp s.hp w' b := fun b hb => ⟨hb.1, fun ⟨p, hp1, hp2⟩ => hb.2.1 p hp1 hp2, fun hl => (hb.2.2 hl).1⟩
  exact ⟨y, v, s.hp, hG, rfl, hr.nodup, hv.keep fun b hb _ => ⟨rfl, hZ b hb⟩, fun p hp' => (hr.blocks p hp').keep (fun b hb _ => ⟨rfl, hZ b hb⟩) fun g _ => rfl, fun b ⟨p, hp1, hp2⟩ hl => (hr.own p hp1 b hp2).2 hl, hr.chg⟩
 cases e with
 | normal =>
  obtain ⟨y, k1, k2⟩ := hq
  obtain ⟨v, k3, k4⟩ := k1 _ a w' hr
  exact ⟨hr.defs, v, k3, key y v k2 k4⟩
 | ret =>
  obtain ⟨y, k1, k2⟩ := hq
  obtain ⟨v, k3, k4⟩ := k1 _ a w' hr
  exact ⟨hr.defs, v, k3, key y v k2 k4⟩
 | exit id => exact hq.elim
 | goto l => exact hq.elim
 | panic c => exact hq.elim
 | outgrown => exact hq.elim
section
variable {P : Program} {B : Bs} {W : Nat → Prop} {s : St'} {o : Oper} {K : St' → Prop}
theorem OpE.callHX {TX : List Ent → World → Prop} (hst : StabX TX) (hG : ∀ s a w, R B s a w → TX s.hp w) {f : Operand} {F : FuncId} {caps : Array Value} {args : Array Operand} {ts : Array TypeId} {xs : List AV} {hp rest : List Ent} {G : AV → List Ent → Prop} (ho : o.op = .call { callee := .value f, args := args, argTypes := ts }) (hB : B.Ok) (hd : okd B.nt o.dst = true)
  (hcall : ∀ us w, (callFunc F us).run P w = .ok (.enter F us) w) (hf : evO s f = some (.v (.func (.func F) #[] caps))) (hxs : evL s args.toList = some xs) (hspec : SpecHX TX P F (xs ++ caps.toList.map .v) hp G) (hsp : s.hp.Perm (hp ++ rest)) (hW : ∀ b, BlkL hp b → W b)
  (hK : ∀ y hp', G y hp' → K ((St'.mk s.sl (hp' ++ rest) s.k).put o.dst y)) : OpE P B W s o K := by
 intro a w hr next Qx hn
 have hr1 := hr.perm hsp
 have hA : Args w (Zo B (hp ++ rest)) (xs ++ caps.toList.map .v) (args.map a.eval ++ caps) := by
  have ha := evL_args hr hxs
  have hZo : ∀ b, Zo B s.hp b → Zo B (hp ++ rest) b := fun b hb => ⟨fun p hp1 => hb.1 p (hsp.mem_iff.2 hp1), hb.2⟩
  refine ⟨by simp [ha.1], fun j hj => ?_⟩
  by_cases hjx : j < xs.length
  ·rw [List.getElem_append_left hjx]
   have hlt : j < (args.map a.eval).size := by rw [ha.1]; exact hjx
   have : (args.map a.eval ++ caps).getD j undef = (args.map a.eval).getD j undef := by
    rw [Array.getD_eq_getD_getElem?, Array.getD_eq_getD_getElem?, Array.getElem?_append_left hlt]
   rw [this]
   exact (ha.2 j hjx).keep fun b hb _ => ⟨rfl, hb.1, hZo b hb.2⟩
  ·rw [List.getElem_append_right (by omega)]
   have hj' : j - xs.length < caps.size := by rw [List.length_append] at hj; simp at hj; omega
   have : (args.map a.eval ++ caps).getD j undef = caps.getD (j - xs.length) undef := by
    rw [Array.getD_eq_getD_getElem?, Array.getD_eq_getD_getElem?, Array.getElem?_append_right (by rw [ha.1]; omega), ha.1]
   rw [this, Array.getD_eq_getD_getElem?, Array.getElem?_eq_getElem hj']
   simp
   exact .v _
 have hap := hr1.nodup
 unfold Apart at hap
 rw [List.pairwise_append] at hap
 have hx : TX hp w := hst.keep (hG _ _ _ hr) (Chg.refl _ _) fun b ⟨p, hp1, hpb⟩ _ => ⟨p, hsp.mem_iff.2 (List.mem_append_left _ hp1), hpb⟩
 have h1 := hspec w (Zo B (hp ++ rest)) _ hx hA hap.1 (fun b ⟨p, hp1, hpb⟩ h => h.1 p (List.mem_append_left _ hp1) hpb) fun e he => (hr1.blocks e (List.mem_append_left _ he)).keep (fun b hb _ => ⟨rfl, hb.1, hb.2⟩) fun g _ => rfl
 unfold Oper.wp
 simp only [execOp, ho, resolve, hr.evv hf, Deferred.ofValue, Sem.run_bind, Sem.run_pure, Result.andThen_ok, invoke, hcall, Array.empty_append]
 simp only [Oper.upon]
 refine h1.mono fun e w' hret => ?_
 obtain ⟨y, v, hp', k1, rfl, k2, k3, k4, k5, k6⟩ := hret
 obtain ⟨hr', hz⟩ := hr1.afterH hB k2 k4 k5 k6
 exact hn _ _ _ (hK y hp' k1) (hr'.put _ hd _ _ (k3.keep fun b hb _ => ⟨rfl, hz b hb⟩)) (k6.mono fun b _ h => .inr (hW b h))
end
def TabX (P : Program) (hp : List Ent) (w : World) : Prop := TabW P w ∧ ∀ b, BlkL hp b → P.globalNamed "internal/strconv.uint64pow10" ≠ some b
theorem TabW.lt {P : Program} {w : World} {g : Nat} (hg : P.globalNamed "internal/strconv.uint64pow10" = some g) (h : TabW P w) : g < w.heap.size := by
 unfold TabW Lib.TabIs World.var? at h
 rw [hg] at h
 simp only [Option.bind_some] at h
 by_cases hl : g < w.heap.size
 ·exact hl
 ·rw [Array.getElem?_eq_none (by omega)] at h; cases h
theorem TabX.base {P : Program} {w : World} {A : Nat → Prop} {nt g : Nat} (hg : P.globalNamed "internal/strconv.uint64pow10" = some g) (h : TabW P w) : ∀ s a w', R (B0 w A nt) s a w' → TabX P s.hp w' := fun s a w' hr => by
 refine ⟨h.base hg hr, fun b ⟨p, hp1, hpb⟩ e => ?_⟩
 obtain rfl : g = b := Option.some.inj (hg.symm.trans e)
 exact (hr.own p hp1 g hpb).2 (h.lt hg)
end
section
def Inp (w : World) (a : Option Addr) (L : List Int) : Prop :=
 L.length ≤ 9223372036854775807 ∧ ∀ i, i < L.length → ∃ b o, a = some ⟨b, o, none⟩ ∧ w.cell? ⟨b, o + i, none⟩ = some (.int .i64 (L.getD i 0))
theorem Inp.ofRow {w : World} {a : Option Addr} {len cap : Nat} {zs : List Int}
  (h : (a = none ∧ len = 0 ∧ cap = 0 ∧ zs = []) ∨
   ∃ x, a = some x ∧ len ≤ cap ∧ cap ≤ maxLen ∧ zs.length = cap ∧ (∀ i, i < zs.length → w.cell? (x.add i) = some (.int .i64 (zs.getD i 0))) ∧ ∀ n ∈ zs, (Lit.int .i64 n).wf = true) :
  ∃ L : List Int, L.length = len ∧ Inp w a L := by
 rcases h with ⟨rfl, rfl, rfl, rfl⟩ | ⟨x, rfl, h1, h2, h3, h4, h5⟩
 ·exact ⟨[], rfl, by simp, by simp⟩
 ·unfold maxLen at h2
  refine ⟨zs.take len, by simp; omega, by simp; omega, fun i hi => ?_⟩
  have hi' : i < len ∧ i < zs.length := by simp at hi; omega
  obtain ⟨b, o, s⟩ := x
  have h0 := h4 0 (by omega)
  have hs : s = none := by
   cases s with
   | none => rfl
   | some s =>
    simp only [Addr.add, if_true, World.cell?] at h0
    split at h0 <;> simp at h0
  subst hs
  have hadd : (⟨b, o, none⟩ : Addr).add i = ⟨b, o + i, none⟩ := by unfold Addr.add; split <;> simp_all
  have := h4 i hi'.2
  rw [hadd] at this
  exact ⟨b, o, rfl, by rw [this]; simp [hi'.1, hi'.2]⟩
def lawQ (t : Nat) (x : Value) (e : Exit) (s : St') : Prop := e = .ret ∧ look s.sl t = some (.v x)
section
variable {P : Program} {w : World} {A : Nat → Prop} {nt t : Nat} {x : Value} {c : Code} {s : St'}
theorem law_calls {F : FuncId} {fn : Func} {a0 : Option Addr} {cap0 : Nat} {L : List Int} {body : Code} (hf : P.funcs[F]? = some fn) (hb : fn.body = some body) (hn : fn.ntmps = nt) (h1 : 1 ≤ nt) (hres : fn.results = #[.tmp t])
  (h : VC P (B0 w (fun _ => True) nt) body (lawQ t (.bool true)) ⟨slots0 0 [.v (.slice a0 L.length cap0)], [], 0⟩) : Calls P F #[.slice a0 L.length cap0] w fun e w' => e = .returned (.bool true) ∧ Chg NoB w w' := by
 subst hn
 refine calls_of_wp hf hb (Code.wp_mono (fun e a w' hq => ?_) (h _ w (R.start (us := #[.slice a0 L.length cap0]) (k := 0) rfl ⟨rfl, fun j hj => by simp at hj; subst hj; exact .v _⟩ (fun _ h => h.elim) trivial (by show fn.ntmps = 1 + (fn.ntmps - 1); omega))))
 obtain ⟨s, ⟨rfl, hq⟩, hr⟩ := hq
 refine ⟨hr.defs, .bool true, ?_, rfl, hr.chg⟩
 have hv := (hr.slots t _ hq).eq_v
 simp [results_eq, hres, resRun, hv]
end
theorem Le.boolT {B : Bs} {s : St'} {t : Nat} {b : Bool} (ht : look s.sl t = some (avB b)) (hb : b = true) : Le B s ⟨(t, avB true) :: s.sl, s.hp, s.k⟩ := Le.recast ht fun w Z u h => by subst hb; exact h
end
section
def StrmA (w : World) (p : Nat) (a : Option Addr) (cap : Nat) (L : List Int) (k : Nat) : Prop :=
 w.heap[p]? = some (.cells #[.slice a L.length cap, .int .i64 k] 25 (0, 0)) ∧ L.length ≤ 9223372036854775807 ∧
  ∀ i, i < L.length → ∃ b o, a = some ⟨b, o, none⟩ ∧ b < p ∧ w.cell? ⟨b, o + i, none⟩ = some (.int .i64 (L.getD i 0))
theorem StrmA.keep {S : Nat → Prop} {w w' : World} {p cap : Nat} {a : Option Addr} {L : List Int} {k : Nat} (h : StrmA w p a cap L k) (c : Chg S w w') (hs : ∀ j, j ≤ p → ¬ S j) : StrmA w' p a cap L k := by
 obtain ⟨hp, hl, hc⟩ := h
 have hlt := (Array.getElem?_eq_some_iff.1 hp).1
 refine ⟨(c.block p hlt (hs p (Nat.le_refl _))).trans hp, hl, fun i hi => ?_⟩
 obtain ⟨b, o, ha, hb, hcell⟩ := hc i hi
 exact ⟨b, o, ha, hb, c.cell hcell (hs _ (Nat.le_of_lt hb))⟩
theorem StrmA.step {w : World} {p : Nat} {L : List Int} {k : Nat} {a : Option Addr} {cap : Nat}
  (hp : w.heap[p]? = some (.cells #[.slice a L.length cap, .int .i64 k] 25 (0, 0))) (hl : L.length ≤ 9223372036854775807)
  (hc : ∀ i, i < L.length → ∃ b o, a = some ⟨b, o, none⟩ ∧ b < p ∧ w.cell? ⟨b, o + i, none⟩ = some (.int .i64 (L.getD i 0))) :
  StrmA (w.setCell ⟨p, 1, none⟩ (.int .i64 ((k : Int) + 1))) p a cap L (k + 1) := by
 refine ⟨?_, hl, fun i hi => ?_⟩
 ·simp [World.setCell, Array.getElem?_modify, hp]
 ·obtain ⟨b, o, ha, hb, hcell⟩ := hc i hi
  refine ⟨b, o, ha, hb, ?_⟩
  rw [← hcell]
  exact World.cell?_of_block (Below.heap_setCell _ _ _ _ (Nat.ne_of_lt hb))
set_option maxHeartbeats 400000 in
theorem next_anyA (p : Nat) (a : Option Addr) (cap : Nat) (L : List Int) (k : Nat) (n : Int) (w : World) (h : StrmA w p a cap L k) (hk : k ≤ 1000000) (hn : n ≤ 1000000000) :
  Calls Tryz.prog 78 #[.pointer (some ⟨p, 0, none⟩), .int .i64 n] w fun e w' => e = .returned (.int .i64 (nxt L k n)) ∧ StrmA w' p a cap L (k + 1) ∧ Chg (AtB p) w w' := by
 obtain ⟨hp, hl, hc⟩ := h
 have c0 : w.cell? ⟨p, 0, none⟩ = some (.slice a L.length cap) := by simp [World.cell?, hp]
 have c1 : w.cell? ⟨p, 1, none⟩ = some (.int .i64 k) := by simp [World.cell?, hp]
 have f1 : w.frozen? ⟨p, 1, none⟩ = false := by simp [World.frozen?, hp]
 have HP := hid hp; clear hp
 by_cases h0 : L.length = 0
 ·have h0' : ((L.length : Int) == 0) = true := by simp [h0]
  have H0 := hid h0; clear h0
  go_enter Tryz.func78, Tryz.ntmps78
  go_wp2_with (go_at_call 163; refine (below_any _ _ _ (by omega)).mono ?_; rintro e w' ⟨rfl, rfl⟩)
  go_ret
  exact ⟨ret_int (by rw [nxt, if_pos H0.out]), StrmA.step HP.out hl hc, (Chg.refl (AtB p) w).setCell (a := ⟨p, 1, none⟩) (fun _ => rfl) _⟩
 ·have h0' : ((L.length : Int) == 0) = false := beq_eq_false_iff_ne.2 (by omega)
  obtain ⟨b, o, rfl, hbp', _⟩ := hc 0 (by omega)
  have hbp : b ≠ p := by omega
  have hci := (hc (k % L.length) (Nat.mod_lt _ (by omega)))
  obtain ⟨_, _, he, _, hci⟩ := hci
  cases he
  have HC := hid hc; clear hc
  have hm := Nat.mod_lt k (show 0 < L.length by omega)
  have hmk := Nat.mod_le k L.length
  have hdk := Nat.div_le_self k L.length
  have hb := below_lo (L[k % L.length]) 1073741824
  have hb2 := below_lt (L[k % L.length]) 1073741824 (by omega)
  have em : (k : Int) % (L.length : Int) = ((k % L.length : Nat) : Int) := by simp
  have ed : (k : Int) / (L.length : Int) = ((k / L.length : Nat) : Int) := by simp
  have m1 : 0 ≤ (k : Int) % (L.length : Int) := by rw [em]; omega
  have m2 : (k : Int) % (L.length : Int) < (L.length : Int) := by rw [em]; omega
  have m3 : (k : Int) % (L.length : Int) ≤ 1000000 := by rw [em]; omega
  have d1 : 0 ≤ (k : Int) / (L.length : Int) := Int.ediv_nonneg (by omega) (by omega)
  have d2 : (k : Int) / (L.length : Int) ≤ 1000000 := by rw [ed]; omega
  clear em ed
  have q1 : 0 ≤ (k : Int) / (L.length : Int) * (7919 + (k : Int) % (L.length : Int)) := Int.mul_nonneg d1 (by omega)
  have q2 : (k : Int) / (L.length : Int) * (7919 + (k : Int) % (L.length : Int)) ≤ 1000000 * 1007919 := Int.mul_le_mul d2 (by omega) (by omega) (by omega)
  go_enter Tryz.func78, Tryz.ntmps78
  go_wp2_with fail
  go_quiet (fail)
  go_wp2_with fail
  go_quiet (fail)
  go_wp2_with (go_at_call 163; refine (below_any _ _ _ (by omega)).mono ?_; rintro e w' ⟨rfl, rfl⟩)
  go_ret
  refine ⟨ret_int ?_, (StrmA.step HP.out hl HC.out).keep ((Chg.refl NoB _).drewN _) (fun _ _ x => x), ((Chg.refl (AtB p) w).setCell (a := ⟨p, 1, none⟩) (fun _ => rfl) _).drewN _⟩
  rw [nxt, if_neg h0]
  simp [hm]
def TXI (a0 : Option Addr) (L : List Int) (p0 : Nat) (hp : List Ent) (w : World) : Prop :=
 L.length ≤ 9223372036854775807 ∧ ∀ i, i < L.length → ∃ b o, a0 = some ⟨b, o, none⟩ ∧ b < p0 ∧ ¬ BlkL hp b ∧ w.cell? ⟨b, o + i, none⟩ = some (.int .i64 (L.getD i 0))
theorem txi_stab {a0 : Option Addr} {L : List Int} {p0 : Nat} : StabX (TXI a0 L p0) := ⟨fun {hp hp' w w'} h hc hb => ⟨h.1, fun i hi => by
 obtain ⟨b, o, e1, e2, e3, e4⟩ := h.2 i hi
 exact ⟨b, o, e1, e2, fun h' => e3 (hb b h' (World.block_lt_of_cell? w _ e4)), hc.cell e4 e3⟩⟩⟩
theorem txi_base {w : World} {A : Nat → Prop} {nt : Nat} {a0 : Option Addr} {L : List Int} (hin : Inp w a0 L) : ∀ s a w', R (B0 w A nt) s a w' → TXI a0 L w.heap.size s.hp w' := fun s a w' hr => ⟨hin.1, fun i hi => by
 obtain ⟨b, o, e1, e2⟩ := hin.2 i hi
 have hb := World.block_lt_of_cell? w _ e2
 exact ⟨b, o, e1, hb, fun ⟨p, hp, hpb⟩ => hr.isNew (fun b h => h) hp hpb hb, hr.chg.cell e2 fun h => h⟩⟩
abbrev bxStr (p : Nat) (a : Option Addr) (cap : Nat) (L : List Int) (k : Nat) : Ent := .box p ⟨[.v (.slice a L.length cap), avI (k : Int)], 25, 2⟩
theorem next_X {p p0 k cap : Nat} {a0 : Option Addr} {L : List Int} {n : Int} (hp0 : p0 ≤ p) (hk : k ≤ 1000000) (hn : n ≤ 1000000000) :
  SpecHX (TXI a0 L p0) Tryz.prog 78 [sp p, avI n] [bxStr p a0 cap L k] (fun y hp' => y = avI (nxt L k n) ∧ hp' = [bxStr p a0 cap L (k + 1)]) := by
 intro w A us hx ha hap hA hE
 rw [args2 ha]
 obtain ⟨cc, k1, k2, k3, k4⟩ := hE _ (List.mem_singleton.2 rfl)
 have hcc : cc = #[.slice a0 L.length cap, .int .i64 k] := by
  obtain ⟨u0, p0, q0⟩ := k4 0 (by simp)
  obtain ⟨u1, p1, q1⟩ := k4 1 (by simp)
  have e0 := q0.eq_v
  have e1 := q1.eq_v
  have hsz : cc.size = 2 := k2
  apply Array.ext (by simpa using hsz)
  intro i hi hi'
  simp at hi'
  match i, hi' with
  | 0, _ => have := Array.getElem?_eq_some_iff.1 p0; simp; rw [this.2, e0]
  | 1, _ => have := Array.getElem?_eq_some_iff.1 p1; simp; rw [this.2, e1]
 subst hcc
 have hs : StrmA w p a0 cap L k := ⟨k1, hx.1, fun i hi => by
  obtain ⟨b, o, e1, e2, e3, e4⟩ := hx.2 i hi
  exact ⟨b, o, e1, by omega, e4⟩⟩
 refine (next_anyA p a0 cap L k n w hs hk hn).mono ?_
 rintro e w' ⟨rfl, h2, h3⟩
 refine ⟨_, _, _, ⟨rfl, rfl⟩, rfl, List.pairwise_singleton _ _, .v _, fun e he => ?_, fun b ⟨e, he, hb⟩ hl => ⟨bxStr p a0 cap L k, List.mem_singleton.2 rfl, ?_⟩, h3.mono fun b _ hb => ⟨_, List.mem_singleton.2 rfl, ?_⟩⟩
 ·have he' := List.mem_singleton.1 he
  subst he'
  refine ⟨_, h2.1, rfl, Nat.le_refl _, fun j hj => ?_⟩
  simp at hj
  match j, hj with
  | 0, _ => exact ⟨_, rfl, .v _⟩
  | 1, _ => exact ⟨_, rfl, .v _⟩
 ·have he' := List.mem_singleton.1 he
  subst he'
  exact hb
 ·have : b = p := hb
  subst this; rfl
end
end Go.Proofs.YtcploodfholkkaaGreatDoor
namespace Go.Proofs
open Go.Shelf
def Tryz.lays125_ren : Go.Shelf.Ren := ⟨fun | 125 => 176 | 128 => 248 | 129 => 249 | n => n, fun | 46 => 282 | 3 => 3 | 51 => 340 | 53 => 342 | 4 => 4 | 5 => 5 | 9 => 9 | n => n, fun | n => n⟩
theorem Tryz.lays125 : Go.Proofs.Lays.n125 Tryz.prog Tryz.lays125_ren := {
 mixed := by kernel_rfl
 f125 := Tryz.func176.trans (congrArg some (by kernel_rfl))
 f128 := Tryz.func248.trans (congrArg some (by kernel_rfl))
 f129 := Tryz.func249.trans (congrArg some (by kernel_rfl))
 t3 := Tryz.underlying3
 a3 := Tryz.isAgg3
 z3 := Tryz.sizeOf3
 v3 := Tryz.zeroValue3
 t4 := Tryz.underlying4
 a4 := Tryz.isAgg4
 z4 := Tryz.sizeOf4
 v4 := Tryz.zeroValue4
 t5 := Tryz.underlying5
 a5 := Tryz.isAgg5
 z5 := Tryz.sizeOf5
 v5 := Tryz.zeroValue5
 t9 := Tryz.underlying9
 a9 := Tryz.isAgg9
 z9 := Tryz.sizeOf9
 v9 := Tryz.zeroValue9
 t46 := Tryz.underlying282
 a46 := Tryz.isAgg282
 z46 := Tryz.sizeOf282
 v46 := Tryz.zeroValue282
 t51 := Tryz.underlying340
 a51 := Tryz.isAgg340
 z51 := Tryz.sizeOf340
 v51 := Tryz.zeroValue340
 t53 := Tryz.underlying342
 a53 := Tryz.isAgg342
 z53 := Tryz.sizeOf342
 v53 := Tryz.zeroValue342 }
theorem Tryz.bits_Len (x : Int) (w : World) (h0 : 0 ≤ x) (h1 : x ≤ 18446744073709551615) :
  Calls Tryz.prog 176 #[.int .u64 x] w fun e w' => e = .returned (.int .i64 (Lib.bitLen x.toNat)) ∧ w' = w := Any.bits_Len Tryz.lays125 x w h0 h1
def Tryz.lays106_ren : Go.Shelf.Ren := ⟨fun | 106 => 95 | 213 => 178 | 265 => 250 | n => n, fun | 9 => 9 | 3 => 3 | n => n, fun | n => n⟩
theorem Tryz.lays106 : Go.Proofs.Lays.n106 Tryz.prog Tryz.lays106_ren := {
 mixed := by kernel_rfl
 f106 := Tryz.func95.trans (congrArg some (by kernel_rfl))
 f213 := Tryz.func178.trans (congrArg some (by kernel_rfl))
 f265 := Tryz.func250.trans (congrArg some (by kernel_rfl))
 t3 := Tryz.underlying3
 a3 := Tryz.isAgg3
 z3 := Tryz.sizeOf3
 v3 := Tryz.zeroValue3
 t9 := Tryz.underlying9
 a9 := Tryz.isAgg9
 z9 := Tryz.sizeOf9
 v9 := Tryz.zeroValue9 }
open Go.RowKit in
theorem Tryz.strings_Compare (a b : ByteArray) (w : World) :
  Calls Tryz.prog 95 #[.string a, .string b] w fun e w' => e = .returned (.int .i64 (Lib.compareBytes a.data.toList b.data.toList)) ∧ w' = w := Any.strings_Compare Tryz.lays106 a b w
def Tryz.lays137_ren : Go.Shelf.Ren := ⟨fun | 137 => 312 | 217 => 308 | 266 => 364 | n => n, fun | 9 => 9 | 5 => 5 | 3 => 3 | n => n, fun | n => n⟩
theorem Tryz.lays137 : Go.Proofs.Lays.n137 Tryz.prog Tryz.lays137_ren := {
 mixed := by kernel_rfl
 f137 := Tryz.func312.trans (congrArg some (by kernel_rfl))
 f217 := Tryz.func308.trans (congrArg some (by kernel_rfl))
 f266 := Tryz.func364.trans (congrArg some (by kernel_rfl))
 t3 := Tryz.underlying3
 a3 := Tryz.isAgg3
 z3 := Tryz.sizeOf3
 v3 := Tryz.zeroValue3
 t5 := Tryz.underlying5
 a5 := Tryz.isAgg5
 z5 := Tryz.sizeOf5
 v5 := Tryz.zeroValue5
 t9 := Tryz.underlying9
 a9 := Tryz.isAgg9
 z9 := Tryz.sizeOf9
 v9 := Tryz.zeroValue9 }
open Go.RowKit in
theorem Tryz.strings_IndexByte (s : ByteArray) (c : Int) (w : World) :
  Calls Tryz.prog 312 #[.string s, .int .u8 c] w fun e w' => e = .returned (.int .i64 (Lib.indexByte s.data.toList c.toNat.toUInt8)) ∧ w' = w := Any.strings_IndexByte Tryz.lays137 s c w
def Tryz.lays160_ren : Go.Shelf.Ren := ⟨fun | 160 => 296 | 232 => 353 | 231 => 352 | 227 => 354 | 234 => 356 | 233 => 355 | 236 => 358 | 235 => 357 | 228 => 383 | 271 => 385 | 151 => 384 | 197 => 380 | 120 => 394 | 152 => 393 | 260 => 392 | 137 => 312 | 119 => 395 | 224 => 310 | 225 => 309 | 217 => 308 | 266 => 364 | n => n, fun | 9 => 9 | 4 => 4 | 3 => 3 | 5 => 5 | 117 => 414 | 116 => 413 | 0 => 0 | 124 => 417 | 21 => 21 | 105 => 439 | 46 => 282 | 119 => 450 | 139 => 453 | 138 => 452 | n => n, fun | 3 => 6 | 4 => 7 | n => n⟩
theorem Tryz.lays160 : Go.Proofs.Lays.n160 Tryz.prog Tryz.lays160_ren := {
 mixed := by kernel_rfl
 f119 := Tryz.func395.trans (congrArg some (by kernel_rfl))
 f120 := Tryz.func394.trans (congrArg some (by kernel_rfl))
 f137 := Tryz.func312.trans (congrArg some (by kernel_rfl))
 f151 := Tryz.func384.trans (congrArg some (by kernel_rfl))
 f152 := Tryz.func393.trans (congrArg some (by kernel_rfl))
 f160 := Tryz.func296.trans (congrArg some (by kernel_rfl))
 f197 := Tryz.func380.trans (congrArg some (by kernel_rfl))
 f217 := Tryz.func308.trans (congrArg some (by kernel_rfl))
 f224 := Tryz.func310.trans (congrArg some (by kernel_rfl))
 f225 := Tryz.func309.trans (congrArg some (by kernel_rfl))
 f227 := Tryz.func354.trans (congrArg some (by kernel_rfl))
 f228 := Tryz.func383.trans (congrArg some (by kernel_rfl))
 f231 := Tryz.func352.trans (congrArg some (by kernel_rfl))
 f232 := Tryz.func353.trans (congrArg some (by kernel_rfl))
 f233 := Tryz.func355.trans (congrArg some (by kernel_rfl))
 f234 := Tryz.func356.trans (congrArg some (by kernel_rfl))
 f235 := Tryz.func357.trans (congrArg some (by kernel_rfl))
 f236 := Tryz.func358.trans (congrArg some (by kernel_rfl))
 f260 := Tryz.func392.trans (congrArg some (by kernel_rfl))
 f266 := Tryz.func364.trans (congrArg some (by kernel_rfl))
 f271 := Tryz.func385.trans (congrArg some (by kernel_rfl))
 t0 := Tryz.underlying0
 a0 := Tryz.isAgg0
 z0 := Tryz.sizeOf0
 v0 := Tryz.zeroValue0
 t3 := Tryz.underlying3
 a3 := Tryz.isAgg3
 z3 := Tryz.sizeOf3
 v3 := Tryz.zeroValue3
 t4 := Tryz.underlying4
 a4 := Tryz.isAgg4
 z4 := Tryz.sizeOf4
 v4 := Tryz.zeroValue4
 t5 := Tryz.underlying5
 a5 := Tryz.isAgg5
 z5 := Tryz.sizeOf5
 v5 := Tryz.zeroValue5
 t9 := Tryz.underlying9
 a9 := Tryz.isAgg9
 z9 := Tryz.sizeOf9
 v9 := Tryz.zeroValue9
 t21 := Tryz.underlying21
 a21 := Tryz.isAgg21
 z21 := Tryz.sizeOf21
 v21 := Tryz.zeroValue21
 t46 := Tryz.underlying282
 a46 := Tryz.isAgg282
 z46 := Tryz.sizeOf282
 v46 := Tryz.zeroValue282
 t105 := Tryz.underlying439
 a105 := Tryz.isAgg439
 z105 := Tryz.sizeOf439
 v105 := Tryz.zeroValue439
 t116 := Tryz.underlying413
 a116 := Tryz.isAgg413
 z116 := Tryz.sizeOf413
 t117 := Tryz.underlying414
 a117 := Tryz.isAgg414
 z117 := Tryz.sizeOf414
 v117 := Tryz.zeroValue414
 t119 := Tryz.underlying450
 a119 := Tryz.isAgg450
 z119 := Tryz.sizeOf450
 t124 := Tryz.underlying417
 a124 := Tryz.isAgg417
 z124 := Tryz.sizeOf417
 v124 := Tryz.zeroValue417
 t138 := Tryz.underlying452
 a138 := Tryz.isAgg452
 z138 := Tryz.sizeOf452
 v138 := Tryz.zeroValue452
 t139 := Tryz.underlying453
 a139 := Tryz.isAgg453
 z139 := Tryz.sizeOf453
 v139 := Tryz.zeroValue453
 g3 := by kernel_rfl
 g4 := by kernel_rfl }
open Go.RowKit in
theorem Tryz.strings_Trim (s cutset : ByteArray) (w : World) (hs : s.size ≤ 9223372036854775807) (hcs : cutset.size < 4294967281) (hascii : ∀ (j : Nat) b, cutset.data.toList[j]? = some b → b.toNat < 128) :
  Calls Tryz.prog 296 #[.string s, .string cutset] w fun e w' => e = .returned (.string ⟨(Lib.trimS s.data.toList cutset.data.toList).toArray⟩) ∧ Below w.heap.size w w' := Any.strings_Trim_laid Tryz.lays160 (by kernel_rfl) s cutset w hs hcs hascii
end Go.Proofs
namespace Go.Proofs.YtcploodfholkkaaGreatDoor
open Go.RowKit
set_option maxRecDepth 100000
section
section
variable {P : Program} {B : Bs} {W : Nat → Prop} {s : St'} {o : Oper} {K : St' → Prop} {a : Act} {w w' : World} {Q : Exit → St' → Prop}
def SrcP (P : Program) (B : Bs) (s : St') (x : Operand) (m sz : Nat) (F : Nat → AV) : Prop :=
 ∀ a w, R B s a w → ∃ (ad : Option Addr) (cap : Nat) (us : Nat → Value), a.eval x = .slice ad m cap ∧ (ad = none → m = 0 ∧ cap = 0) ∧ ∀ x0, ad = some x0 → ∀ j, j < m * sz → w.cell? (x0.add j) = some (us j) ∧ Rep w (Zn B s.hp w) (F j) (us j)
theorem SrcP.im {x : Operand} {m sz : Nat} {F : Nat → AV} (hx : evO s x = some (.im m sz F)) : SrcP P B s x m sz F := fun a w hr => by
 have := hr.ev hx
 generalize hv : a.eval x = v at this
 cases this with
 | nil => exact ⟨none, 0, fun _ => undef, rfl, fun _ => ⟨rfl, rfl⟩, fun x0 h => (by cases h)⟩
 | im m sz F b off cap c e u hZ h1 h2 hb hc hr' => exact ⟨some ⟨b, off, none⟩, cap, u, rfl, fun h => (by cases h), fun x0 h j hj => by
   cases h
   exact ⟨by rw [Addr.add_lit]; simpa [World.cell?, hb] using hc j hj, hr' j hj⟩⟩
theorem SrcP.row {x : Operand} {i n sz : Nat} {u : Value} {cs : List AV} {ty : TypeId} (hx : evO s x = some (.v u)) (hi : s.hp[i]? = some (.row u n sz cs ty)) : SrcP P B s x n sz (fun j => cs.getD j .any) := fun a w hr => by
 rw [hr.evv hx]
 obtain ⟨h0, ⟨rfl, rfl⟩ | ⟨g, cap, c, rfl, h1, h2, h3, h4, h5⟩⟩ := hr.blocks _ (List.mem_of_getElem? hi)
 ·exact ⟨none, 0, fun _ => undef, rfl, fun _ => ⟨rfl, rfl⟩, fun x0 h => (by cases h)⟩
 ·refine ⟨_, cap, fun j => c.getD j undef, rfl, fun h => (by cases h), fun x0 h j hj => ?_⟩
  cases h
  obtain ⟨v, k1, k2⟩ := h5 j (by omega)
  rw [Addr.add_lit, Nat.zero_add]
  have e : c.getD j undef = v := by rw [Array.getD_eq_getD_getElem?, k1]; rfl
  refine ⟨by simp only [e]; simpa [World.cell?, h3] using k1, ?_⟩
  simp only [e]
  rw [List.getD_eq_getElem?_getD, List.getElem?_eq_getElem (by omega)]
  exact k2
theorem SrcP.box {x : Operand} {i n sz g off cap : Nat} {o' : Own'} (hx : evO s x = some (.v (.slice (some ⟨g, off, none⟩) n cap))) (hi : s.hp[i]? = some (.box g o')) (hl : off + n * sz ≤ o'.cs.length) : SrcP P B s x n sz (fun j => o'.cs.getD (off + j) .any) := fun a w hr => by
 rw [hr.evv hx]
 obtain ⟨c, h1, h2, h3, h4⟩ := hr.blocks _ (List.mem_of_getElem? hi)
 refine ⟨_, cap, fun j => c.getD (off + j) undef, rfl, fun h => (by cases h), fun x0 h j hj => ?_⟩
 cases h
 obtain ⟨v, k1, k2⟩ := h4 (off + j) (by omega)
 rw [Addr.add_lit]
 have e : c.getD (off + j) undef = v := by rw [Array.getD_eq_getD_getElem?, k1]; rfl
 refine ⟨by simp only [e]; simpa [World.cell?, h1] using k1, ?_⟩
 simp only [e]
 rw [List.getD_eq_getElem?_getD, List.getElem?_eq_getElem (by omega)]
 exact k2
theorem R.splice (hB : B.Ok) (hr : R B s a w) {i g off : Nat} {o' : Own'} {c : Array Value} {l : List AV} {vs : List Value} (hi : s.hp[i]? = some (.box g o')) (hg : w.heap[g]? = some (.cells c o'.ty (0, 0))) (hl : vs.length = l.length)
  (hv : ∀ j, (h : j < l.length) → Rep w (Zn B s.hp w) l[j] (vs.getD j undef)) (hfit : off + l.length ≤ o'.cs.length) :
  R B ⟨s.sl, s.hp.set i (.box g ⟨o'.cs.take off ++ l ++ o'.cs.drop (off + l.length), o'.ty, o'.tot⟩), s.k⟩ a (w.setRow g (c.toList.take off ++ vs ++ c.toList.drop (off + vs.length)).toArray) := by
 have hm := List.mem_of_getElem? hi
 obtain ⟨c0, h1, h2, h3, h4⟩ := hr.blocks _ hm
 have hcc : c0 = c := by rw [hg] at h1; simp at h1; exact h1.symm
 subst hcc
 generalize hc' : (c0.toList.take off ++ vs ++ c0.toList.drop (off + vs.length)).toArray = c'
 generalize hcs' : o'.cs.take off ++ l ++ o'.cs.drop (off + l.length) = cs'
 have hsz' : c'.size = c0.size := by
  rw [← hc']
  simp only [List.size_toArray, List.length_append, List.length_take, List.length_drop, Array.length_toList]
  omega
 have hlen' : cs'.length = o'.cs.length := by
  rw [← hcs']
  simp only [List.length_append, List.length_take, List.length_drop]
  omega
 have hg' := setRow_heap w g c0 c' o'.ty (0, 0) h1
 refine hr.set hB hi (e' := .box g ⟨cs', o'.ty, o'.tot⟩) (w' := w.setRow g c') (chg_setRow w g c') (.inl rfl) ⟨c', hg', by rw [hsz', h2], by show cs'.length ≤ _; rw [hlen']; exact h3, fun q hq => ?_⟩
 have hz : ∀ b, Zn B s.hp w b → b < w.heap.size → (w.setRow g c').heap[b]? = w.heap[b]? ∧ Zn B (s.hp.set i (.box g ⟨cs', o'.ty, o'.tot⟩)) (w.setRow g c') b := fun b hb hbl => by
  refine ⟨setRow_other w g b c' fun e => hb.2.1 _ hm (by rw [e]; rfl), by simp [World.setRow]; exact hbl, fun p hp => ?_, hb.2.2⟩
  rcases List.mem_or_eq_of_mem_set hp with hp | hp
  ·exact hb.2.1 p hp
  ·subst hp; exact hb.2.1 (.box g o') hm
 have hq' : q < o'.cs.length := by rw [← hlen']; exact hq
 have key : ∀ (v : AV) (u : Value), cs'[q]? = some v → c'.toList[q]? = some u → Rep w (Zn B s.hp w) v u → ∃ u, c'[q]? = some u ∧ Rep (w.setRow g c') (Zn B (s.hp.set i (.box g ⟨cs', o'.ty, o'.tot⟩)) (w.setRow g c')) cs'[q] u := fun v u e1 e2 e3 => by
  refine ⟨u, by rw [← Array.getElem?_toList]; exact e2, ?_⟩
  have : cs'[q] = v := by
   rw [List.getElem?_eq_getElem hq] at e1
   exact Option.some.inj e1
  rw [this]
  exact e3.keep hz
 by_cases hin : off ≤ q ∧ q < off + l.length
 ·refine key (l[q - off]'(by omega)) (vs.getD (q - off) undef) ?_ ?_ (hv _ _)
  ·rw [← hcs', List.append_assoc, List.getElem?_append_right (by simp; omega), List.getElem?_append_left (by simp; omega)]
   simp only [List.length_take]
   rw [show q - min off o'.cs.length = q - off by omega]
   exact List.getElem?_eq_getElem _
  ·rw [← hc']
   simp only
   rw [List.append_assoc, List.getElem?_append_right (by simp; omega), List.getElem?_append_left (by simp; omega)]
   simp only [List.length_take, Array.length_toList]
   rw [show q - min off c0.size = q - off by omega, List.getD_eq_getElem?_getD, List.getElem?_eq_getElem (by omega)]
   rfl
 ·obtain ⟨x, k1, k2⟩ := h4 q hq'
  refine key _ x ?_ ?_ k2
  ·rw [← hcs']
   by_cases hlt : q < off
   ·rw [List.append_assoc, List.getElem?_append_left (by simp; omega), List.getElem?_take, if_pos hlt]
    exact List.getElem?_eq_getElem _
   ·rw [List.getElem?_append_right (by simp; omega), List.getElem?_drop]
    simp only [List.length_append, List.length_take]
    rw [show off + l.length + (q - (min off o'.cs.length + l.length)) = q by omega]
    exact List.getElem?_eq_getElem _
  ·rw [← hc']
   simp only
   rw [← Array.getElem?_toList] at k1
   by_cases hlt : q < off
   ·rw [List.append_assoc, List.getElem?_append_left (by simp; omega), List.getElem?_take, if_pos hlt]
    exact k1
   ·rw [List.getElem?_append_right (by simp; omega), List.getElem?_drop]
    simp only [List.length_append, List.length_take, Array.length_toList]
    rw [show off + vs.length + (q - (min off c0.size + vs.length)) = q by omega]
    exact k1
theorem R.swap (hr : R B s a w) {i : Nat} {e e' : Ent} (hi : s.hp[i]? = some e) (hblk : e'.blk = e.blk) (hE : ∀ Z, EntR w Z e → EntR w Z e') : R B ⟨s.sl, s.hp.set i e', s.k⟩ a w := by
 have hil := (List.getElem?_eq_some_iff.1 hi).1
 have hm : ∀ (j : Nat) (p : Ent), (s.hp.set i e')[j]? = some p → ∃ p', s.hp[j]? = some p' ∧ p'.blk = p.blk ∧ (p' = p ∨ (p' = e ∧ p = e')) := fun j p hp => by
  by_cases h : i = j
  ·subst h
   rw [List.getElem?_set_self hil] at hp
   cases hp
   exact ⟨e, hi, hblk.symm, .inr ⟨rfl, rfl⟩⟩
  ·rw [List.getElem?_set_ne h] at hp
   exact ⟨p, hp, rfl, .inl rfl⟩
 have hz : ∀ b, Zn B s.hp w b → Zn B (s.hp.set i e') w b := fun b hb => ⟨hb.1, fun q hq => by
  obtain ⟨j, hj⟩ := List.mem_iff_getElem?.1 hq
  obtain ⟨q', r1, r2, _⟩ := hm j q hj
  rw [← r2]; exact hb.2.1 q' (List.mem_of_getElem? r1), hb.2.2⟩
 refine ⟨fun t x hx => (hr.slots t x hx).keep fun b hb _ => ⟨rfl, hz b hb⟩, hr.size, hr.defs, fun p hp => ?_, ?_, hr.chg, fun p hp g' hg => ?_, hr.res⟩
 ·obtain ⟨j, hj⟩ := List.mem_iff_getElem?.1 hp
  obtain ⟨p', k1, k2, k3⟩ := hm j p hj
  have hE1 := hr.blocks p' (List.mem_of_getElem? k1)
  rcases k3 with rfl | ⟨rfl, rfl⟩
  ·exact hE1.keep (fun b hb _ => ⟨rfl, hz b hb⟩) fun _ _ => rfl
  ·exact (hE _ hE1).keep (fun b hb _ => ⟨rfl, hz b hb⟩) fun _ _ => rfl
 ·refine Apart.of fun j1 j2 p q hij hp hq g' hg1 hg2 => ?_
  obtain ⟨p', k1, k2, _⟩ := hm j1 p hp
  obtain ⟨q', r1, r2, _⟩ := hm j2 q hq
  exact hr.nodup.get k1 r1 (by omega) (k2.trans hg1) (r2.trans hg2)
 ·obtain ⟨j, hj⟩ := List.mem_iff_getElem?.1 hp
  obtain ⟨p', k1, k2, _⟩ := hm j p hj
  exact hr.own p' (List.mem_of_getElem? k1) g' (k2.trans hg)
theorem OpE.clear {x : Operand} {T e i n sz g off cap : Nat} {o' : Own'} {z : Value} (ho : o.op = .call { callee := .builtin .clear, args := #[x], argTypes := #[T] }) (hB : B.Ok) (hd : okd B.nt o.dst = true)
  (hu : P.underlying T = some (.slice e)) (hz : ∀ w, (zeroValue e).run P w = .ok z w) (hzs : z.cells.size = sz) (hz1 : ∀ v ∈ z.cells.toList, v.oneCell' = true) (hx : evO s x = some (.v (.slice (some ⟨g, off, none⟩) n cap))) (hi : s.hp[i]? = some (.box g o'))
  (hfit : off + n * sz ≤ o'.cs.length) (hW : W g)
  (hK : K ((St'.mk s.sl (s.hp.set i (.box g ⟨o'.cs.take off, o'.ty, o'.tot⟩)) s.k).put o.dst (.tup []))) : OpE P B W s o K := by
 intro a w hr next Qx hn
 obtain ⟨c0, h1, h2, h3, h4⟩ := hr.blocks _ (List.mem_of_getElem? hi)
 generalize hvs : (Builtin.zeroCells z.cells n).toList = vs
 have hvl : vs.length = n * sz := by rw [← hvs, Array.length_toList, size_zeroCells, hzs]
 have hvone : ∀ v ∈ vs, v.oneCell' = true := fun v hv => by
  rw [← hvs] at hv
  simp only [Builtin.zeroCells, Array.toList_map, List.mem_map] at hv
  obtain ⟨j, hj, rfl⟩ := hv
  by_cases hzz : z.cells.size = 0
  ·have : vs.length = 0 := by rw [hvl, ← hzs, hzz, Nat.mul_zero]
   have h0 : (Array.range (n * z.cells.size)).toList = [] := by simp [hzz]
   rw [h0] at hj; cases hj
  ·have hlt : j % z.cells.size < z.cells.size := Nat.mod_lt _ (by omega)
   rw [getElem!_pos z.cells _ hlt]
   exact hz1 _ (by simp)
 have hsp := hr.splice hB (off := off) (l := vs.map .v) (vs := vs) hi h1 (by simp) (fun j hj => by
  simp at hj
  rw [List.getElem_map, List.getD_eq_getElem?_getD, List.getElem?_eq_getElem hj]
  exact .v _) (by rw [List.length_map, hvl]; exact hfit)
 have hst := run_storeCells_at P g off o'.ty vs 0 c0 w h1 (by rw [hvl]; omega) hvone
 simp only [Nat.add_zero] at hst
 have hil := (List.getElem?_eq_some_iff.1 hi).1
 have hsh := hsp.swap (i := i) (e := .box g ⟨o'.cs.take off ++ vs.map .v ++ o'.cs.drop (off + (vs.map AV.v).length), o'.ty, o'.tot⟩) (e' := .box g ⟨o'.cs.take off, o'.ty, o'.tot⟩) (by simp [hil]) rfl (fun Z hE => by
  obtain ⟨c, e1, e2, e3, e4⟩ := hE
  refine ⟨c, e1, e2, by simp only at e3 ⊢; simp only [List.length_append, List.length_take] at e3 ⊢; omega, fun q hq => ?_⟩
  have hq' : q < off ∧ q < o'.cs.length := by simp at hq; omega
  obtain ⟨u, r1, r2⟩ := e4 q (by simp; omega)
  refine ⟨u, r1, ?_⟩
  simp only at r2 ⊢
  rw [List.getElem_append_left (by simp; omega), List.getElem_append_left (by simp; omega)] at r2
  exact r2)
 simp only [List.set_set] at hsh
 have hrun : (Builtin.clear_ #[T] o.type #[.slice (some ⟨g, off, none⟩) n cap]).run P w = .ok (.tuple #[]) (w.setRow g (c0.toList.take off ++ vs ++ c0.toList.drop (off + vs.length)).toArray) := by
  cases n with
  | zero =>
   have : vs = [] := List.eq_nil_of_length_eq_zero (by rw [hvl]; simp)
   subst this
   have hs := setRow_self w g c0 o'.ty (0, 0) h1
   simp [Builtin.clear_, run_underlying hu, hs]
  | succ n => simp [Builtin.clear_, run_underlying hu, hz, hvs, hst]
 unfold Oper.wp
 simp only [execOp, ho, resolve, invoke, builtin, List.map_toArray, List.map_cons, List.map_nil, hr.evv hx, Sem.run_bind, Sem.run_pure, Result.andThen_ok, hrun]
 exact hn _ _ _ hK (hsh.put _ hd _ _ (.tup _ _ rfl fun j hj => by simp at hj)) ((chg_setRow w g _).mono fun b _ h => .inr (by cases h; exact hW))
theorem OpE.appendP {x y : Operand} {T e i n m sz bytes : Nat} {u z : Value} {cs cs' : List AV} {F : Nat → AV} (ho : o.op = .call { callee := .builtin .append, args := #[x, y], argTypes := #[T, T] }) (hB : B.Ok) (hd : okd B.nt o.dst = true)
  (hu : P.underlying T = some (.slice e)) (hinfo : (P.info? e).map (fun i => (i.zero, i.size, i.bytes)) = some (some z, sz, bytes)) (hz : z.cells.size = sz) (hsz : 0 < sz) (hby : bytes ≤ 4096)
  (hx : evO s x = some (.v u)) (hi : s.hp[i]? = some (.row u n sz cs e)) (hy : SrcP P B s y m sz F) (hone : ∀ j, j < m * sz → (F j).one = true) (hlen : n + m ≤ 10000000000) (hcs : cs ++ tab (m * sz) F = cs') (hW : ∀ g, u.ownBlock = some g → W g)
  (hK : ∀ u', K ((St'.mk s.sl (s.hp.set i (.row u' (n + m) sz cs' e)) s.k).put o.dst (.v u'))) : OpE P B W s o K := by
 subst hcs
 obtain ⟨ii, hii, hz0, hz1, hz2⟩ := info_parts hinfo
 intro a w hr next Qx hn
 have hmem := List.mem_of_getElem? hi
 obtain ⟨ad, cap2, v2, hv, hnil, hsrc⟩ := hy a w hr
 obtain ⟨hl0, hrow⟩ := hr.blocks _ hmem
 have hil := (List.getElem?_eq_some_iff.1 hi).1
 by_cases hm0 : m = 0
 ·subst hm0
  have hset : s.hp.set i (.row u (n + 0) sz (cs ++ tab (0 * sz) F) e) = s.hp := by
   rw [Nat.zero_mul]
   simp only [tab, List.append_nil, Nat.add_zero]
   apply List.ext_getElem?
   intro j
   rw [List.getElem?_set]
   split
   ·rename_i h; subst h; first | (rw [if_pos hil]; exact hi.symm) | exact hi.symm
   ·rfl
  have hrun : (Builtin.append_ #[T, T] o.type #[u, .slice ad 0 cap2]).run P w = .ok u w := by
   have hf : ∀ w, (Builtin.firstCells sz 0 (.slice ad 0 cap2)).run P w = .ok #[] w := fun w => by
    cases ad with
    | none => rfl
    | some x0 =>
     have := run_loadCells_list (P := P) w x0 [] (fun j v hj => by simp at hj)
     simpa [Builtin.firstCells] using this
   subst hz1
   rcases hrow with ⟨rfl, rfl⟩ | ⟨g, cap, c, rfl, k1, k2, k3, k4, k5⟩
   ·simp [Builtin.append_, run_underlying hu, sizeOf, typeInfo, hii, Builtin.lenOf, hf]
   ·simp [Builtin.append_, run_underlying hu, sizeOf, typeInfo, hii, Builtin.lenOf, hf, k1, storeCells]
  have := hK u
  rw [hset] at this
  unfold Oper.wp
  simp only [execOp, ho, resolve, invoke, builtin, List.map_toArray, List.map_cons, List.map_nil, hr.evv hx, hv, Sem.run_bind, Sem.run_pure, Result.andThen_ok, hrun]
  exact hn _ _ _ this (hr.put _ hd _ _ (.v _)) (Ew.rf _)
 obtain ⟨x0, rfl⟩ : ∃ x0, ad = some x0 := by
  cases ad with
  | none => exact absurd (hnil rfl).1 hm0
  | some x0 => exact ⟨x0, rfl⟩
 obtain ⟨old, hrow', hold⟩ : ∃ old : Nat → Value, ((u = .slice none 0 0 ∧ n = 0) ∨ ∃ g cap c, u = .slice (some ⟨g, 0, none⟩) n cap ∧ n ≤ cap ∧ cap ≤ maxLen ∧ w.heap[g]? = some (.cells c e (0, 0)) ∧ c.size = cap * sz ∧ ∀ j, j < n * sz → c[j]? = some (old j)) ∧
   ∀ j, (h : j < cs.length) → Rep w (Zn B s.hp w) cs[j] (old j) := by
  rcases hrow with ⟨h, rfl⟩ | ⟨g, cap, c, h, k1, k2, k3, k4, k5⟩
  ·exact ⟨fun _ => undef, .inl ⟨h, rfl⟩, fun j hj => by omega⟩
  ·refine ⟨fun j => c.getD j undef, .inr ⟨g, cap, c, h, k1, k2, k3, k4, fun j hj => ?_⟩, fun j hj => ?_⟩
   ·obtain ⟨x, q1, _⟩ := k5 j (by omega)
    exact getD_lt (Array.getElem?_eq_some_iff.1 q1).1
   ·obtain ⟨x, q1, q2⟩ := k5 j hj
    simp only
    rw [show c.getD j undef = x by rw [Array.getD_eq_getD_getElem?, q1]; rfl]
    exact q2
 obtain ⟨g, cap, w', c, hrun, e1, e2', e3, e4, e5, e6, e7, e8⟩ := append_run (P := P) w T o.type e ii z sz bytes hu hii hz0 hz1 hz2 hz hsz hby u n old hrow' x0 m cap2 v2
  (fun j hj => (hsrc x0 rfl j hj).1) (fun j hj => (hsrc x0 rfl j hj).2.oneC (hone j hj)) (by omega) hlen
 have hblk : (Ent.row (.slice (some ⟨g, 0, none⟩) (n + m) cap) (n + m) sz (cs ++ tab (m * sz) F) e).blk = (Ent.row u n sz cs e).blk ∨ ∃ g', (Ent.row (.slice (some ⟨g, 0, none⟩) (n + m) cap) (n + m) sz (cs ++ tab (m * sz) F) e).blk = some g' ∧ w.heap.size ≤ g' := by
  rcases e8 with e8 | e8
  ·exact .inl (by simp only [Ent.blk]; rw [e8]; rfl)
  ·exact .inr ⟨g, rfl, e8⟩
 have hr' := hr.set hB hi (e' := .row (.slice (some ⟨g, 0, none⟩) (n + m) cap) (n + m) sz (cs ++ tab (m * sz) F) e) e7 hblk (by
  have hz : ∀ b, Zn B s.hp w b → b < w.heap.size → w'.heap[b]? = w.heap[b]? ∧ Zn B (s.hp.set i (.row (.slice (some ⟨g, 0, none⟩) (n + m) cap) (n + m) sz (cs ++ tab (m * sz) F) e)) w' b := fun b hb hbl => by
   refine ⟨e7.block b hbl fun h => hb.2.1 _ hmem h, Nat.lt_of_lt_of_le hbl e7.size, fun p hp => ?_, hb.2.2⟩
   rcases List.mem_or_eq_of_mem_set hp with hp | hp
   ·exact hb.2.1 p hp
   ·subst hp
    rcases hblk with h | ⟨g', h, hg'⟩
    ·rw [h]; exact hb.2.1 _ hmem
    ·rw [h]; intro h'; simp at h'; omega
  refine ⟨by rw [List.length_append, hl0, tab_len, Nat.add_mul], .inr ⟨g, cap, c, rfl, e1, e2', e3, e4, fun j hj => ?_⟩⟩
  by_cases hjl : j < cs.length
  ·rw [List.getElem_append_left hjl]
   exact ⟨old j, e5 j (by omega), (hold j hjl).keep hz⟩
  ·rw [List.getElem_append_right (by omega)]
   simp [tab_len] at hj
   refine ⟨v2 (j - cs.length), ?_, ?_⟩
   ·have := e6 (j - cs.length) (by omega)
    rwa [show n * sz + (j - cs.length) = j by omega] at this
   ·rw [tab_get]
    exact (hsrc x0 rfl _ (by omega)).2.keep hz)
 unfold Oper.wp
 simp only [execOp, ho, resolve, invoke, builtin, List.map_toArray, List.map_cons, List.map_nil, hr.evv hx, hv, Sem.run_bind, Sem.run_pure, Result.andThen_ok, hrun]
 exact hn _ _ _ (hK _) (hr'.put _ hd _ _ (.v _)) (e7.mono fun b _ h => .inr (hW b h))
theorem OpE.buildSlice0 {t e sz : Nat} (ho : o.op = .buildSlice t 0 #[]) (hB : B.Ok) (hd : okd B.nt o.dst = true) (hu : P.underlying t = some (.slice e)) (hsz : ∀ w, (sizeOf e).run P w = .ok sz w)
  (hK : ∀ g, K ((St'.mk s.sl (s.hp ++ [.row (.slice (some ⟨g, 0, none⟩) 0 0) 0 sz [] e]) s.k).put o.dst (.v (.slice (some ⟨g, 0, none⟩) 0 0)))) : OpE P B W s o K := by
 intro a w hr next Qx hn
 have h1 := hr.new hB (.cells #[] e) (.row (.slice (some ⟨w.heap.size, 0, none⟩) 0 0) 0 sz [] e) rfl ⟨by simp, .inr ⟨w.heap.size, 0, #[], rfl, Nat.le_refl _, by simp [maxLen], heap_alloc_new w _, by simp, fun j hj => by simp at hj⟩⟩
 have hz0 : ∀ f : Nat → Value, Array.map f (Array.range 0) = #[] := fun f => by
  apply Array.ext (by simp)
  intro i hi
  simp at hi
 have hrun : (execOp a.eval o).run P w = .ok (.value (.slice (some ⟨w.heap.size, 0, none⟩) 0 0)) (w.alloc (.cells #[] e)) := by
  simp only [execOp, ho, Instr.buildSlice, newRow, Sem.run_bind, run_underlying hu, hsz, Result.andThen_ok, Sem.run_pure, Nat.zero_mul, if_true, if_false, hz0]
  simp [Instr.fill, run_newObj_alloc, hz0]
 unfold Oper.wp
 rw [hrun]
 exact hn _ _ _ (hK _) (h1.put _ hd _ _ (.v _)) (.ofN ((Chg.refl _ _).alloc _))
theorem OpE.eqNil {x : Operand} {t u e n sz : Nat} {F : Nat → AV} (ho : o.op = .binOp .eql t x (.const (.slice none 0 0)) u) (hd : okd B.nt o.dst = true) (hu : P.underlying t = some (.slice e)) (hx : evO s x = some (.im n sz F))
  (hK : ∀ b : Bool, (b = true → n = 0) → K (s.put o.dst (avB b))) : OpE P B W s o K := by
 intro a w hr next Qx hn
 have := hr.ev hx
 generalize hv : a.eval x = v at this
 have key : ∃ ad cap, v = .slice ad n cap ∧ (ad = none → n = 0) := by
  cases this with
  | nil => exact ⟨none, 0, rfl, fun _ => rfl⟩
  | im n sz f b off cap c e u hZ h1 h2 hb hc hr' => exact ⟨some ⟨b, off, none⟩, cap, rfl, fun h => (by cases h)⟩
 obtain ⟨ad, cap, rfl, hnil⟩ := key
 have hrun := fun w => Lib.run_eql_slice_nil (P := P) w t e ad n cap 0 0 hu
 have hc : a.eval (.const (.slice none 0 0)) = .slice none 0 0 := rfl
 have hrun' : (execOp a.eval o).run P w = .ok (.value (.bool ad.isNone)) w := by
  simp only [execOp, ho, hv, hc, eqGuard, Sem.run_bind, Sem.run_pure, Result.andThen_ok, hrun]
  simp
 unfold Oper.wp
 rw [hrun']
 exact hn _ _ _ (hK ad.isNone fun h => hnil (by cases ad <;> simp_all)) (hr.put _ hd _ _ (.v _)) (Ew.rf _)
theorem VO.eqNil {ops : Array Oper} {rest : List Oper} {x : Operand} {t u e n sz : Nat} {F : Nat → AV} (hg : o.guard = none) (ho : o.op = .binOp .eql t x (.const (.slice none 0 0)) u) (hd : okd B.nt o.dst = true) (hu : P.underlying t = some (.slice e)) (hx : evO s x = some (.im n sz F))
  (hK : ∀ b : Bool, (b = true → n = 0) → VO P B ops rest Q (s.put o.dst (avB b))) : VO P B ops (o :: rest) Q s := VO.op hg (OpE.eqNil ho hd hu hx hK)
end
theorem SpecR.of_VC {P : Program} {F : FuncId} {fn : Func} {c : Code} (hf : P.funcs[F]? = some fn) (hb : fn.body = some c) {xs : List AV} {n sz : Nat} {cs : List AV} {ty : TypeId} {nt : Nat} (hn : fn.ntmps = nt) (hle : xs.length ≤ nt) (hfl : ∀ x ∈ cs, ∃ v, x = .v v)
  (h : ∀ w A, (B0 w A nt).Ok → VC P (B0 w A nt) c (retS P fn fun y s => ∃ u, y = .v u ∧ .row u n sz cs ty ∈ s.hp) ⟨slots0 0 xs, [], 0⟩) : SpecR P F xs n sz cs ty := fun w us ha =>
 (calls_of_VC (k := 0) hf hb (B := B0 w (fun _ => True) nt) rfl hn.symm ha (fun _ h => h.elim) trivial (by omega) (h w _ (B0.ok _ _ _))).mono fun e w' ⟨y, v, s, a, ⟨u, h0, h1⟩, h2, h3, h4⟩ => by
  subst h0
  have hv := h3.eq_v
  subst hv
  refine ⟨_, h2, ?_, fun g hg => ?_, h4.chg⟩
  ·obtain ⟨k0, k1⟩ := h4.blocks _ h1
   refine ⟨k0, k1.imp id fun ⟨g, cap, c, q1, q2, q3, q4, q5, q6⟩ => ⟨g, cap, c, q1, q2, q3, q4, q5, fun j hj => ?_⟩⟩
   obtain ⟨u, r1, r2⟩ := q6 j hj
   obtain ⟨v', hv'⟩ := hfl _ (List.getElem_mem hj)
   refine ⟨u, r1, ?_⟩
   rw [hv'] at r2 ⊢
   rw [r2.eq_v]
   exact .v _
  ·have : ¬ g < w.heap.size := h4.isNew (fun b h => h) h1 hg
   omega
theorem ArgP.boxS {P : Program} {B : Bs} {s : St'} {x : Operand} {i n g cap : Nat} {xs : List ByteArray} {ty : TypeId} {tot : Nat} (hx : evO s x = some (.v (.slice (some ⟨g, 0, none⟩) n cap))) (hi : s.hp[i]? = some (.box g ⟨strsL xs, ty, tot⟩)) (hn : n = xs.length) (hcap : n ≤ cap) (hm : cap ≤ maxLen) : ArgP P B s x (avStrs xs) :=
 ArgP.box (n := n) (sz := 1) hx hi (by show 0 + n * 1 ≤ (strsL xs).length; rw [strsL_len]; omega) hcap hm fun w Z u h => Rep.strs hn (h.im_congr fun j hj => by rw [Nat.zero_add])
theorem Le.boxS {B : Bs} {s : St'} {t i n g cap : Nat} {xs : List ByteArray} {ty : TypeId} {tot : Nat} (hB : B.Ok) (hnew : True) (ht : look s.sl t = some (.v (.slice (some ⟨g, 0, none⟩) n cap))) (hi : s.hp[i]? = some (.box g ⟨strsL xs, ty, tot⟩)) (hn : n = xs.length) (hcap : n ≤ cap) (hm : cap ≤ maxLen) :
  Le B s ⟨(t, avStrs xs) :: s.sl, s.hp.eraseIdx i, s.k⟩ :=
 Le.box (n := n) (sz := 1) hB hnew ht hi (by show 0 + n * 1 ≤ (strsL xs).length; rw [strsL_len]; omega) hcap hm fun w Z u h => Rep.strs hn (h.im_congr fun j hj => by rw [Nat.zero_add])
class Sx1 (α : Type) [Inhabited α] where
 cell : α → AV
section
variable {α : Type} [Inhabited α] [Sx1 α]
abbrev avM (xs : List α) : AV := .im xs.length 1 fun j => Sx1.cell (xs.getD j default)
def listM (xs : List α) : List AV := xs.map Sx1.cell
theorem listM_snoc (xs : List α) (x : α) : listM xs ++ [Sx1.cell x] = listM (xs ++ [x]) := by simp [listM]
theorem Rep.listM {w : World} {Z : Nat → Prop} {xs : List α} {n : Nat} (hn : n = xs.length) {u : Value} (h : Rep w Z (.im n 1 fun j => (listM xs).getD j .any) u) : Rep w Z (avM xs) u := by
 subst hn
 exact h.im_congr fun j hj => by simp at hj; simp [Proofs.YtcploodfholkkaaGreatDoor.listM, hj]
theorem OpV.slice_M {P : Program} {B : Bs} {W : Nat → Prop} {s : St'} {o : Oper} {t e : Nat} {x : Operand} {lo hi : Option Operand} {l h : Nat} {xs : List α} (ho : o.op = .slice t x lo hi none) (hu : P.underlying t = some (.slice e)) (hsz : ∀ w, (sizeOf e).run P w = .ok 1 w) (hx : evO s x = some (avM xs))
  (hl : BndO s lo 0 l) (hh : BndO s hi xs.length h) (h1 : l ≤ h) (h2 : h ≤ xs.length) : OpV P B W s o (avM ((xs.take h).drop l)) :=
 (OpV.slice_im ho hu hsz hx hl hh h1 h2).recast fun w Z u hr => by
  rw [avM, len_cut h2]
  exact hr.im_congr fun j hj => by rw [Nat.mul_one] at hj ⊢; rw [getD_cut h2 hj]
end
instance : Sx1 (List ByteArray) := ⟨fun x => avStrs x⟩
instance : Sx1 (List Int) := ⟨fun x => avInts x⟩
end
section
theorem tab_ints (xs : List Int) : tab (xs.length * 1) (fun j => avI (xs.getD j 0)) = intsL xs := by
 apply List.ext_getElem (by rw [tab_len, intsL_len, Nat.mul_one])
 intro i h1 h2
 rw [tab_get]
 rw [intsL_len] at h2
 simp [intsL, h2]
theorem tab_strs (xs : List ByteArray) : tab (xs.length * 1) (fun j => avS (xs.getD j ByteArray.empty)) = strsL xs := by
 apply List.ext_getElem (by rw [tab_len, strsL_len, Nat.mul_one])
 intro i h1 h2
 rw [tab_get]
 rw [strsL_len] at h2
 simp [strsL, h2]
theorem slices_Clone_R {xs : List Int} (hl : xs.length ≤ 1000000000) :
  SpecR Tryz.prog 26 [avInts xs] xs.length 1 (intsL xs) 3 := by
 refine SpecR.of_VC Tryz.func26 rfl Tryz.ntmps26 (Nle rfl) (by first | exact flat_ints _ | exact flat_strs _ | exact flat_bools _) fun w A hB => ?_
 refine VC.sr ?_
 refine VO.mb ?_
 refine VO.nil ?_
 refine VC.seq ?_
 refine VC.sr ?_
 refine VO.mw ?_
 refine VO.op rfl (OpE.eqNil rfl rfl Tryz.underlying22 rfl ?_)
 intro b4 hb4
 refine VO.nil ?_
 refine VC.cond rfl (fun h0b => ?_) (fun h0b => ?_)
 ·have h0 := h0b
  try simp only [qq] at h0
  refine VC.sr ?_
  refine VO.mb ?_
  refine VO.nil ?_
  obtain rfl : xs = [] := List.eq_nil_of_length_eq_zero (hb4 h0)
  refine VC.le _ (Le.nilRow 1 3) ?_
  refine VC.ret ?_
  exact Exists.intro _ (And.intro (RetV.one Tryz.results26 (ResV.tmp rfl)) (⟨_, rfl, List.Mem.head _⟩))
 ·have h0 := h0b
  try simp only [qq] at h0
  refine VC.skip ?_
  refine VC.sr ?_
  refine VO.op rfl (OpE.buildSlice0 rfl hB rfl Tryz.underlying22 Tryz.sizeOf3 ?_)
  intro g5
  refine VO.mw ?_
  refine VO.op rfl (OpE.appendP (i := 0) rfl hB rfl Tryz.underlying22 (infoOf Tryz.t3 1 (by kernel_rfl) rfl rfl) rfl (by decide) (by decide) rfl rfl (.im rfl) (fun _ _ => rfl) (by omega) (tab_ints xs) (fun _ _ => trivial) ?_)
  intro u7
  refine VO.mb ?_
  refine VO.nil ?_
  rw [Nat.zero_add]
  refine VC.ret ?_
  exact Exists.intro _ (And.intro (RetV.one Tryz.results26 (ResV.tmp rfl)) (⟨_, rfl, List.Mem.head _⟩))
theorem slices_CloneS_R {xs : List ByteArray} (hl : xs.length ≤ 1000000000) :
  SpecR Tryz.prog 235 [avStrs xs] xs.length 1 (strsL xs) 9 := by
 refine SpecR.of_VC Tryz.func235 rfl Tryz.ntmps235 (Nle rfl) (by first | exact flat_ints _ | exact flat_strs _ | exact flat_bools _) fun w A hB => ?_
 refine VC.sr ?_
 refine VO.mb ?_
 refine VO.nil ?_
 refine VC.seq ?_
 refine VC.sr ?_
 refine VO.mw ?_
 refine VO.op rfl (OpE.eqNil rfl rfl Tryz.underlying82 rfl ?_)
 intro b4 hb4
 refine VO.nil ?_
 refine VC.cond rfl (fun h0b => ?_) (fun h0b => ?_)
 ·have h0 := h0b
  try simp only [qq] at h0
  refine VC.sr ?_
  refine VO.mb ?_
  refine VO.nil ?_
  obtain rfl : xs = [] := List.eq_nil_of_length_eq_zero (hb4 h0)
  refine VC.le _ (Le.nilRow 1 9) ?_
  refine VC.ret ?_
  exact Exists.intro _ (And.intro (RetV.one Tryz.results235 (ResV.tmp rfl)) (⟨_, rfl, List.Mem.head _⟩))
 ·have h0 := h0b
  try simp only [qq] at h0
  refine VC.skip ?_
  refine VC.sr ?_
  refine VO.op rfl (OpE.buildSlice0 rfl hB rfl Tryz.underlying82 Tryz.sizeOf9 ?_)
  intro g5
  refine VO.mw ?_
  refine VO.op rfl (OpE.appendP (i := 0) rfl hB rfl Tryz.underlying82 (infoOf Tryz.t9 1 (by kernel_rfl) rfl rfl) rfl (by decide) (by decide) rfl rfl (.im rfl) (fun _ _ => rfl) (by omega) (tab_strs xs) (fun _ _ => trivial) ?_)
  intro u7
  refine VO.mb ?_
  refine VO.nil ?_
  rw [Nat.zero_add]
  refine VC.ret ?_
  exact Exists.intro _ (And.intro (RetV.one Tryz.results235 (ResV.tmp rfl)) (⟨_, rfl, List.Mem.head _⟩))
end
section
theorem kit_Outside {n a b : Int}  :
  SpecN Tryz.prog 161 [avI n, avI a, avI b] (fun y => y = avB (decide (n < a) || decide (b < n))) := by
 refine SpecN.of_VCN Tryz.func161 rfl Tryz.ntmps161 (Nle rfl) fun w A hB => ?_
 refine VC.sr ?_
 refine VO.mb ?_
 refine VO.nil ?_
 refine VC.sr ?_
 refine VO.mw ?_
 refine VO.mw ?_
 refine VO.vv (OpV.lss rfl rfl rfl) ?_
 refine VO.mw ?_
 refine VO.opG rfl rfl rfl rfl (fun aK1b => ?_) (fun aK1b => ?_)
 ·replace aK1b : _ = false := aK1b
  have aK1 := aK1b
  try simp only [qq] at aK1
  refine OpE.val (W := NoB) (OpV.move (.inl rfl) rfl) rfl ?_
  refine VO.opY rfl rfl rfl rfl aK1b ?_
  refine OpE.val (W := NoB) (OpV.move (.inl rfl) rfl) rfl ?_
  refine VO.opY rfl rfl rfl rfl aK1b ?_
  refine OpE.val (W := NoB) (OpV.gtr rfl rfl rfl) rfl ?_
  refine VO.vv (OpV.pickF rfl rfl rfl rfl aK1b) ?_
  refine VO.mb ?_
  refine VO.nil ?_
  refine VC.ret ?_
  exact Exists.intro _ (And.intro (RetN.one Tryz.results161 (ResN.v rfl)) (by first | rfl | simp [*]))
 ·replace aK1b : _ = true := aK1b
  have aK1 := aK1b
  try simp only [qq] at aK1
  refine VO.opX rfl rfl rfl rfl aK1b ?_
  refine VO.opX rfl rfl rfl rfl aK1b ?_
  refine VO.vv (OpV.pickT rfl rfl rfl rfl aK1b) ?_
  refine VO.mb ?_
  refine VO.nil ?_
  refine VC.ret ?_
  exact Exists.intro _ (And.intro (RetN.one Tryz.results161 (ResN.v rfl)) (by first | rfl | simp [*]))
end
end Go.Proofs.YtcploodfholkkaaGreatDoor
