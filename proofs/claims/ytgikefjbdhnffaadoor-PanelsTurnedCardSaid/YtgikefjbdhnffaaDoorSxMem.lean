/- The symbolic walk's rules for the operations that make or write memory. -/
import Derived.Test.YtgikefjbdhnffaaDoorSxOps
import Derived.Laws.CopyRow
namespace Go.Proofs.YtgikefjbdhnffaaDoor
open Go.RowKit
set_option linter.unusedVariables false
set_option linter.unusedSimpArgs false

theorem Apart.get {hp : List Ent} (h : Apart hp) {i j : Nat} {p q : Ent} (hi : hp[i]? = some p) (hj : hp[j]? = some q) (hij : i ≠ j) {g : Nat} (hp' : p.blk = some g) : q.blk ≠ some g := by
  unfold Apart at h
  rw [List.pairwise_iff_getElem] at h
  obtain ⟨hil, rfl⟩ := List.getElem?_eq_some_iff.1 hi
  obtain ⟨hjl, rfl⟩ := List.getElem?_eq_some_iff.1 hj
  rcases Nat.lt_or_gt_of_ne hij with hlt | hlt
  · exact h i j hil hjl hlt g hp'
  · exact fun hq => h j i hjl hil hlt g hq hp'

theorem Apart.of {hp : List Ent} (h : ∀ (i j : Nat) (p q : Ent), i < j → hp[i]? = some p → hp[j]? = some q → ∀ g, p.blk = some g → q.blk ≠ some g) : Apart hp := by
  unfold Apart
  rw [List.pairwise_iff_getElem]
  exact fun i j hi hj hij g hg => h i j _ _ hij (List.getElem?_eq_getElem hi) (List.getElem?_eq_getElem hj) g hg

section
variable {P : Program} {B : Bs} {W : Nat → Prop} {s : St'} {a : Act} {w w' : World} {o : Oper} {K : St' → Prop}

theorem R.zone (hr : R B s a w) : ∀ b, Zn B s.hp w b → ∀ p ∈ s.hp, p.blk ≠ some b := fun b h => h.2.1

/-- The world goes on: only the resource's blocks have changed, new ones may have come. -/
theorem R.step (hB : B.Ok) (hr : R B s a w) {S' : Nat → Prop} (hc : Chg S' w w') (hS : ∀ b, S' b → B.str b) {k : Nat} (hT : B.T w' k) : R B ⟨s.sl, s.hp, k⟩ a w' := by
  have hz : ∀ b, Zn B s.hp w b → b < w.heap.size → w'.heap[b]? = w.heap[b]? ∧ Zn B s.hp w' b := fun b hb hl => by
    refine ⟨hc.block b hl fun h => ?_, Nat.lt_of_lt_of_le hl hc.size, hb.2.1, hb.2.2⟩
    obtain ⟨h1, h2⟩ := hB.str b (hS b h)
    exact (hb.2.2 (hB.low b h1)).2 (hS b h)
  refine ⟨fun t x hx => (hr.slots t x hx).keep hz, hr.size, hr.defs, fun p hp => (hr.blocks p hp).keep hz fun g hg => hc.block g (hr.lt p hp g hg) fun h => ?_, hr.nodup,
    hr.chg.trans (hc.mono fun b _ h => (hB.str b (hS b h)).2), hr.own, hT⟩
  exact (hr.own p hp g hg).1 (hB.str g (hS g h)).1

theorem R.stepN (hB : B.Ok) (hr : R B s a w) (hc : Chg NoB w w') : R B s a w' :=
  hr.step hB hc (fun b h => h.elim) (hB.keep hr.res hc fun j _ h => h)

/-- A new block, of which nothing is claimed: it is one more that nobody changes. -/
theorem R.alloc (hB : B.Ok) (hr : R B s a w) (ob : Obj) : R B s a (w.alloc ob) := hr.stepN hB ((Chg.refl _ _).alloc _)

theorem R.newZone (hr : R B s a w) (ob : Obj) : Zn B s.hp (w.alloc ob) w.heap.size := by
  refine ⟨by simp, fun p hp h => ?_, fun h => ?_⟩
  · exact absurd (hr.lt p hp _ h) (Nat.lt_irrefl _)
  · have := hr.chg.size; omega

/-- An entry more, in the new block. -/
theorem R.new (hB : B.Ok) (hr : R B s a w) (ob : Obj) (e : Ent) (hb : e.blk = some w.heap.size) (hE : EntR (w.alloc ob) (Zn B (s.hp ++ [e]) (w.alloc ob)) e) : R B ⟨s.sl, s.hp ++ [e], s.k⟩ a (w.alloc ob) := by
  have hz : ∀ b, Zn B s.hp w b → b < w.heap.size → (w.alloc ob).heap[b]? = w.heap[b]? ∧ Zn B (s.hp ++ [e]) (w.alloc ob) b := fun b hb' hl => by
    refine ⟨Below.heap_alloc _ _ _ hl, by simp; omega, fun p hp => ?_, hb'.2.2⟩
    rcases List.mem_append.1 hp with hp | hp
    · exact hb'.2.1 p hp
    · simp at hp; subst hp; rw [hb]; intro h; simp at h; omega
  refine ⟨fun t x hx => (hr.slots t x hx).keep hz, hr.size, hr.defs, fun p hp => ?_, ?_, hr.chg.alloc _, fun p hp g hg => ?_, hB.keep hr.res ((Chg.refl NoB w).alloc _) fun j _ h => h⟩
  · rcases List.mem_append.1 hp with hp | hp
    · exact (hr.blocks p hp).keep hz fun g hg => Below.heap_alloc _ _ _ (hr.lt p hp g hg)
    · simp at hp; subst hp; exact hE
  · refine Apart.of fun i j p q hij hi hj g hg hq => ?_
    by_cases hjl : j < s.hp.length
    · rw [List.getElem?_append_left (by omega)] at hi
      rw [List.getElem?_append_left hjl] at hj
      exact hr.nodup.get hi hj (by omega) hg hq
    · have hje : j = s.hp.length := by
        have := (List.getElem?_eq_some_iff.1 hj).1
        simp at this; omega
      rw [hje, List.getElem?_append_right (Nat.le_refl _)] at hj
      simp at hj
      subst hj
      rw [List.getElem?_append_left (by omega)] at hi
      rw [hb] at hq
      have := hr.lt p (List.mem_of_getElem? hi) g hg
      simp at hq; omega
  · rcases List.mem_append.1 hp with hp | hp
    · exact hr.own p hp g hg
    · simp at hp; subst hp
      rw [hb] at hg
      simp at hg
      have := hr.chg.size
      refine ⟨fun h => ?_, fun h => by omega⟩
      have := hB.low g h
      omega

/-- An entry is changed in its own block, or goes to a new one. -/
theorem R.set (hB : B.Ok) (hr : R B s a w) {i : Nat} {e e' : Ent} (hi : s.hp[i]? = some e) (hc : Chg (fun b => e.blk = some b) w w')
    (hb : e'.blk = e.blk ∨ ∃ g, e'.blk = some g ∧ w.heap.size ≤ g) (hE : EntR w' (Zn B (s.hp.set i e') w') e') : R B ⟨s.sl, s.hp.set i e', s.k⟩ a w' := by
  have hil : i < s.hp.length := (List.getElem?_eq_some_iff.1 hi).1
  have hmem := List.mem_of_getElem? hi
  have hz : ∀ b, Zn B s.hp w b → b < w.heap.size → w'.heap[b]? = w.heap[b]? ∧ Zn B (s.hp.set i e') w' b := fun b hb' hl => by
    refine ⟨hc.block b hl fun h => hb'.2.1 e hmem h, Nat.lt_of_lt_of_le hl hc.size, fun p hp => ?_, hb'.2.2⟩
    rcases List.mem_or_eq_of_mem_set hp with hp | hp
    · exact hb'.2.1 p hp
    · subst hp
      rcases hb with hb | ⟨g, hb, hg⟩
      · rw [hb]; exact hb'.2.1 e hmem
      · rw [hb]; intro h; simp at h; omega
  have oth : ∀ j p, (s.hp.set i e')[j]? = some p → j ≠ i → s.hp[j]? = some p := fun j p hj hji => by
    rwa [List.getElem?_set_ne (Ne.symm hji)] at hj
  have selfE : ∀ p, (s.hp.set i e')[i]? = some p → p = e' := fun p hp => by
    rw [List.getElem?_set_self hil] at hp; simpa using hp.symm
  have apartE : ∀ j p, s.hp[j]? = some p → j ≠ i → ∀ g, p.blk = some g → e'.blk ≠ some g := fun j p hj hji g hg h => by
    rcases hb with hb | ⟨g', hb, hg'⟩
    · rw [hb] at h; exact hr.nodup.get hj hi hji hg h
    · rw [hb] at h
      have := hr.lt p (List.mem_of_getElem? hj) g hg
      simp at h; omega
  refine ⟨fun t x hx => (hr.slots t x hx).keep hz, hr.size, hr.defs, fun p hp => ?_, ?_, ((hr.chg.mono (S' := fun b => B.S b ∨ e.blk = some b) fun b _ h => .inl h).trans (hc.mono fun b _ h => .inr h)).mono fun b hb0 h => h.elim id fun h => (hr.own e hmem b h).2 hb0, fun p hp g hg => ?_, hB.keep hr.res hc fun j hj h => (hr.own e hmem j h).1 hj⟩
  · obtain ⟨j, hj⟩ := List.mem_iff_getElem?.1 hp
    by_cases hji : j = i
    · subst hji; rw [selfE p hj]; exact hE
    · have hj' := oth j p hj hji
      refine (hr.blocks p (List.mem_of_getElem? hj')).keep hz fun g hg => hc.block g (hr.lt p (List.mem_of_getElem? hj') g hg) fun h => ?_
      exact hr.nodup.get hj' hi hji hg h
  · refine Apart.of fun j1 j2 p q hij hp hq g hg hg2 => ?_
    by_cases h1 : j1 = i
    · subst h1
      rw [selfE p hp] at hg
      exact apartE j2 q (oth j2 q hq (by omega)) (by omega) g hg2 hg
    · by_cases h2 : j2 = i
      · subst h2
        rw [selfE q hq] at hg2
        exact apartE j1 p (oth j1 p hp h1) h1 g hg hg2
      · exact hr.nodup.get (oth j1 p hp h1) (oth j2 q hq h2) (by omega) hg hg2
  · rcases List.mem_or_eq_of_mem_set hp with hp | hp
    · exact hr.own p hp g hg
    · subst hp
      rcases hb with hb | ⟨g', hb, hg'⟩
      · rw [hb] at hg; exact hr.own e hmem g hg
      · rw [hb] at hg
        simp at hg
        subst hg
        have := hr.chg.size
        exact ⟨fun h => by have := hB.low g' h; omega, fun h => by omega⟩
end
end Go.Proofs.YtgikefjbdhnffaaDoor
