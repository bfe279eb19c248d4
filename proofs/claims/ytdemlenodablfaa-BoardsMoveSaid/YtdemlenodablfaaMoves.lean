/- The walk of the reference's moves: three tables, one row a board. -/
import Derived.Test.YtdemlenodablfaaBlocked
namespace Go.Proofs.Ytdemlenodablfaa
open Go.RowKit
set_option linter.unusedVariables false

/-- A slice value that begins a block and has no spare. -/
structure RawS where
  b : Nat
  n : Nat
instance : Enc RawS where
  sz := 1
  Is _ _ r f := f 0 = some (.slice (some ⟨r.b, 0, none⟩) r.n r.n)
  keep h _ _ := h
  low h _ := h
  ext h e := (e 0 (by omega)) ▸ h
  one h j hj := ⟨_, by obtain rfl : j = 0 := (by omega); exact h, rfl⟩
  pos := by omega
instance : Flat RawS := ⟨fun h => h⟩

theorem Own.rcell {w : World} {lo e g n cap : Nat} {xs : List RawS} (h : Own w lo e (.slice (some ⟨g, 0, none⟩) n cap) xs) (i : Nat) (hi : i < xs.length) :
    w.cell? ⟨g, i, none⟩ = some (.slice (some ⟨xs[i].b, 0, none⟩) xs[i].n xs[i].n) := by
  obtain ⟨b, off, ha, hb, hc⟩ := h.isSl.cells.2 (by omega)
  cases ha
  have := hc i hi
  simpa [Enc.Is, Enc.sz] using this

/-- Three tables of int rows, each row in a block of its own. -/
structure Tabs (w : World) (lo : Nat) (eo ei : TypeId) (n : Nat) (V : Nat → Value) (T : Nat → List RawS) (R : Nat → Nat → List Int) : Prop where
  own : ∀ i, i < 3 → Own w lo eo (V i) (T i)
  row : ∀ i, i < 3 → ∀ j, (h : j < (T i).length) → (T i)[j].n = n ∧ lo ≤ (T i)[j].b ∧ Arr w (T i)[j].b ei (R i j)
  sep : ∀ i j, i < 3 → j < 3 → i ≠ j → ∀ q, (V i).ownBlock = some q → (V j).ownBlock ≠ some q
  sepr : ∀ i j, i < 3 → j < 3 → ∀ r ∈ T j, (V i).ownBlock ≠ some r.b

namespace Tabs
variable {w w' : World} {lo n : Nat} {eo ei : TypeId} {V : Nat → Value} {T : Nat → List RawS} {R : Nat → Nat → List Int}
theorem start (w : World) (lo n : Nat) (eo ei : TypeId) (R : Nat → Nat → List Int) : Tabs w lo eo ei n (fun _ => .slice none 0 0) (fun _ => []) R :=
  ⟨fun i _ => Own.nil _ _ _, fun i _ j h => by simp at h, fun i j _ _ _ q h => by simp [Value.ownBlock] at h, fun i j _ _ r h => by simp at h⟩
theorem keepNew {B : Nat} (h : Tabs w lo eo ei n V T R) (c : Chg (NewB B) w w') (hB : w.heap.size ≤ B) : Tabs w' lo eo ei n V T R :=
  ⟨fun i hi => (h.own i hi).keep c fun k _ hk x => Nat.not_le_of_lt (Nat.lt_of_lt_of_le hk hB) x,
   fun i hi j hj => let ⟨a, b, d⟩ := h.row i hi j hj; ⟨a, b, d.keepNew c (Nat.lt_of_lt_of_le d.lt hB)⟩, h.sep, h.sepr⟩
theorem push (h : Tabs w lo eo ei n V T R) (i : Nat) (hi : i < 3) (r : RawS) (hn : r.n = n) (hlo : lo ≤ r.b) (harr : Arr w r.b ei (R i (T i).length))
    (hfr : ∀ j, j < 3 → (V j).ownBlock ≠ some r.b) (v' : Value) (ho : Own w' lo eo v' (T i ++ [r])) (c : Chg (blk (V i)) w w')
    (hb : ∀ q, v'.ownBlock = some q → (V i).ownBlock = some q ∨ w.heap.size ≤ q) :
    Tabs w' lo eo ei n (fun j => if j = i then v' else V j) (fun j => if j = i then T i ++ [r] else T j) R := by
  refine ⟨fun j hj => ?_, fun j hj k hk => ?_, fun a b ha hb' hab q hq => ?_, fun a b ha hb' x hx => ?_⟩
  · by_cases hji : j = i
    · subst hji; simpa using ho
    · simp only [if_neg hji]
      exact (h.own j hj).keepF c fun q hq x => h.sep j i hj hi hji q hq x
  · by_cases hji : j = i
    · subst hji
      simp only [if_true] at hk ⊢
      by_cases hkl : k < (T j).length
      · rw [List.getElem_append_left hkl]
        obtain ⟨a, b, d⟩ := h.row j hj k hkl
        exact ⟨a, b, d.keep c fun x => h.sepr j j hj hj _ (List.getElem_mem _) x⟩
      · have : k = (T j).length := by simp at hk; omega
        subst this
        rw [List.getElem_append_right (by omega)]
        simp only [Nat.sub_self, List.getElem_cons_zero]
        exact ⟨hn, hlo, harr.keep c fun x => hfr j hj x⟩
    · simp only [if_neg hji] at hk ⊢
      obtain ⟨a, b, d⟩ := h.row j hj k hk
      exact ⟨a, b, d.keep c fun x => h.sepr i j hi hj _ (List.getElem_mem _) x⟩
  · by_cases hai : a = i
    · subst hai
      simp only [if_true, if_neg (fun e : b = a => hab e.symm)] at hq ⊢
      rcases hb q hq with e | e
      · exact h.sep a b ha hb' hab q e
      · intro e2; have := ((h.own b hb').lt q e2).2; omega
    · simp only [if_neg hai] at hq
      by_cases hbi : b = i
      · subst hbi
        simp only [if_true]
        intro e
        rcases hb q e with e | e
        · exact h.sep a b ha hb' hab q hq e
        · have := ((h.own a ha).lt q hq).2; omega
      · simp only [if_neg hbi]; exact h.sep a b ha hb' hab q hq
  · have hx' : x ∈ T b ∨ x = r := by
      by_cases hbi : b = i
      · subst hbi; simpa using hx
      · simp only [if_neg hbi] at hx; exact .inl hx
    have hlt : x.b < w.heap.size := by
      rcases hx' with hx' | rfl
      · obtain ⟨k, hk, rfl⟩ := List.mem_iff_getElem.1 hx'
        exact (h.row b hb' k hk).2.2.lt
      · exact harr.lt
    have hold : ∀ j, j < 3 → (V j).ownBlock ≠ some x.b := by
      intro j hj
      rcases hx' with hx' | rfl
      · exact h.sepr j b hj hb' x hx'
      · exact hfr j hj
    by_cases hai : a = i
    · subst hai
      simp only [if_true]
      intro e
      rcases hb x.b e with e | e
      · exact hold a ha e
      · omega
    · simp only [if_neg hai]; exact hold a ha
end Tabs

/-- Three arrays of zeros that a statement has just made, in whatever order. -/
def Three (w1 wx : World) (n : Nat) (v1 v2 v3 : Value) : Prop :=
  ∃ g1 g2 g3, v1 = .slice (some ⟨g1, 0, none⟩) n n ∧ v2 = .slice (some ⟨g2, 0, none⟩) n n ∧ v3 = .slice (some ⟨g3, 0, none⟩) n n ∧ g1 ≠ g2 ∧ g1 ≠ g3 ∧ g2 ≠ g3 ∧ w1.heap.size ≤ g1 ∧ w1.heap.size ≤ g2 ∧ w1.heap.size ≤ g3 ∧
    Arr wx g1 3 (List.replicate n 0) ∧ Arr wx g2 3 (List.replicate n 0) ∧ Arr wx g3 3 (List.replicate n 0) ∧ Chg NoB w1 wx

theorem Three.mk (w1 : World) (n a b c : Nat) (h : (a = 0 ∨ a = 1 ∨ a = 2) ∧ (b = 0 ∨ b = 1 ∨ b = 2) ∧ (c = 0 ∨ c = 1 ∨ c = 2) ∧ a ≠ b ∧ a ≠ c ∧ b ≠ c) (ga gb gc : Nat) (ha : ga = w1.heap.size + a) (hb : gb = w1.heap.size + b) (hc : gc = w1.heap.size + c) :
    Three w1 (((w1.alloc (.cells (Array.replicate n (.int .i64 0)) 3)).alloc (.cells (Array.replicate n (.int .i64 0)) 3)).alloc (.cells (Array.replicate n (.int .i64 0)) 3)).drew n
      (.slice (some ⟨ga, 0, none⟩) n n) (.slice (some ⟨gb, 0, none⟩) n n) (.slice (some ⟨gc, 0, none⟩) n n) := by
  have h0 := (((Arr.new w1 n 3).alloc (.cells (Array.replicate n (.int .i64 0)) 3)).alloc (.cells (Array.replicate n (.int .i64 0)) 3)).drew
  have h1 := ((Arr.new (w1.alloc (.cells (Array.replicate n (.int .i64 0)) 3)) n 3).alloc (.cells (Array.replicate n (.int .i64 0)) 3)).drew
  have h2 := (Arr.new ((w1.alloc (.cells (Array.replicate n (.int .i64 0)) 3)).alloc (.cells (Array.replicate n (.int .i64 0)) 3)) n 3).drew
  simp only [World.size_alloc] at h1 h2
  have hall : ∀ i, (i = 0 ∨ i = 1 ∨ i = 2) → Arr (((w1.alloc (.cells (Array.replicate n (.int .i64 0)) 3)).alloc (.cells (Array.replicate n (.int .i64 0)) 3)).alloc (.cells (Array.replicate n (.int .i64 0)) 3)).drew (w1.heap.size + i) 3 (List.replicate n 0) := by
    rintro i (rfl | rfl | rfl)
    · exact h0
    · exact h1
    · exact h2
  subst ha; subst hb; subst hc
  exact ⟨_, _, _, rfl, rfl, rfl, by omega, by omega, by omega, by omega, by omega, by omega, hall a h.1, hall b h.2.1, hall c h.2.2.1, ((((Chg.refl _ w1).alloc _).alloc _).alloc _).drew⟩


theorem Tabs.isSl {w : World} {lo n : Nat} {eo ei : TypeId} {V : Nat → Value} {T : Nat → List RawS} {R : Nat → Nat → List Int} (h : Tabs w lo eo ei n V T R) (i : Nat) (hi : i < 3)
    (hR : ∀ j, (R i j).length = n) (hn : n ≤ maxLen) : IsSl w (fun k => lo ≤ k) (V i) ((List.range (T i).length).map (R i)) := by
  rcases (h.own i hi).isSl with ⟨h1, h2⟩ | ⟨b, off, cap, cc, e, hv, hb, hl, hm, hh, hel⟩
  · rw [h1, h2]; exact IsSl.nil _ _
  · refine .inr ⟨b, off, cap, cc, e, by simpa using hv, hb, by simpa using hl, hm, hh, fun j hj => ?_⟩
    simp at hj
    obtain ⟨a1, a2, a3⟩ := h.row i hi j hj
    have := hel j hj
    simp only [Enc.Is, Enc.sz] at this ⊢
    refine ⟨_, this, ?_⟩
    simp only [List.getElem_map, List.getElem_range]
    have h3 := a3.isSl (A := fun k => lo ≤ k) a2 (by rw [hR]; exact hn)
    rw [hR] at h3
    rw [a1]; exact h3

def movR (c bf : List Int) (i b : Nat) : List Int := (List.range c.length).map fun k =>
  if i = 0 then (mov c bf b k).taken else if i = 1 then (mov c bf b k).taken + at' c k else (mov c bf b k).left
theorem movR_len (c bf : List Int) (i b : Nat) : (movR c bf i b).length = c.length := by simp [movR]

def fX (c bf : List Int) (b k : Nat) : Int := (mov c bf b k).taken
def fY (c bf : List Int) (b k : Nat) : Int := (mov c bf b k).taken + at' c k
def fZ (c bf : List Int) (b k : Nat) : Int := (mov c bf b k).left

theorem mov_bd {c bf : List Int} (h : RightLine c bf) (b k : Nat) (hk : k < c.length) :
    0 ≤ (mov c bf b k).taken ∧ (mov c bf b k).taken + at' c k ≤ (mov c bf b k).left ∧ (mov c bf b k).left ≤ 10000000 * (b + k + 1) := by
  rw [← (pas_mov h b k hk).1, ← (pas_mov h b k hk).2]
  exact pas_bd h b k hk

/-- The three rows of a board while they are reckoned. -/
def St (wo wx : World) (X Y Z : Nat) (lx ly lz : List Int) : Prop := Arr wx X 3 lx ∧ Arr wx Y 3 ly ∧ Arr wx Z 3 lz ∧ Chg (NewB wo.heap.size) wo wx
theorem St.setX {wo wx : World} {X Y Z : Nat} {lx ly lz : List Int} (h : St wo wx X Y Z lx ly lz) (hX : wo.heap.size ≤ X) (hxy : X ≠ Y) (hxz : X ≠ Z) (k : Nat) (x : Int) : St wo (wx.setCell ⟨X, k, none⟩ (.int .i64 x)) X Y Z (lx.set k x) ly lz :=
  ⟨h.1.set k x, h.2.1.keepAt (Chg.setAt _ _ _ _) hxy.symm, h.2.2.1.keepAt (Chg.setAt _ _ _ _) hxz.symm, h.2.2.2.setCell (a := ⟨X, k, none⟩) (fun _ => hX) _⟩
theorem St.setY {wo wx : World} {X Y Z : Nat} {lx ly lz : List Int} (h : St wo wx X Y Z lx ly lz) (hX : wo.heap.size ≤ Y) (hxy : X ≠ Y) (hxz : Y ≠ Z) (k : Nat) (x : Int) : St wo (wx.setCell ⟨Y, k, none⟩ (.int .i64 x)) X Y Z lx (ly.set k x) lz :=
  ⟨h.1.keepAt (Chg.setAt _ _ _ _) hxy, h.2.1.set k x, h.2.2.1.keepAt (Chg.setAt _ _ _ _) hxz.symm, h.2.2.2.setCell (a := ⟨Y, k, none⟩) (fun _ => hX) _⟩
theorem St.setZ {wo wx : World} {X Y Z : Nat} {lx ly lz : List Int} (h : St wo wx X Y Z lx ly lz) (hX : wo.heap.size ≤ Z) (hxy : X ≠ Z) (hxz : Y ≠ Z) (k : Nat) (x : Int) : St wo (wx.setCell ⟨Z, k, none⟩ (.int .i64 x)) X Y Z lx ly (lz.set k x) :=
  ⟨h.1.keepAt (Chg.setAt _ _ _ _) hxy, h.2.1.keepAt (Chg.setAt _ _ _ _) hxz, h.2.2.1.set k x, h.2.2.2.setCell (a := ⟨Z, k, none⟩) (fun _ => hX) _⟩
theorem St.drew {wo wx : World} {X Y Z : Nat} {lx ly lz : List Int} (h : St wo wx X Y Z lx ly lz) : St wo wx.drew X Y Z lx ly lz := ⟨h.1, h.2.1, h.2.2.1, h.2.2.2.drew⟩

theorem infoSlInt : (Try.prog.info? 22).map (fun i => (i.zero, i.size, i.bytes)) = some (some (.slice none 0 0), 1, 24) := by kernel_rfl

/-- append of a row to a table. -/
theorem wpl_append_row {P : Program} {ops : Array Oper} {rest : List Oper} {o : Oper} {a : Act} {Q : Exit → Act → World → Prop} (w : World) (X n : Nat)
    (hg : o.guard = none) (s x : Operand) (T e : TypeId) (hop : o.op = Op.call { callee := Callee.builtin Builtin.append, args := #[s, x], argTypes := #[T, T] })
    (h1 : P.underlying T = some (.slice e)) (hinfo : (P.info? e).map (fun i => (i.zero, i.size, i.bytes)) = some (some (.slice none 0 0), 1, 24))
    (lo : Nat) (v : Value) (xs : List RawS) (hown : Own w lo e v xs) (hlo : lo ≤ w.heap.size) (hlen : xs.length ≤ 1000000000)
    (hs : a.eval s = v) (hx : a.eval x = .slice (some ⟨w.heap.size, 0, none⟩) 1 1)
    (hK : ∀ g cap w', Own w' lo e (.slice (some ⟨g, 0, none⟩) (xs.length + 1) cap) (xs ++ [⟨X, n⟩]) → Chg (blk v) w w' → (v.ownBlock = some g ∨ w.heap.size ≤ g) → lo ≤ g →
      wpList P ops Q rest (a.put o.dst (.slice (some ⟨g, 0, none⟩) (xs.length + 1) cap)) w') : wpList P ops Q (o :: rest) a (w.alloc (.cells #[.slice (some ⟨X, 0, none⟩) n n] e)) := by
  obtain ⟨i, hi, hz0, hz1, hz2⟩ := info_parts hinfo
  exact wpl_append1 (α := RawS) w _ hg s x T e hop i (.slice none 0 0) 24 h1 hi hz0 hz1 hz2 rfl (by decide) lo v xs ⟨X, n⟩ hown hlo hlen rfl rfl hs hx hK

theorem Tabs.pushed {w w' : World} {lo n b X : Nat} {eo ei : TypeId} {V : Nat → Value} {T : Nat → List RawS} {R : Nat → Nat → List Int} (h : Tabs w lo eo ei n V T R) (i : Nat) (hi : i < 3)
    (hT : (T i).length = b) (hlo : lo ≤ X) (harr : Arr w X ei (R i b)) (hfr : ∀ j, j < 3 → (V j).ownBlock ≠ some X) (g cap : Nat)
    (ho : Own w' lo eo (.slice (some ⟨g, 0, none⟩) ((T i).length + 1) cap) (T i ++ [⟨X, n⟩])) (c : Chg (blk (V i)) w w') (hb : (V i).ownBlock = some g ∨ w.heap.size ≤ g) :
    Tabs w' lo eo ei n (fun j => if j = i then .slice (some ⟨g, 0, none⟩) ((T i).length + 1) cap else V j) (fun j => if j = i then T i ++ [⟨X, n⟩] else T j) R ∧
      Chg (NewB lo) w w' ∧
      (∀ Y, Y < w.heap.size → (∀ j, j < 3 → (V j).ownBlock ≠ some Y) → ∀ j, j < 3 → (if j = i then Value.slice (some ⟨g, 0, none⟩) ((T i).length + 1) cap else V j).ownBlock ≠ some Y) ∧
      (∀ Y ys, (∀ j, j < 3 → (V j).ownBlock ≠ some Y) → Arr w Y ei ys → Arr w' Y ei ys) := by
  refine ⟨h.push i hi ⟨X, n⟩ rfl hlo (by rw [hT]; exact harr) hfr _ ho c fun q hq => ?_, c.mono fun q hq x => ((h.own i hi).lt q x).1, fun Y hY hf j hj => ?_, fun Y ys hf ha => ha.keep c fun x => hf i hi x⟩
  · simp only [Value.ownBlock, Option.some.injEq] at hq; subst hq; exact hb
  · by_cases hji : j = i
    · subst hji
      simp only [if_true, Value.ownBlock, ne_eq, Option.some.injEq]
      rintro rfl
      rcases hb with e | e
      · exact hf j hj e
      · omega
    · simp only [if_neg hji]; exact hf j hj

theorem Tabs.push3 {w w7 w8 w9 : World} {lo n b X Y Z : Nat} {eo ei : TypeId} {V : Nat → Value} {T : Nat → List RawS} {R : Nat → Nat → List Int} (h : Tabs w lo eo ei n V T R)
    (hT : ∀ i, i < 3 → (T i).length = b) (hX : lo ≤ X) (hY : lo ≤ Y) (hZ : lo ≤ Z) (aX : Arr w X ei (R 0 b)) (aY : Arr w Y ei (R 1 b)) (aZ : Arr w Z ei (R 2 b))
    (fX : ∀ j, j < 3 → (V j).ownBlock ≠ some X) (fY : ∀ j, j < 3 → (V j).ownBlock ≠ some Y) (fZ : ∀ j, j < 3 → (V j).ownBlock ≠ some Z) (g0 cap0 g1 cap1 g2 cap2 : Nat)
    (ho7 : Own w7 lo eo (.slice (some ⟨g0, 0, none⟩) ((T 0).length + 1) cap0) (T 0 ++ [⟨X, n⟩])) (hc7 : Chg (blk (V 0)) w w7) (hg7 : (V 0).ownBlock = some g0 ∨ w.heap.size ≤ g0)
    (ho8 : Own w8 lo eo (.slice (some ⟨g1, 0, none⟩) ((T 1).length + 1) cap1) (T 1 ++ [⟨Y, n⟩])) (hc8 : Chg (blk (V 1)) w7 w8) (hg8 : (V 1).ownBlock = some g1 ∨ w7.heap.size ≤ g1)
    (ho9 : Own w9 lo eo (.slice (some ⟨g2, 0, none⟩) ((T 2).length + 1) cap2) (T 2 ++ [⟨Z, n⟩])) (hc9 : Chg (blk (V 2)) w8 w9) (hg9 : (V 2).ownBlock = some g2 ∨ w8.heap.size ≤ g2) :
    ∃ (V' : Nat → Value) (T' : Nat → List RawS), V' 0 = .slice (some ⟨g0, 0, none⟩) ((T 0).length + 1) cap0 ∧ V' 1 = .slice (some ⟨g1, 0, none⟩) ((T 1).length + 1) cap1 ∧ V' 2 = .slice (some ⟨g2, 0, none⟩) ((T 2).length + 1) cap2 ∧
      (∀ i, i < 3 → (T' i).length = b + 1) ∧ Tabs w9 lo eo ei n V' T' R ∧ Chg (NewB lo) w w9 := by
  obtain ⟨t7, d7, f7, k7⟩ := h.pushed 0 (by omega) (hT 0 (by omega)) hX aX fX g0 cap0 ho7 hc7 hg7
  have s7 := d7.size
  obtain ⟨t8, d8, f8, k8⟩ := t7.pushed (b := b) 1 (by omega) (by simpa using hT 1 (by omega)) hY (k7 Y _ fY aY) (f7 Y aY.lt fY) g1 cap1 (by simpa using ho8) (by simpa using hc8) (by simpa using hg8)
  have s8 := d8.size
  obtain ⟨t9, d9, f9, k9⟩ := t8.pushed (b := b) 2 (by omega) (by simpa using hT 2 (by omega)) hZ (k8 Z _ (f7 Z aZ.lt fZ) (k7 Z _ fZ aZ)) (f8 Z (Nat.lt_of_lt_of_le aZ.lt s7) (f7 Z aZ.lt fZ)) g2 cap2 (by simpa using ho9) (by simpa using hc9) (by simpa using hg9)
  refine ⟨_, _, ?_, ?_, ?_, ?_, t9, (d7.trans d8).trans d9⟩
  · simp
  · simp
  · simp
  · intro i hi
    rcases (show i = 0 ∨ i = 1 ∨ i = 2 by omega) with rfl | rfl | rfl <;> simp [hT]

set_option maxRecDepth 100000 in
set_option maxHeartbeats 2000000 in
theorem moves_any (v1 v2 : Value) (c bf : List Int) (m : Nat) (A1 A2 : Nat → Prop) (w : World) (h1 : IsSl w A1 v1 c) (h2 : IsSl w A2 v2 bf) (hr : RightLine c bf) (hm : m ≤ 2000) :
    Calls Try.prog 32 #[v1, v2, .int .i64 m] w fun e w' => ∃ V : Nat → Value, e = .returned (.tuple #[V 0, V 1, V 2]) ∧ (∀ i, i < 3 → IsSl w' (fun k => w.heap.size ≤ k) (V i) ((List.range m).map (movR c bf i))) ∧ Chg NoB w w' := by
  obtain ⟨a1, cap1, rfl, g1, g2⟩ := h1.shape
  obtain ⟨a2, cap2, rfl, g3, g4⟩ := h2.shape
  unfold maxLen at g2 g4
  have hlen := hr.len
  have hpos := hr.pos
  have hbl := hr.bl
  have HR := hid hr; clear hr
  obtain ⟨bc, oc, rfl, _, hcc⟩ := h1.ints (by omega)
  have HCC := hid hcc; clear hcc
  go_enter Try.func32, Try.ntmps32
  go_wp2_with fail
  go_loopw [6, 7, 8, 9, 10, 11, 12, 13, 14, 16] (fun x6 x7 x8 _ _ _ _ _ _ i wr => ∃ (b : Nat) (V : Nat → Value) (T : Nat → List RawS), b ≤ m ∧ i = .int .i64 b ∧ x6 = V 0 ∧ x7 = V 1 ∧ x8 = V 2 ∧ (∀ i, i < 3 → (T i).length = b) ∧ Tabs wr w.heap.size 22 3 c.length V T (movR c bf) ∧ Chg (NewB w.heap.size) w wr)
    (fun _ _ _ _ _ _ _ _ _ i _ => m - (intOf i).toNat)
  case atStart => exact ⟨0, fun _ => .slice none 0 0, fun _ => [], by omega, rfl, rfl, rfl, rfl, fun _ _ => rfl, Tabs.start _ _ _ _ _ _, Chg.refl _ _⟩
  case round =>
    obtain ⟨b, V, T, hb, rfl, rfl, rfl, rfl, hT, htab, hch⟩ := hrel
    by_cases hbm : b < m
    · obtain ⟨wo, rfl⟩ : ∃ wo : World, wo = wr := ⟨_, rfl⟩
      have hszo := hch.size
      go_upto_region 4 with (fail)
      go_cut [10, 11, 12] (fun x10 x11 x12 wx => Three wo wx c.length x10 x11 x12)
      case first =>
        have hmk := run_make_ints (P := Try.prog) 22 3 Try.underlying22 infoInt c.length (by omega)
        go_region
        all_goals go_wp2_with fail
        all_goals go_meet
        all_goals (case rel => first
          | exact Three.mk _ _ 0 1 2 (by omega) _ _ _ (by omega) (by omega) (by omega)
          | exact Three.mk _ _ 0 2 1 (by omega) _ _ _ (by omega) (by omega) (by omega)
          | exact Three.mk _ _ 1 0 2 (by omega) _ _ _ (by omega) (by omega) (by omega)
          | exact Three.mk _ _ 1 2 0 (by omega) _ _ _ (by omega) (by omega) (by omega)
          | exact Three.mk _ _ 2 0 1 (by omega) _ _ _ (by omega) (by omega) (by omega)
          | exact Three.mk _ _ 2 1 0 (by omega) _ _ _ (by omega) (by omega) (by omega))
      case rest =>
        obtain ⟨X, Y, Z, rfl, rfl, rfl, hxy, hxz, hyz, hX, hY, hZ, aX, aY, aZ, hcm⟩ := hcut
        obtain ⟨a8, cap8, hV2, _, _⟩ := (htab.own 2 (by omega)).shape
        rw [hT 2 (by omega)] at hV2
        rw [hV2]
        have HV2 := hid hV2; clear hV2
        have hst0 : St wo wc X Y Z (pfx c.length 0 (fX c bf b)) (pfx c.length 0 (fY c bf b)) (pfx c.length 0 (fZ c bf b)) := by
          rw [pfx_zero, pfx_zero, pfx_zero]; exact ⟨aX, aY, aZ, hcm.any⟩
        clear aX aY aZ hcm
        go_wp2_with fail
        go_loopw [13, 14, 30] (fun _ _ i wr => ∃ k : Nat, k ≤ c.length ∧ i = .int .i64 k ∧ St wo wr X Y Z (pfx c.length k (fX c bf b)) (pfx c.length k (fY c bf b)) (pfx c.length k (fZ c bf b)))
          (fun _ _ i _ => c.length - (intOf i).toNat)
        case atStart => exact ⟨0, by omega, rfl, hst0⟩
        case round =>
          clear hst0
          obtain ⟨k, hk, rfl, hst⟩ := hrel
          by_cases hkl : k < c.length
          · have hcc := hch.cellNew (Nat.le_refl _) (HCC.out k hkl)
            have hck := hst.2.2.2.cellNew (Nat.le_refl _) hcc
            have hac : at' c k = c[k] := by simp [at', hkl]
            have hbd := mov_bd HR.out b k hkl
            have hcb := HR.out.c1 k hkl
            rw [hac] at hbd hcb
            obtain ⟨T1, hT1⟩ : ∃ x, x = (mov c bf b k).taken := ⟨_, rfl⟩
            obtain ⟨L1, hL1⟩ : ∃ x, x = (mov c bf b k).left := ⟨_, rfl⟩
            rw [← hT1, ← hL1] at hbd
            have HT1 := hid hT1; clear hT1
            have HL1 := hid hL1; clear hL1
            have HAC := hid hac; clear hac hcc
            obtain ⟨T0, hT0⟩ : ∃ x, x = if b = 0 then 0 else (mov c bf (b - 1) k).left := ⟨_, rfl⟩
            have HT0 := hid hT0; clear hT0
            rw [pfx1_start _ _ (fX c bf b) hkl, pfx1_start _ _ (fY c bf b) hkl, pfx1_start _ _ (fZ c bf b) hkl] at hst
            have rx := hst.1.cell k (by rw [pfx1_len]; exact hkl)
            rw [pfx1_get _ _ _ _ hkl] at rx
            have rxf := hst.1.froz k
            go_upto_if 36 with (fail)
            go_cut [] (fun wx => St wo wx X Y Z (pfx1 c.length k (fX c bf b) T0) (pfx1 c.length k (fY c bf b) 0) (pfx1 c.length k (fZ c bf b) 0))
            case first =>
              by_cases hb0 : 0 < b
              · obtain ⟨q, rfl⟩ : ∃ q, b = q + 1 := ⟨b - 1, by omega⟩
                have ho := htab.own 2 (by omega)
                rw [HV2.out] at ho
                obtain ⟨g8, rfl, hg1, hg2⟩ := ho.head (by rw [hT 2 (by omega)]; omega)
                have hrc := hst.2.2.2.cellNew (Nat.le_refl _) (ho.rcell q (by rw [hT 2 (by omega)]; omega))
                obtain ⟨hn, hl, harr⟩ := htab.row 2 (by omega) q (by rw [hT 2 (by omega)]; omega)
                rw [hn] at hrc
                have hec := hst.2.2.2.cellNew (Nat.le_refl _) (harr.cell k (by rw [movR_len]; exact hkl))
                have e1 : (movR c bf 2 q)[k]'(by rw [movR_len]; exact hkl) = (mov c bf q k).left := by simp [movR]
                rw [e1] at hec
                have HT0' : Hid (T0 = (mov c bf q k).left) := by unfold Hid; rw [HT0.out]; simp
                clear e1 harr hn hl ho
                go_wp2_with fail
                go_meet
                case rel =>
                  rw [HT0'.out, ← pfx1_set c.length k (fX c bf (q + 1)) 0]
                  exact hst.setX (by omega) hxy hxz k _
              · have HT0' : Hid (T0 = 0) := by unfold Hid; rw [HT0.out, if_pos (by omega)]
                go_wp2_with fail
                go_meet
                case rel => rw [HT0'.out]; exact hst
            case rest =>
              clear rx rxf hst hck
              obtain ⟨w4, rfl⟩ : ∃ w4 : World, w4 = wc := ⟨_, rfl⟩
              have rx := hcut.1.cell k (by rw [pfx1_len]; exact hkl)
              rw [pfx1_get _ _ _ _ hkl] at rx
              have rxf := hcut.1.froz k
              have htk := mov_taken c bf b k
              rw [← HT1.out, ← HT0.out] at htk
              go_upto_if 49 with (fail)
              go_cut [] (fun wx => St wo wx X Y Z (pfx1 c.length k (fX c bf b) T1) (pfx1 c.length k (fY c bf b) 0) (pfx1 c.length k (fZ c bf b) 0))
              case first =>
                by_cases hk0 : 0 < k
                · obtain ⟨j, rfl⟩ : ∃ j, k = j + 1 := ⟨k - 1, by omega⟩
                  rw [if_neg (by omega)] at htk
                  simp only [Nat.add_sub_cancel] at htk
                  have HTK := hid htk; clear htk
                  have hz := hcut.2.2.1.cell j (by rw [pfx1_len]; omega)
                  have e1 : (pfx1 c.length (j + 1) (fZ c bf b) 0)[j]'(by rw [pfx1_len]; omega) = (mov c bf b j).left := by
                    simp [pfx1, List.getElem_set, pfx, fZ]
                  rw [e1] at hz
                  clear e1
                  go_wp2_with fail
                  go_region
                  all_goals go_wp2_with fail
                  all_goals go_meet
                  case rel =>
                    rw [HTK.out, ← pfx1_set c.length (j + 1) (fX c bf b) T0]
                    exact (hcut.setX (by omega) hxy hxz _ _).drew
                · rw [if_pos (by omega)] at htk
                  have HTK := hid htk; clear htk
                  go_wp2_with fail
                  go_meet
                  case rel => rw [HTK.out]; exact hcut
              case rest =>
                clear rx rxf htk
                have hst1 := hcut
                clear hcut
                obtain ⟨w5, rfl⟩ : ∃ w5 : World, w5 = wc := ⟨_, rfl⟩
                have rx := hst1.1.cell k (by rw [pfx1_len]; exact hkl)
                rw [pfx1_get _ _ _ _ hkl] at rx
                have ry := hst1.2.1.cell k (by rw [pfx1_len]; exact hkl)
                have rz := hst1.2.2.1.cell k (by rw [pfx1_len]; exact hkl)
                have ryf := hst1.2.1.froz k
                have rzf := hst1.2.2.1.froz k
                rw [pfx1_get _ _ _ _ hkl] at ry rz
                have hlf := mov_left c bf b k
                rw [← HT1.out, ← HL1.out, HAC.out] at hlf
                by_cases hk1 : k + 1 < c.length
                · have hb1 : k < bf.length := by omega
                  obtain ⟨bb, ob, rfl, _, hbc⟩ := h2.ints (by omega)
                  have hbcell := hst1.2.2.2.cellNew (Nat.le_refl _) (hch.cellNew (Nat.le_refl _) (hbc k hb1))
                  have hbbl : bb < w.heap.size := World.block_lt_of_cell? w _ (hbc k hb1)
                  have hb0k := HR.out.b0 k
                  have hbk : at' bf k = bf[k]'hb1 := by simp [at', hb1]
                  obtain ⟨r, hr⟩ : ∃ r : Nat, bf[k]'hb1 = (r : Int) := ⟨(bf[k]'hb1).toNat, by omega⟩
                  rw [hr] at hbcell hbk
                  rw [hbk] at hlf
                  clear hbc hb0k hbk hr
                  by_cases hrb : r < b
                  · obtain ⟨t, ht⟩ : ∃ t, b = t + r + 1 := ⟨b - r - 1, by omega⟩
                    rw [if_pos ⟨hk1, by omega, by omega⟩] at hlf
                    have ht2 : b - (r : Int).toNat - 1 = t := by omega
                    rw [ht2] at hlf
                    have HLF := hid hlf; clear hlf ht2
                    have ht1 : (b : Int) - (r : Int) - 1 = (t : Int) := by omega
                    have htb : t < b := by omega
                    clear ht
                    have ho := htab.own 2 (by omega)
                    rw [HV2.out] at ho
                    obtain ⟨g8, rfl, hg1, hg2⟩ := ho.head (by rw [hT 2 (by omega)]; omega)
                    have hrc := hst1.2.2.2.cellNew (Nat.le_refl _) (ho.rcell t (by rw [hT 2 (by omega)]; omega))
                    obtain ⟨hn, hl, harr⟩ := htab.row 2 (by omega) t (by rw [hT 2 (by omega)]; omega)
                    rw [hn] at hrc
                    have hec := hst1.2.2.2.cellNew (Nat.le_refl _) (harr.cell (k + 1) (by rw [movR_len]; exact hk1))
                    have e1 : (movR c bf 2 t)[k + 1]'(by rw [movR_len]; exact hk1) = (mov c bf t (k + 1)).left := by simp [movR]
                    rw [e1] at hec
                    clear e1 harr hn hl ho
                    go_wp2_with fail
                    go_region
                    all_goals go_wp2_with fail
                    all_goals go_region
                    all_goals go_wp2_with fail
                    all_goals go_roundw
                    case rel =>
                      refine ⟨k + 1, by omega, by go_num, ?_⟩
                      rw [← pfx1_done _ _ _ hkl, ← pfx1_done _ _ _ hkl, ← pfx1_done _ _ _ hkl]
                      have ex : fX c bf b k = T1 := HT1.out.symm
                      have ey : fY c bf b k = T1 + c[k] := by rw [fY, ← HT1.out, HAC.out]
                      have ez : fZ c bf b k = L1 := HL1.out.symm
                      rw [ex, ey, ez, HLF.out, ← pfx1_set c.length k (fY c bf b) 0, ← pfx1_set c.length k (fZ c bf b) (T1 + c[k]), ← pfx1_set c.length k (fZ c bf b) 0]
                      exact ((((hst1.setY (by omega) hxy hyz k _).setZ (by omega) hxz hyz k _).setZ (by omega) hxz hyz k _).drew).drew
                    case measure => simp [intOf]; omega
                  · rw [if_neg (by omega)] at hlf
                    have HLF := hid hlf; clear hlf
                    go_wp2_with fail
                    go_region
                    all_goals go_wp2_with fail
                    all_goals go_roundw
                    case rel =>
                      refine ⟨k + 1, by omega, by go_num, ?_⟩
                      rw [← pfx1_done _ _ _ hkl, ← pfx1_done _ _ _ hkl, ← pfx1_done _ _ _ hkl]
                      have ex : fX c bf b k = T1 := HT1.out.symm
                      have ey : fY c bf b k = T1 + c[k] := by rw [fY, ← HT1.out, HAC.out]
                      have ez : fZ c bf b k = L1 := HL1.out.symm
                      rw [ex, ey, ez, HLF.out, ← pfx1_set c.length k (fY c bf b) 0, ← pfx1_set c.length k (fZ c bf b) 0]
                      exact ((hst1.setY (by omega) hxy hyz k _).setZ (by omega) hxz hyz k _).drew
                    case measure => simp [intOf]; omega
                · rw [if_neg (by omega)] at hlf
                  have HLF := hid hlf; clear hlf
                  go_wp2_with fail
                  go_region
                  all_goals go_wp2_with fail
                  all_goals go_roundw
                  case rel =>
                    refine ⟨k + 1, by omega, by go_num, ?_⟩
                    rw [← pfx1_done _ _ _ hkl, ← pfx1_done _ _ _ hkl, ← pfx1_done _ _ _ hkl]
                    have ex : fX c bf b k = T1 := HT1.out.symm
                    have ey : fY c bf b k = T1 + c[k] := by rw [fY, ← HT1.out, HAC.out]
                    have ez : fZ c bf b k = L1 := HL1.out.symm
                    rw [ex, ey, ez, HLF.out, ← pfx1_set c.length k (fY c bf b) 0, ← pfx1_set c.length k (fZ c bf b) 0]
                    exact ((hst1.setY (by omega) hxy hyz k _).setZ (by omega) hxz hyz k _).drew
                  case measure => simp [intOf]; omega
          · obtain rfl : k = c.length := by omega
            have hsz := hst.2.2.2.size
            have ht0 := htab.keepNew hst.2.2.2 (Nat.le_refl _)
            have hold : ∀ Q, wo.heap.size ≤ Q → ∀ j, j < 3 → (V j).ownBlock ≠ some Q := fun Q hQ j hj e => by have := ((htab.own j hj).lt Q e).2; omega
            have eX : movR c bf 0 b = pfx c.length c.length (fX c bf b) := by rw [pfx_all]; simp [movR, fX]
            have eY : movR c bf 1 b = pfx c.length c.length (fY c bf b) := by rw [pfx_all]; simp [movR, fY]
            have eZ : movR c bf 2 b = pfx c.length c.length (fZ c bf b) := by rw [pfx_all]; simp [movR, fZ]
            have lX := hst.1.lt
            have lY := hst.2.1.lt
            have lZ := hst.2.2.1.lt
            have aX := eX ▸ hst.1
            have aY := eY ▸ hst.2.1
            have aZ := eZ ▸ hst.2.2.1
            have hT0 := hT 0 (by omega)
            have hT1 := hT 1 (by omega)
            have hT2 := hT 2 (by omega)
            have hx0 : (T 0).length ≤ 1000000000 := by omega
            have hx1 : (T 1).length ≤ 1000000000 := by omega
            have hx2 : (T 2).length ≤ 1000000000 := by omega
            have HT0 := hid hT0
            have HT1 := hid hT1
            have HT2 := hid hT2
            have HTT := hid hT
            have HOLD := hid hold
            clear eX eY eZ hT0 hT1 hT2 hT hold
            have hlo0 : w.heap.size ≤ wr.heap.size := by omega
            have hk01 : ∀ w7, Chg (blk (V 0)) wr w7 → Own w7 w.heap.size 22 (V 1) (T 1) ∧ Own w7 w.heap.size 22 (V 2) (T 2) ∧ w.heap.size ≤ w7.heap.size := fun w7 h7 =>
              ⟨(ht0.own 1 (by omega)).keepF h7 fun q hq x => ht0.sep 1 0 (by omega) (by omega) (by omega) q hq x, (ht0.own 2 (by omega)).keepF h7 fun q hq x => ht0.sep 2 0 (by omega) (by omega) (by omega) q hq x, Nat.le_trans hlo0 h7.size⟩
            have HK01 := hid hk01; clear hk01
            have hk12 : ∀ w7 w8, Own w7 w.heap.size 22 (V 2) (T 2) → Chg (blk (V 1)) w7 w8 → Own w8 w.heap.size 22 (.slice a8 b cap8) (T 2) := fun w7 w8 h7 h8 => by
              rw [← HV2.out]; exact h7.keepF h8 fun q hq x => ht0.sep 2 1 (by omega) (by omega) (by omega) q hq x
            have HK12 := hid hk12; clear hk12
            have ho0 := ht0.own 0 (by omega)
            go_wp2_with (first
              | (at_builtin; refine wpl_append_row wr X c.length rfl (.tmp 117) (.tmp 119) 61 22 rfl Try.underlying61 infoSlInt w.heap.size (V 0) (T 0) ho0 hlo0 hx0 rfl rfl ?_; intro g0 cap0 w7 ho7 hc7 hg7 hl7; obtain ⟨ho1, ho2, hlo7⟩ := HK01.out w7 hc7)
              | (at_builtin; refine wpl_append_row w7 Y c.length rfl (.tmp 121) (.tmp 123) 61 22 rfl Try.underlying61 infoSlInt w.heap.size (V 1) (T 1) ho1 hlo7 hx1 rfl rfl ?_; intro g1 cap1' w8 ho8 hc8 hg8 hl8; have ho2' := HK12.out _ _ ho2 hc8; have hlo8 := Nat.le_trans hlo7 hc8.size)
              | (at_builtin; refine wpl_append_row w8 Z c.length rfl (.tmp 125) (.tmp 127) 61 22 rfl Try.underlying61 infoSlInt w.heap.size (.slice a8 b cap8) (T 2) ho2' hlo8 hx2 rfl rfl ?_; intro g2 cap2' w9 ho9 hc9 hg9 hl9))
            rw [← HV2.out] at hc9 hg9
            obtain ⟨V', T', v0, v1, v2, hT', ht9, hc09⟩ := ht0.push3 HTT.out (by omega) (by omega) (by omega) aX aY aZ (HOLD.out X hX) (HOLD.out Y hY) (HOLD.out Z hZ) _ _ _ _ _ _ ho7 hc7 hg7 ho8 hc8 hg8 ho9 hc9 hg9
            go_roundw
            case rel => exact ⟨b + 1, V', T', by omega, by go_num, v0.symm, v1.symm, v2.symm, hT', ht9, (hch.trans (hst.2.2.2.mono fun q _ x => by unfold NewB at x ⊢; omega)).trans hc09⟩
            case measure => simp [intOf]; omega
    · obtain rfl : b = m := by omega
      go_wp2_with fail
      go_ret3
      refine ⟨V, rfl, fun i hi => ?_, hch.mono fun q h1 h2 => by unfold NewB at h2; omega⟩
      have := htab.isSl i hi (fun j => movR_len _ _ _ _) (by unfold maxLen; omega)
      rwa [hT i hi] at this
end Go.Proofs.Ytdemlenodablfaa
