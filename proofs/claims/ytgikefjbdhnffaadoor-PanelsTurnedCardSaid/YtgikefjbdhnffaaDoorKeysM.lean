/- slices.Sorted(maps.Keys(m)) at maps from strings: by the contracts that the shelf's tool has laid. -/
import Derived.Test.YtgikefjbdhnffaaDoorSxMap2
import Derived.Test.YtgikefjbdhnffaaDoorSxOwn
import Derived.Test.YtgikefjbdhnffaaDoorIter
import Derived.StringKeys
namespace Go.Proofs.YtgikefjbdhnffaaDoor
open Go.RowKit Go.Maps Go.Sort Go.Shelf
set_option linter.unusedVariables false
set_option linter.unusedSimpArgs false

/-- The keys of a map, sorted. -/
def bytesOf (l : List UInt8) : ByteArray := ⟨l.toArray⟩
def sKeys {α : Type} (l : List (ByteArray × α)) : List ByteArray := ((l.map fun p => p.1.data.toList).mergeSort (fun x y => decide (x ≤ y))).map bytesOf
theorem sKeys_len {α : Type} (l : List (ByteArray × α)) : (sKeys l).length = l.length := by simp [sKeys]
theorem sKeys_mem {α : Type} {l : List (ByteArray × α)} {x : ByteArray} : x ∈ sKeys l ↔ x ∈ l.map (·.1) := by
  simp only [sKeys, List.mem_map, List.mem_mergeSort, bytesOf]
  constructor
  · rintro ⟨_, ⟨p, hp, rfl⟩, rfl⟩; exact ⟨p, hp, by simp⟩
  · rintro ⟨p, hp, rfl⟩; exact ⟨_, ⟨p, hp, rfl⟩, by simp⟩
theorem sKeys_map {α β : Type} (l : List (ByteArray × α)) (f : α → β) : sKeys (l.map fun p => (p.1, f p.2)) = sKeys l := by
  simp only [sKeys, List.map_map]; rfl
theorem mput_keys {α : Type} (l : List (ByteArray × α)) (k : ByteArray) (x : α) : (mput l k x).map (·.1) = if mpos l k < l.length then l.map (·.1) else l.map (·.1) ++ [k] := by
  split
  · rename_i h
    rw [mput_old l k x h, List.map_set]
    have := mpos_key l k h
    refine List.ext_getElem (by simp) fun i h1 h2 => ?_
    simp only [List.length_set, List.length_map] at h1
    rw [List.getElem_set]
    split
    · rename_i e; subst e; simp [this]
    · simp
  · rename_i h
    rw [mput_new l k x (by have := mpos_le l k; omega)]; simp
theorem mpos_mem {α : Type} {l : List (ByteArray × α)} {k : ByteArray} : mpos l k < l.length ↔ k ∈ l.map (·.1) := by
  constructor
  · intro h; exact List.mem_map.2 ⟨_, List.getElem_mem h, mpos_key l k h⟩
  · intro h
    obtain ⟨p, hp, e⟩ := List.mem_map.1 h
    obtain ⟨j, hj, ej⟩ := List.getElem_of_mem hp
    by_cases h1 : mpos l k < l.length
    · exact h1
    · have hle := mpos_le l k
      obtain ⟨_, h2⟩ := mpos_ne l k j (by omega)
      exact absurd (by rw [ej]; exact e) h2
theorem mput_nodup {α : Type} {l : List (ByteArray × α)} (h : (l.map (·.1)).Nodup) (k : ByteArray) (x : α) : ((mput l k x).map (·.1)).Nodup := by
  rw [mput_keys]
  split
  · exact h
  · rename_i h1
    rw [mpos_mem] at h1
    exact List.nodup_append.2 ⟨h, by simp, fun a ha b hb => by simp at hb; subst hb; exact fun e => h1 (e ▸ ha)⟩
theorem mput_mem {α : Type} {l : List (ByteArray × α)} {k : ByteArray} {x : α} {q : ByteArray} : q ∈ (mput l k x).map (·.1) ↔ q ∈ l.map (·.1) ∨ q = k := by
  rw [mput_keys]
  split
  · rename_i h1
    rw [mpos_mem] at h1
    exact ⟨.inl, fun h => h.elim id fun e => e ▸ h1⟩
  · simp

section
variable {P : Program} {w : World} {kt : TypeId}
theorem own_of_mapE {α : Type} {E : α → AV} {g : Nat} {l : List (ByteArray × α)} {Z : Nat → Prop} (hk : P.underlying kt = some .string) (h : EntR w Z (mapE (fun k : ByteArray => Value.string k) g E l)) (hnd : (l.map (·.1)).Nodup) (hs : ∀ p ∈ l, p.1.size ≤ maxLen) (hl : l.length ≤ maxLen) :
    ∃ D : DataW Unit, w.ownsMap P kt (fun _ => some (.nil, [])) g l.length D ∧ Maps.size D = l.length ∧ (strKeys D).Perm (l.map fun p => p.1.data.toList) := by
  obtain ⟨c, h1, h2, h3⟩ := h.toMap
  have hmem : ∀ x ∈ c.toList, ∃ j, ∃ hj : j < l.length, x = c[j]! := fun x hx => by
    obtain ⟨j, hj, rfl⟩ := List.getElem_of_mem hx
    simp at hj
    exact ⟨j, by omega, by rw [getElem!_pos c j hj]; simp⟩
  have hrd : ∀ x ∈ c.toList, ∀ j (hj : j < l.length), x = c[j]! → WideElems.rd (H := Unit) P kt (fun _ => some (.nil, [])) x = some (.string (l[j]).1.data.toList, .nil) := fun x hx j hj e => by
    have hk1 := (h3 j hj).1
    obtain ⟨key, val, born⟩ := x
    have : key = .string (l[j]).1 := by rw [← hk1, ← e]
    subst this
    exact WideElems.rd_mk (R := fun _ => some (.nil, [])) (yv := (.nil, [])) (Go.WideMaps.keyOf_string_mk hk (hs _ (List.getElem_mem hj))) rfl
  have hF : WideElems.Fit (H := Unit) P kt (fun _ => some (.nil, [])) c l.length := ⟨by omega, (MapKept.stamped_iff _ _).2 ⟨fun x hx => by
      obtain ⟨j, hj, rfl⟩ := hmem x hx
      rw [(h3 j hj).2.1]; exact hj, by
      have : c.toList.map (·.born) = List.range' 0 l.length := by
        refine List.ext_getElem (by simp [h2]) fun i k1 k2 => ?_
        simp at k1
        have := (h3 i (by omega)).2.1
        rw [getElem!_pos c i k1] at this
        simp [this]
      rw [this]; exact List.nodup_range', by
      rw [List.pairwise_iff_getElem]
      intro i j hi hj hij e
      simp at hi hj
      have k1 := (h3 i (by omega)).1
      have k2 := (h3 j (by omega)).1
      rw [getElem!_pos c i hi] at k1
      rw [getElem!_pos c j hj] at k2
      simp only [Array.getElem_toList] at e
      rw [k1, k2] at e
      have e' : (l[i]'(by omega)).1 = (l[j]'(by omega)).1 := by injection e
      have := (List.pairwise_iff_getElem.1 hnd) i j (by simp; omega) (by simp; omega) hij
      simp at this
      exact this e'⟩, fun x hx => by
      obtain ⟨j, hj, e⟩ := hmem x hx
      exact ⟨_, hrd x hx j hj e⟩⟩
  refine ⟨_, ⟨c, l.length, h1, hF, by omega, rfl⟩, ?_, ?_⟩
  · simp [Maps.size, (WideShapes.sorted_perm _).length_eq, h2]
  · have hp := (WideShapes.sorted_perm (c.toList.map (WideElems.rg (H := Unit) P kt fun _ => some (.nil, []))))
    refine (hp.map (fun p => Go.strOf p.1)).trans (.of_eq ?_)
    refine List.ext_getElem (by simp [h2]) fun i k1 k2 => ?_
    simp at k1 k2
    have := hrd (c[i]!) (by rw [getElem!_pos c i (by omega)]; simp) i (by omega) rfl
    rw [getElem!_pos c i (by omega)] at this
    simp [WideElems.rg_of this]
    rfl
end

section
theorem slt_eq {x y : ByteArray} (h : x.data.toList = y.data.toList) : x = y := by
  cases x; cases y; simp at h; simp [h]
/-- slices.Sort's two contracts at this dump. -/
theorem sortsK (m : Nat) : AnyZ.SortsIn Tryd.prog Tryd.sorted69_ren Fence.wide m :=
  ⟨fun blk off cap ss W hH hblk hsz => callsIn_wide.2 (AnyM.slices_Sort_string Tryd.sort82 blk off cap ss W hH hblk hsz),
   fun p cap W => callsIn_wide.2 (AnyM.slices_Sort_string_none Tryd.sort82 p cap W)⟩
/-- maps.Keys: a function value over one new block that holds the map. -/
theorem maps_Keys_int (mb : Option Nat) : SpecH Tryd.prog 70 [.v (.map mb)] [] (fun y hp' => ∃ g, y = .v (.func (.func 83) #[] #[.pointer (some ⟨g, 0, none⟩)]) ∧ hp' = [.box g ⟨[.v (.map mb)], 130, 1⟩]) := fun w A us ha _ _ _ => by
  have hu : us = #[.map mb] := by
    have h0 := ha.2 0 (by simp)
    have h1 : us.size = 1 := ha.1
    have h2 := h0.eq_v
    apply Array.ext (by simp [h1])
    intro i hi1 hi2
    obtain rfl : i = 0 := by omega
    rw [Array.getD_eq_getD_getElem?, Array.getElem?_eq_getElem (by omega)] at h2
    simpa using h2
  subst hu
  refine ((callsIn_wide (n := 5)).1 (AnyZ.keys_in Tryd.keys70 Fence.wide 5 trivial rfl mb w)).mono ?_
  rintro e w' ⟨rfl, rfl⟩
  refine ⟨_, _, _, ⟨w.heap.size, rfl, rfl⟩, rfl, List.pairwise_singleton _ _, .v _, fun e he => ?_, fun b ⟨e, he, hb⟩ hl => ?_, ((Chg.refl NoB w).alloc _).any⟩
  · simp at he; subst he
    exact ⟨_, heap_alloc_new w _, rfl, Nat.le_refl _, fun j hj => by simp at hj; subst hj; exact ⟨_, rfl, .v _⟩⟩
  · simp at he; subst he
    simp [Ent.blk] at hb; omega
set_option maxHeartbeats 1000000 in
/-- slices.Sorted of the keys of a map of one's own. -/
theorem slices_Sorted_int {α : Type} {E : α → AV} {g mg : Nat} {l : List (ByteArray × α)} (hnd : (l.map (·.1)).Nodup) (hs : ∀ p ∈ l, p.1.size ≤ maxLen) (hl : l.length ≤ 1000000) :
    SpecH Tryd.prog 69 [.v (.func (.func 83) #[] #[.pointer (some ⟨g, 0, none⟩)])] [.box g ⟨[.v (.map (some mg))], 130, 1⟩, mapE (fun k : ByteArray => Value.string k) mg E l]
      (fun y hp' => ∃ u, y = .v u ∧ hp' = [.row u l.length 1 (strsL (sKeys l)) 9, .box g ⟨[.v (.map (some mg))], 130, 1⟩, mapE (fun k : ByteArray => Value.string k) mg E l]) := fun w A us ha hap hA hE => by
  have hu : us = #[.func (.func 83) #[] #[.pointer (some ⟨g, 0, none⟩)]] := by
    have h0 := ha.2 0 (by simp)
    have h1 : us.size = 1 := ha.1
    have h2 := h0.eq_v
    apply Array.ext (by simp [h1])
    intro i hi1 hi2
    obtain rfl : i = 0 := by omega
    rw [Array.getD_eq_getD_getElem?, Array.getElem?_eq_getElem (by omega)] at h2
    simpa using h2
  subst hu
  have hB := hE _ (List.mem_cons_self ..)
  have hM := hE _ (List.mem_cons_of_mem _ (List.mem_cons_self ..))
  obtain ⟨c, b1, b2, b3, b4⟩ := hB
  have hc : c = #[.map (some mg)] := by
    obtain ⟨u, q1, q2⟩ := b4 0 (by simp)
    have := q2.eq_v
    simp at b2 this
    apply Array.ext (by simp [b2])
    intro i hi1 hi2
    obtain rfl : i = 0 := by omega
    rw [Array.getElem?_eq_getElem (by omega)] at q1
    cases q1
    simpa using this
  subst hc
  have hlen : l.length ≤ maxLen := by simp only [maxLen]; omega
  obtain ⟨D, d1, d2, d3⟩ := own_of_mapE (kt := 9) Tryd.underlying9 hM hnd hs hlen
  have hgl : g < w.heap.size := (Array.getElem?_eq_some_iff.1 b1).1
  have hcell : w.cell? ⟨g, 0, none⟩ = some (.map (some mg)) := by simp [World.cell?, b1]
  have hseq : SeqGives Fence.wide 2 Tryd.prog 83 #[.pointer (some ⟨g, 0, none⟩)] encStr (fun ss => ss.Perm (strKeys D)) (Maps.size D) w :=
    AnyZ.keys_gives (ρ := Tryd.keys70_ren) { Tryd.keys70 with } Fence.wide _ trivial rfl (by omega) g mg l.length D _ hgl hcell d1
  have hsz : Maps.size D ≤ maxLen := by rw [d2]; exact hlen
  have hby : Maps.size D * 16 ≤ 140737488355328 := by rw [d2]; omega
  refine ((callsIn_wide (n := 5)).1 (AnyZ.sorted_in Tryd.sorted69 Fence.wide 5 trivial trivial trivial trivial rfl (by omega) (sortsK _) (enters_of Tryd.func82 (by kernel_rfl) rfl) 83 #[.pointer (some ⟨g, 0, none⟩)] trivial (enters_of Tryd.func83 (by kernel_rfl) rfl) _ _ hsz hby _ hseq)).mono ?_
  rintro e w' ⟨v, ss, rfl, hS, hrow, hnil, hb⟩
  have hS' : ss.Perm (l.map fun p => p.1.data.toList) := hS.trans d3
  have hssl : ss.length = l.length := by simpa using hS'.length_eq
  have hkeys : (ss.mergeSort (fun x y => decide (x ≤ y))).map encStr = (sKeys l).map fun k => Value.string k := by
    have := mergeSort_of_perm hS'
    unfold leB at this
    rw [this, sKeys, List.map_map]
    rfl
  rw [hkeys] at hrow
  have hchg : Chg NoB w w' := (Chg.ofBelow hb).mono fun k h1 h2 => absurd h1 (Nat.not_lt.2 h2)
  obtain ⟨r1, r2⟩ := hrow
  have hZ : ∀ b, b < w.heap.size ∧ A b → Zh w A [.box g ⟨[.v (.map (some mg))], 130, 1⟩, mapE (fun k : ByteArray => Value.string k) mg E l] [.row v l.length 1 (strsL (sKeys l)) 9, .box g ⟨[.v (.map (some mg))], 130, 1⟩, mapE (fun k : ByteArray => Value.string k) mg E l] w' b := fun b ⟨hb1, hb2⟩ => by
    refine ⟨Nat.lt_of_lt_of_le hb1 hchg.size, fun ⟨e, he, heb⟩ => ?_, fun _ => .inl hb2⟩
    rcases List.mem_cons.1 he with rfl | he
    · rcases r2 with ⟨rfl, _⟩ | ⟨g2, cap, cur, rfl, hge, _⟩
      · simp [Ent.blk, Value.ownBlock] at heb
      · simp [Ent.blk, Value.ownBlock] at heb; omega
    · exact hA b ⟨e, he, heb⟩ hb2
  have hold : ∀ e ∈ [Ent.box g ⟨[.v (.map (some mg))], 130, 1⟩, mapE (fun k : ByteArray => Value.string k) mg E l], ∀ b, e.blk = some b → b < w.heap.size := fun e he b heb => by
    rcases List.mem_cons.1 he with rfl | he
    · simp [Ent.blk] at heb; omega
    · simp at he; subst he
      simp [Ent.blk] at heb
      obtain ⟨c2, k1, _⟩ := hM
      have := (Array.getElem?_eq_some_iff.1 k1).1
      omega
  refine ⟨_, _, _, ⟨v, rfl, rfl⟩, rfl, ?_, .v _, fun e he => ?_, fun b ⟨e, he, heb⟩ hl => ?_, hchg.any⟩
  · refine List.pairwise_cons.2 ⟨fun q hq b h1 h2 => ?_, hap⟩
    rcases r2 with ⟨rfl, _⟩ | ⟨g2, cap, cur, rfl, hge, _⟩
    · simp [Ent.blk, Value.ownBlock] at h1
    · simp [Ent.blk, Value.ownBlock] at h1
      have := hold q hq b h2
      omega
  · rcases List.mem_cons.1 he with rfl | he
    · refine ⟨by simp [strsL, sKeys_len], ?_⟩
      rcases r2 with ⟨rfl, hz⟩ | ⟨g2, cap, cur, rfl, hge, k1, k2, k3, k4, k5⟩
      · exact .inl ⟨rfl, by omega⟩
      · refine .inr ⟨g2, cap, cur, by rw [hssl], by omega, k3, k1, k4, fun j hj => ?_⟩
        have hj' : j < (sKeys l).length := by simpa [strsL] using hj
        have hcur : cur[j]? = some (.string ((sKeys l)[j])) := by
          have := congrArg (fun z => z[j]?) k5
          simp only [List.getElem?_map, List.getElem?_eq_getElem hj', Option.map_some] at this
          rw [List.getElem?_take] at this
          split at this
          · simpa using this
          · cases this
        exact ⟨_, hcur, by simp only [strsL, List.getElem_map]; exact .v _⟩
    · exact (hE e he).keep (fun b hb _ => ⟨hchg.block b hb.1 (fun h => h), hZ b hb⟩) fun b hb => hchg.block b (hold e he b hb) (fun h => h)
  · rcases List.mem_cons.1 he with rfl | he
    · rcases r2 with ⟨rfl, _⟩ | ⟨g2, cap, cur, rfl, hge, _⟩
      · simp [Ent.blk, Value.ownBlock] at heb
      · simp [Ent.blk, Value.ownBlock] at heb; omega
    · exact ⟨e, he, heb⟩
end
end Go.Proofs.YtgikefjbdhnffaaDoor
