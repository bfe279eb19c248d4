/- The symbolic walk's rules: loads and stores in the function's own blocks, make, append, slices of slices; from own to unchanging. -/
import Derived.Test.YtgikefjbdhnffaaDoorSxHeap
namespace Go.Proofs.YtgikefjbdhnffaaDoor
open Go.RowKit
set_option linter.unusedVariables false
set_option linter.unusedSimpArgs false

theorem setAll_get : ∀ (l : List AV) (cs : List AV) (off q : Nat) (hq : q < (setAll cs off l).length), (setAll cs off l)[q] = if h : off ≤ q ∧ q < off + l.length then l[q - off] else cs[q]'(by rwa [setAll_len] at hq)
  | [], cs, off, q, hq => by simp [setAll]; omega
  | x :: l, cs, off, q, hq => by
    simp only [setAll] at hq ⊢
    rw [setAll_get l (cs.set off x) (off + 1) q hq]
    by_cases h1 : off + 1 ≤ q ∧ q < off + 1 + l.length
    · rw [dif_pos h1, dif_pos (by simp; omega)]
      have : q - off = (q - (off + 1)) + 1 := by omega
      simp [this]
    · rw [dif_neg h1]
      by_cases h2 : q = off
      · subst h2
        rw [dif_pos (by simp)]
        simp
      · rw [dif_neg (by simp; omega)]
        rw [List.getElem_set_ne (Ne.symm h2)]

section
variable {P : Program} {B : Bs} {W : Nat → Prop} {s : St'} {a : Act} {w w' : World} {o : Oper} {K : St' → Prop}

theorem R.notStr (hB : B.Ok) (hr : R B s a w) {e : Ent} (he : e ∈ s.hp) {g : Nat} (hg : e.blk = some g) : ¬ B.str g := fun h => (hr.own e he g hg).1 (hB.str g h).1

theorem OpV.load_own {x : Operand} {t g j i : Nat} {o' : Own'} {v : AV} (ho : o.op = .load t x) (hB : B.Ok) (hag : ∀ w, (isAgg t).run P w = .ok false w) (hx : evO s x = some (.v (.pointer (some ⟨g, j, none⟩)))) (hi : s.hp[i]? = some (.box g o')) (hc : o'.cs[j]? = some v) (hW : ¬ W g) : OpV P B W s o v := by
  intro a w hr
  have hm := List.mem_of_getElem? hi
  obtain ⟨c, h1, h2, h3, h4⟩ := hr.blocks _ hm
  obtain ⟨hj, rfl⟩ := List.getElem?_eq_some_iff.1 hc
  obtain ⟨u, k1, k2⟩ := h4 j hj
  refine ⟨u, fun w' hcw => ?_, k2⟩
  have h1' : w'.heap[g]? = some (.cells c o'.ty (0, 0)) := (hcw.block g (hr.lt _ hm g rfl) fun h => h.elim (hr.notStr hB hm rfl) hW).trans h1
  have hcell : w'.cell? ⟨g, j, none⟩ = some u := by simpa [World.cell?, h1'] using k1
  simp [execOp, ho, hr.evv hx, Instr.loadAt, Instr.sureAddr, loadVar, hag, load, Sem.run, hcell]

theorem OpV.loadK_own {x : Operand} {t g j i k : Nat} {o' : Own'} {r : List AV} (ho : o.op = .load t x) (hB : B.Ok) (hag : ∀ w, (isAgg t).run P w = .ok true w) (hsz : ∀ w, (sizeOf t).run P w = .ok k w) (hx : evO s x = some (.v (.pointer (some ⟨g, j, none⟩)))) (hi : s.hp[i]? = some (.box g o')) (hc : cutL o'.cs j k = some r) (hW : ¬ W g) : OpV P B W s o (.agg r) := by
  intro a w hr
  have hm := List.mem_of_getElem? hi
  obtain ⟨c, h1, h2, h3, h4⟩ := hr.blocks _ hm
  obtain ⟨e1, e2, e3⟩ := cutL_spec hc
  have hget : ∀ q, q < k → ∃ u, c[j + q]? = some u ∧ Rep w (Zn B s.hp w) (r.getD q .any) u := fun q hq => by
    have := e3 q (by omega)
    obtain ⟨hl, he⟩ := List.getElem?_eq_some_iff.1 this
    obtain ⟨u, k1, k2⟩ := h4 _ hl
    refine ⟨u, k1, ?_⟩
    rw [he] at k2
    rwa [List.getD_eq_getElem?_getD, List.getElem?_eq_getElem (by omega)]
  refine ⟨.agg ((List.range k).map fun q => c.getD (j + q) undef).toArray, fun w' hcw => ?_, .agg _ _ (by simp [e1]) fun q hq => ?_⟩
  · have h1' : w'.heap[g]? = some (.cells c o'.ty (0, 0)) := (hcw.block g (hr.lt _ hm g rfl) fun h => h.elim (hr.notStr hB hm rfl) hW).trans h1
    have hcell : ∀ q v, ((List.range k).map fun q => c.getD (j + q) undef)[q]? = some v → w'.cell? ((⟨g, j, none⟩ : Addr).add q) = some v := by
      intro q v hq
      simp only [List.getElem?_map, Option.map_eq_some_iff] at hq
      obtain ⟨q', hq', rfl⟩ := hq
      obtain ⟨hlt, hq''⟩ := List.getElem?_eq_some_iff.1 hq'
      simp at hlt hq''
      subst hq''
      obtain ⟨u, k1, _⟩ := hget q (by simpa using hlt)
      rw [Addr.add_lit]
      have : c.getD (j + q) undef = u := by rw [Array.getD_eq_getD_getElem?, k1]; rfl
      rw [this]
      simpa [World.cell?, h1'] using k1
    have hl := run_loadCells_list (P := P) w' ⟨g, j, none⟩ _ hcell
    simp only [List.length_map, List.length_range] at hl
    simp [execOp, ho, hr.evv hx, Instr.loadAt, Instr.sureAddr, loadVar, hag, hsz, hl]
  · obtain ⟨u, k1, k2⟩ := hget q (by omega)
    have hqk : q < k := by omega
    rw [List.getD_eq_getElem?_getD, List.getElem?_eq_getElem hq] at k2
    have : c.getD (j + q) undef = u := by rw [Array.getD_eq_getD_getElem?, k1]; rfl
    simp [hqk]
    rw [show c[j + q]?.getD undef = u by rw [k1]; rfl]
    exact k2

theorem chg_setRow (w : World) (g : Nat) (c : Array Value) : Chg (fun b => some g = some b) w (w.setRow g c) :=
  ⟨rfl, rfl, rfl, by simp [World.setRow], fun k _ hk => setRow_other w g k c (fun e => hk (by rw [e]))⟩

/-- A store into a block of one's own: the cells of the value from j on. -/
theorem OpE.store {x y : Operand} {t g j i k : Nat} {o' : Own'} {v : AV} (ho : o.op = .store t x y) (hB : B.Ok) (hd : okd B.nt o.dst = true) (hsz : ∀ w, (sizeOf t).run P w = .ok k w) (hx : evO s x = some (.v (.pointer (some ⟨g, j, none⟩)))) (hy : evO s y = some v)
    (hk : v.known = true) (hl : (cellsOf v).length = k) (hone : (cellsOf v).all AV.one = true) (hi : s.hp[i]? = some (.box g o')) (hj : j + k ≤ o'.cs.length) (hW : W g)
    (hK : K ((St'.mk s.sl (s.hp.set i (.box g ⟨setAll o'.cs j (cellsOf v), o'.ty, o'.tot⟩)) s.k).put o.dst (.v undef))) : OpE P B W s o K := by
  intro a w hr next Qx hn
  have hm := List.mem_of_getElem? hi
  obtain ⟨c, h1, h2, h3, h4⟩ := hr.blocks _ hm
  have hc := (hr.ev hy).cells hk
  generalize hv : a.eval y = u at hc
  have hul : u.cells.toList.length = k := by simp [hc.1, hl]
  have hone' : ∀ x ∈ u.cells.toList, x.oneCell' = true := by
    intro x hx'
    obtain ⟨q, hq, rfl⟩ := List.mem_iff_getElem.1 hx'
    have hq' : q < (cellsOf v).length := by simp [hc.1] at hq; omega
    have := hc.2 q hq'
    rw [show u.cells.getD q undef = u.cells.toList[q] by rw [Array.getD_eq_getD_getElem?]; simp at hq; simp [hq]] at this
    exact this.oneC (List.all_eq_true.1 hone _ (List.getElem_mem hq'))
  have hst := run_storeCells_at P g j o'.ty u.cells.toList 0 c w h1 (by rw [hul]; omega) hone'
  simp only [Nat.add_zero] at hst
  have hst' : (storeCells ⟨g, j, none⟩ u.cells.toList).run P w = _ := hst
  generalize hc' : (c.toList.take j ++ u.cells.toList ++ c.toList.drop (j + u.cells.toList.length)).toArray = c' at hst'
  have hsz' : c'.size = c.size := by
    rw [← hc']
    simp only [List.size_toArray, List.length_append, List.length_take, List.length_drop, Array.length_toList]
    rw [Array.length_toList] at hul
    omega
  have hg' := setRow_heap w g c c' o'.ty (0, 0) h1
  have hr' := hr.set hB hi (e' := .box g ⟨setAll o'.cs j (cellsOf v), o'.ty, o'.tot⟩) (w' := w.setRow g c') (chg_setRow w g c') (.inl rfl) (by
    refine ⟨c', hg', by rw [hsz', h2], by rw [setAll_len]; exact h3, fun q hq => ?_⟩
    have hz : ∀ b, Zn B s.hp w b → b < w.heap.size → (w.setRow g c').heap[b]? = w.heap[b]? ∧ Zn B (s.hp.set i (.box g ⟨setAll o'.cs j (cellsOf v), o'.ty, o'.tot⟩)) (w.setRow g c') b := fun b hb hbl => by
      refine ⟨setRow_other w g b c' fun e => hb.2.1 _ hm (by rw [e]; rfl), by simp [World.setRow]; exact hbl, fun p hp => ?_, hb.2.2⟩
      rcases List.mem_or_eq_of_mem_set hp with hp | hp
      · exact hb.2.1 p hp
      · subst hp; exact hb.2.1 (.box g o') hm
    rw [setAll_len] at hq
    rw [setAll_get]
    by_cases hin : j ≤ q ∧ q < j + (cellsOf v).length
    · rw [dif_pos hin]
      refine ⟨u.cells.getD (q - j) undef, ?_, (hc.2 (q - j) (by omega)).keep hz⟩
      rw [← hc']
      have hqu : q - j < u.cells.size := by rw [hc.1]; omega
      rw [List.getElem?_toArray, List.append_assoc, List.getElem?_append_right (by simp; omega), List.getElem?_append_left (by simp; omega)]
      simp only [List.length_take, Array.length_toList]
      rw [show q - min j c.size = q - j by omega, Array.getElem?_toList]
      exact getD_lt hqu
    · rw [dif_neg hin]
      obtain ⟨x, k1, k2⟩ := h4 q hq
      refine ⟨x, ?_, k2.keep hz⟩
      rw [← hc', List.getElem?_toArray]
      by_cases hlt : q < j
      · rw [List.append_assoc, List.getElem?_append_left (by simp; omega), List.getElem?_take, if_pos hlt, Array.getElem?_toList]
        exact k1
      · rw [List.getElem?_append_right (by simp; rw [Array.length_toList] at hul; omega), List.getElem?_drop]
        simp only [List.length_append, List.length_take, Array.length_toList]
        rw [Array.length_toList] at hul
        rw [show j + u.cells.size + (q - (min j c.size + u.cells.size)) = q by omega, Array.getElem?_toList]
        exact k1)
  unfold Oper.wp
  have hcs : ¬ (u.cells.size ≠ k) := by rw [Array.length_toList] at hul; simp [hul]
  simp only [execOp, ho, Instr.storeAt, Instr.sureAddr, hr.evv hx, hv, storeVar, Sem.run_bind, Sem.run_pure, Result.andThen_ok, hsz, hcs, if_false, hst']
  exact hn _ _ _ hK (hr'.put _ hd _ _ (.v _)) ((chg_setRow w g c').mono fun b _ h => .inr (by cases h; exact hW))

/-- make([]T, n). -/
theorem OpE.make {l c : Operand} {t e n sz bytes : Nat} {kl kc : IntKind} {C D : Int} {z : Value} {cs : List AV} (ho : o.op = .makeSlice t l c) (hB : B.Ok) (hd : okd B.nt o.dst = true) (hu : P.underlying t = some (.slice e))
    (hinfo : (P.info? e).map (fun i => (i.zero, i.size, i.bytes)) = some (some z, sz, bytes)) (hby : bytes ≤ 4096) (hl : evO s l = some (.v (.int kl C))) (hc : evO s c = some (.v (.int kc D))) (hC : C = n) (hD : D = n) (hn : n ≤ 1000000000)
    (hcs : (madeCells z.cells (n * sz)).toList.map .v = cs)
    (hK : ∀ g, K ((St'.mk s.sl (s.hp ++ [.box g ⟨cs, e, cs.length⟩]) s.k).put o.dst (.v (.slice (some ⟨g, 0, none⟩) n n)))) : OpE P B W s o K := by
  subst hC; subst hD; subst hcs
  obtain ⟨i, hi, hz0, hz1, hz2⟩ := info_parts hinfo
  have hb : (i.bytes : Int) * (n : Int) ≤ 281474976710656 := by
    have h : ((i.bytes * n : Nat) : Int) ≤ 281474976710656 := by
      have : i.bytes * n ≤ 4096 * 1000000000 := by rw [hz2]; exact Nat.mul_le_mul hby hn
      omega
    rwa [Int.natCast_mul] at h
  intro a w hr next Qx hn'
  have hrun := run_make (P := P) w t e i z hu hi hz0 kl kc n n (by omega) (Int.le_refl _) hb (by omega)
  simp only [Int.toNat_natCast, hz1] at hrun
  have h1 := hr.newBox hB (madeCells z.cells (n * sz)) e _ (Rep.cells (.v (.agg (madeCells z.cells (n * sz)))) rfl)
  unfold Oper.wp
  simp only [execOp, ho, hr.evv hl, hr.evv hc, Sem.run_bind, hrun, Result.andThen_ok, Sem.run_pure]
  exact hn' _ _ _ (hK _) (h1.put _ hd _ _ (.v _)) (.ofN ((Chg.refl _ _).alloc _))

/-- A nil slice begins a row. -/
theorem R.rowNil (hr : R B s a w) (sz : Nat) (ty : TypeId) : R B ⟨s.sl, s.hp ++ [.row (.slice none 0 0) 0 sz [] ty], s.k⟩ a w := by
  have hz : ∀ b, Zn B s.hp w b → Zn B (s.hp ++ [.row (.slice none 0 0) 0 sz [] ty]) w b := fun b hb => ⟨hb.1, fun p hp => by
    rcases List.mem_append.1 hp with hp | hp
    · exact hb.2.1 p hp
    · simp at hp; subst hp; simp [Ent.blk, Value.ownBlock], hb.2.2⟩
  refine ⟨fun t x hx => (hr.slots t x hx).keep fun b hb _ => ⟨rfl, hz b hb⟩, hr.size, hr.defs, fun p hp => ?_, ?_, hr.chg, fun p hp g hg => ?_, hr.res⟩
  · rcases List.mem_append.1 hp with hp | hp
    · exact (hr.blocks p hp).keep (fun b hb _ => ⟨rfl, hz b hb⟩) fun _ _ => rfl
    · simp at hp; subst hp; exact ⟨by simp, .inl ⟨rfl, rfl⟩⟩
  · refine Apart.of fun i j p q hij hi hj g hg hq => ?_
    by_cases hjl : j < s.hp.length
    · rw [List.getElem?_append_left (by omega)] at hi
      rw [List.getElem?_append_left hjl] at hj
      exact hr.nodup.get hi hj (by omega) hg hq
    · have hje : j = s.hp.length := by
        have := (List.getElem?_eq_some_iff.1 hj).1
        simp at this; omega
      rw [hje, List.getElem?_append_right (Nat.le_refl _)] at hj
      simp at hj
      subst hj
      simp [Ent.blk, Value.ownBlock] at hq
  · rcases List.mem_append.1 hp with hp | hp
    · exact hr.own p hp g hg
    · simp at hp; subst hp; simp [Ent.blk, Value.ownBlock] at hg

/-- A row that has an element lies at the head of a block. -/
theorem R.rowBox (hr : R B s a w) {i n sz : Nat} {u : Value} {cs : List AV} {ty : TypeId} (hi : s.hp[i]? = some (.row u n sz cs ty)) (hn : 0 < n) :
    ∃ g cap, u = .slice (some ⟨g, 0, none⟩) n cap ∧ n ≤ cap ∧ cap ≤ maxLen ∧ R B ⟨s.sl, s.hp.set i (.box g ⟨cs, ty, cap * sz⟩), s.k⟩ a w := by
  obtain ⟨h0, ⟨_, h⟩ | ⟨g, cap, c, rfl, h1, h2, h3, h4, h5⟩⟩ := hr.blocks _ (List.mem_of_getElem? hi)
  · omega
  · refine ⟨g, cap, rfl, h1, h2, ?_⟩
    have hz : ∀ b, Zn B s.hp w b → Zn B (s.hp.set i (.box g ⟨cs, ty, cap * sz⟩)) w b := fun b hb => ⟨hb.1, fun p hp => by
      rcases List.mem_or_eq_of_mem_set hp with hp | hp
      · exact hb.2.1 p hp
      · subst hp; exact hb.2.1 (.row (.slice (some ⟨g, 0, none⟩) n cap) n sz cs ty) (List.mem_of_getElem? hi), hb.2.2⟩
    have hle : cs.length ≤ cap * sz := by rw [h0]; exact Nat.mul_le_mul_right _ h1
    have heq : ∀ (j : Nat) (p : Ent), (s.hp.set i (.box g ⟨cs, ty, cap * sz⟩))[j]? = some p → ∃ q : Ent, s.hp[j]? = some q ∧ p.blk = q.blk := fun j p hj => by
      rw [List.getElem?_set] at hj
      split at hj
      · rename_i e
        subst e
        split at hj
        · cases hj; exact ⟨_, hi, rfl⟩
        · cases hj
      · exact ⟨p, hj, rfl⟩
    refine ⟨fun t x hx => (hr.slots t x hx).keep fun b hb _ => ⟨rfl, hz b hb⟩, hr.size, hr.defs, fun p hp => ?_, ?_, hr.chg, fun p hp g' hg => ?_, hr.res⟩
    · rcases List.mem_or_eq_of_mem_set hp with hp | hp
      · exact (hr.blocks p hp).keep (fun b hb _ => ⟨rfl, hz b hb⟩) fun _ _ => rfl
      · subst hp
        exact ⟨c, h3, h4, hle, fun j hj => let ⟨x, k1, k2⟩ := h5 j hj; ⟨x, k1, k2.keep fun b hb _ => ⟨rfl, hz b hb⟩⟩⟩
    · refine Apart.of fun j1 j2 p q hij hp hq g' hg1 hg2 => ?_
      obtain ⟨p', hp', e1⟩ := heq j1 p hp
      obtain ⟨q', hq', e2⟩ := heq j2 q hq
      rw [e1] at hg1
      rw [e2] at hg2
      exact hr.nodup.get hp' hq' (by omega) hg1 hg2
    · obtain ⟨j, hj⟩ := List.mem_iff_getElem?.1 hp
      obtain ⟨q, hq, e⟩ := heq j p hj
      exact hr.own q (List.mem_of_getElem? hq) g' (by rw [← e]; exact hg)

/-- Entries that are no longer wanted are forgotten, slots too. -/
theorem R.drop (hr : R B s a w) {sl : List (Nat × AV)} {hp : List Ent} (h1 : ∀ t x, look sl t = some x → look s.sl t = some x) (h2 : hp.Sublist s.hp) : R B ⟨sl, hp, s.k⟩ a w := by
  have hz : ∀ b, Zn B s.hp w b → Zn B hp w b := fun b hb => ⟨hb.1, fun p hp' => hb.2.1 p (h2.subset hp'), hb.2.2⟩
  exact ⟨fun t x hx => (hr.slots t x (h1 t x hx)).keep fun b hb _ => ⟨rfl, hz b hb⟩, hr.size, hr.defs, fun p hp' => (hr.blocks p (h2.subset hp')).keep (fun b hb _ => ⟨rfl, hz b hb⟩) fun _ _ => rfl,
    List.Pairwise.sublist h2 hr.nodup, hr.chg, fun p hp' g hg => hr.own p (h2.subset hp') g hg, hr.res⟩

/-- An own slice as a list: what its cells fit. -/
theorem R.repRow (hr : R B s a w) {i n sz : Nat} {u : Value} {cs : List AV} {ty : TypeId} (hi : s.hp[i]? = some (.row u n sz cs ty)) {Z : Nat → Prop} (hZ : ∀ b, Zn B s.hp w b → Z b) (hg : ∀ g, u.ownBlock = some g → g < w.heap.size → Z g) :
    Rep w Z (.im n sz fun j => cs.getD j .any) u := by
  obtain ⟨h0, ⟨rfl, rfl⟩ | ⟨g, cap, c, rfl, h1, h2, h3, h4, h5⟩⟩ := hr.blocks _ (List.mem_of_getElem? hi)
  · exact .nil _ _
  · refine .im n sz _ g 0 cap c ty (fun j => c.getD j undef) (hg g rfl (Array.getElem?_eq_some_iff.1 h3).1) h1 h2 h3 (fun j hj => ?_) fun j hj => ?_
    · obtain ⟨x, k1, _⟩ := h5 j (by omega)
      rw [Nat.zero_add]
      exact getD_lt (Array.getElem?_eq_some_iff.1 k1).1
    · obtain ⟨x, k1, k2⟩ := h5 j (by omega)
      rw [List.getD_eq_getElem?_getD, List.getElem?_eq_getElem (by omega)]
      rw [show c.getD j undef = x by rw [Array.getD_eq_getD_getElem?, k1]; rfl]
      exact k2.keep fun b hb _ => ⟨rfl, hZ b hb⟩
theorem R.repBox (hr : R B s a w) {i n sz g off cap : Nat} {o' : Own'} (hi : s.hp[i]? = some (.box g o')) (hl : off + n * sz ≤ o'.cs.length) (hn : n ≤ cap) (hm : cap ≤ maxLen) {Z : Nat → Prop} (hZ : ∀ b, Zn B s.hp w b → Z b) (hg : g < w.heap.size → Z g) :
    Rep w Z (.im n sz fun j => o'.cs.getD (off + j) .any) (.slice (some ⟨g, off, none⟩) n cap) := by
  obtain ⟨c, h1, h2, h3, h4⟩ := hr.blocks _ (List.mem_of_getElem? hi)
  refine .im n sz _ g off cap c o'.ty (fun j => c.getD (off + j) undef) (hg (Array.getElem?_eq_some_iff.1 h1).1) hn hm h1 (fun j hj => ?_) fun j hj => ?_
  · obtain ⟨x, k1, _⟩ := h4 (off + j) (by omega)
    exact getD_lt (Array.getElem?_eq_some_iff.1 k1).1
  · obtain ⟨x, k1, k2⟩ := h4 (off + j) (by omega)
    rw [List.getD_eq_getElem?_getD, List.getElem?_eq_getElem (by omega)]
    rw [show c.getD (off + j) undef = x by rw [Array.getD_eq_getD_getElem?, k1]; rfl]
    exact k2.keep fun b hb _ => ⟨rfl, hZ b hb⟩
theorem R.repPtr (hr : R B s a w) {i m g off : Nat} {o' : Own'} (hi : s.hp[i]? = some (.box g o')) (hl : off + m ≤ o'.cs.length) {Z : Nat → Prop} (hZ : ∀ b, Zn B s.hp w b → Z b) (hg : g < w.heap.size → Z g) :
    Rep w Z (.at_ m fun j => o'.cs.getD (off + j) .any) (.pointer (some ⟨g, off, none⟩)) := by
  obtain ⟨c, h1, h2, h3, h4⟩ := hr.blocks _ (List.mem_of_getElem? hi)
  refine .at_ m _ g off c o'.ty (fun j => c.getD (off + j) undef) (hg (Array.getElem?_eq_some_iff.1 h1).1) h1 (fun j hj => ?_) fun j hj => ?_
  · obtain ⟨x, k1, _⟩ := h4 (off + j) (by omega)
    exact getD_lt (Array.getElem?_eq_some_iff.1 k1).1
  · obtain ⟨x, k1, k2⟩ := h4 (off + j) (by omega)
    rw [List.getD_eq_getElem?_getD, List.getElem?_eq_getElem (by omega)]
    rw [show c.getD (off + j) undef = x by rw [Array.getD_eq_getD_getElem?, k1]; rfl]
    exact k2.keep fun b hb _ => ⟨rfl, hZ b hb⟩

/-- Entry i is given up: it is one more that nobody changes. -/
theorem R.erase (hr : R B s a w) (i : Nat) : R B ⟨s.sl, s.hp.eraseIdx i, s.k⟩ a w := hr.drop (fun _ _ h => h) (List.eraseIdx_sublist s.hp i)
theorem R.erased (hB : B.Ok) (hr : R B s a w) {i : Nat} {e : Ent} (hi : s.hp[i]? = some e) {g : Nat} (hg : e.blk = some g) : Zn B (s.hp.eraseIdx i) w g := by
  have hm := List.mem_of_getElem? hi
  refine ⟨hr.lt e hm g hg, fun p hp hpg => ?_, fun h => ⟨.inr ((hr.own e hm g hg).2 h), fun hs => (hr.own e hm g hg).1 (hB.str g hs).1⟩⟩
  obtain ⟨j, hj⟩ := List.mem_iff_getElem?.1 hp
  rw [List.getElem?_eraseIdx] at hj
  split at hj
  · exact hr.nodup.get hi hj (by omega) hg hpg
  · exact hr.nodup.get hi hj (by omega) hg hpg

theorem R.over (hr : R B s a w) (t : Nat) {x : AV} (hx : Rep w (Zn B s.hp w) x (a.tmps.getD t undef)) : R B ⟨(t, x) :: s.sl, s.hp, s.k⟩ a w :=
  ⟨fun t' y hy => by rw [look_put] at hy; split at hy; (rename_i e; subst e; cases hy; exact hx); exact hr.slots t' y hy, hr.size, hr.defs, hr.blocks, hr.nodup, hr.chg, hr.own, hr.res⟩

/-- What is its own may be new alone: S bars all old blocks. -/
theorem R.isNew (hr : R B s a w) (hS : ∀ b, ¬ B.S b) {e : Ent} (he : e ∈ s.hp) {g : Nat} (hg : e.blk = some g) : ¬ g < B.w0.heap.size := fun h => hS g ((hr.own e he g hg).2 h)

theorem append_run {P : Program} (w : World) (T ty e : TypeId) (i : TypeInfo) (z : Value) (sz bytes : Nat) (h1 : P.underlying T = some (.slice e)) (h2 : P.info? e = some i)
    (h3 : i.zero = some z) (h4 : i.size = sz) (h5 : i.bytes = bytes) (hz : z.cells.size = sz) (hsz : 0 < sz) (hby : bytes ≤ 4096) (u : Value) (n : Nat) (old : Nat → Value)
    (hrow : (u = .slice none 0 0 ∧ n = 0) ∨ ∃ g cap c, u = .slice (some ⟨g, 0, none⟩) n cap ∧ n ≤ cap ∧ cap ≤ maxLen ∧ w.heap[g]? = some (.cells c e (0, 0)) ∧ c.size = cap * sz ∧ ∀ j, j < n * sz → c[j]? = some (old j))
    (a0 : Addr) (m cap2 : Nat) (news : Nat → Value) (hnews : ∀ j, j < m * sz → w.cell? (a0.add j) = some (news j)) (hone : ∀ j, j < m * sz → (news j).oneCell' = true) (hm : 0 < m) (hlen : n + m ≤ 10000000000) :
    ∃ g cap w' c, (Builtin.append_ #[T, T] ty #[u, .slice (some a0) m cap2]).run P w = .ok (.slice (some ⟨g, 0, none⟩) (n + m) cap) w' ∧ n + m ≤ cap ∧ cap ≤ maxLen ∧ w'.heap[g]? = some (.cells c e (0, 0)) ∧ c.size = cap * sz ∧
      (∀ j, j < n * sz → c[j]? = some (old j)) ∧ (∀ j, j < m * sz → c[n * sz + j]? = some (news j)) ∧ Chg (fun q => u.ownBlock = some q) w w' ∧ (u.ownBlock = some g ∨ w.heap.size ≤ g) := by
  subst h4; subst h5
  have hl : ((List.range (m * i.size)).map news).length = m * i.size := by simp
  have hnews' : ∀ j x, ((List.range (m * i.size)).map news)[j]? = some x → w.cell? (a0.add j) = some x := by
    intro j x hj
    simp only [List.getElem?_map, Option.map_eq_some_iff] at hj
    obtain ⟨q, hq, rfl⟩ := hj
    obtain ⟨hlt, hq'⟩ := List.getElem?_eq_some_iff.1 hq
    simp at hlt hq'
    subst hq'
    exact hnews j hlt
  have hone' : ∀ x ∈ (List.range (m * i.size)).map news, x.oneCell' = true := by
    intro x hx
    obtain ⟨j, hj, rfl⟩ := List.mem_map.1 hx
    exact hone j (List.mem_range.1 hj)
  have hmx : n + m ≤ maxLen := by simp only [maxLen]; omega
  have hb47 : (n + m) * i.bytes ≤ 140737488355328 := by
    have : (n + m) * i.bytes ≤ 10000000000 * 4096 := Nat.mul_le_mul hlen hby
    omega
  have hnl : ∀ j, j < m * i.size → ((List.range (m * i.size)).map news)[j]? = some (news j) := fun j hj => by simp [hj]
  generalize hN : (List.range (m * i.size)).map news = N at hl hnews' hone' hnl
  rcases hrow with ⟨rfl, rfl⟩ | ⟨g, cap, cur, rfl, k1, k2, hg, k3, k4⟩
  · rw [Nat.zero_add] at hmx hb47
    have hr := run_append_nil (P := P) w T ty e i z h1 h2 h3 a0 m cap2 N hl hnews' hm (by omega) (by omega)
    have hge := grownCap_ge w m 0 e
    have hcm := grownCap_le_maxLen w m 0 e hmx
    refine ⟨_, _, _, _, by rw [Nat.zero_add]; exact hr, by omega, hcm, heap_alloc_new _ _, ?_, fun j hj => by omega, fun j hj => ?_, ((Chg.refl _ w).drew).alloc _, .inr (by simp)⟩
    · simp only [Array.size_append, List.size_toArray, size_zeroCells, hz, hl]
      rw [Nat.sub_mul]
      have := Nat.mul_le_mul_right i.size hge
      omega
    · rw [Nat.zero_mul, Nat.zero_add, Array.getElem?_append_left (by simp [hl]; exact hj)]
      simpa using hnl j hj
  · by_cases hroom : n + m ≤ cap
    · have hfit : n * i.size + N.length ≤ cur.size := by rw [hl, k3, ← Nat.add_mul]; exact Nat.mul_le_mul_right _ hroom
      have hr := run_append_room (P := P) w T ty e i h1 h2 g n cap cur hg a0 m cap2 N hl hnews' hone' hroom hfit
      have hns : n * i.size ≤ cur.size := by omega
      refine ⟨_, _, _, _, hr, hroom, k2, setRow_heap _ g cur _ e _ hg, ?_, fun j hj => ?_, fun j hj => ?_, chg_setRow w g _, .inl rfl⟩
      · simp only [List.size_toArray, List.length_append, List.length_take, List.length_drop, Array.length_toList]
        omega
      · rw [List.getElem?_toArray, List.append_assoc, List.getElem?_append_left (by simp; omega), List.getElem?_take, if_pos hj, Array.getElem?_toList]
        exact k4 j hj
      · rw [List.getElem?_toArray, List.append_assoc, List.getElem?_append_right (by simp; omega), List.getElem?_append_left (by simp; omega)]
        simp only [List.length_take, Array.length_toList]
        rw [show n * i.size + j - min (n * i.size) cur.size = j by omega]
        exact hnl j hj
    · have holds : ∀ j x, ((List.range (n * i.size)).map old)[j]? = some x → w.cell? ((⟨g, 0, none⟩ : Addr).add j) = some x := by
        intro j x hj
        simp only [List.getElem?_map, Option.map_eq_some_iff] at hj
        obtain ⟨q, hq, rfl⟩ := hj
        obtain ⟨hlt, hq'⟩ := List.getElem?_eq_some_iff.1 hq
        simp at hlt hq'
        subst hq'
        rw [Addr.add_lit, Nat.zero_add]
        simpa [World.cell?, hg] using k4 j hlt
      have hr := run_append_grow (P := P) w T ty e i z h1 h2 h3 ⟨g, 0, none⟩ n cap ((List.range (n * i.size)).map old) (by simp) holds a0 m cap2 N hl hnews' (by omega) (by simp only [maxLen] at hmx; omega) (growslice_fits (by omega) hb47)
      have hge := grownCap_ge w (n + m) cap e
      have hcm := grownCap_le_maxLen w (n + m) cap e hmx
      refine ⟨_, _, _, _, hr, hge, hcm, heap_alloc_new _ _, ?_, fun j hj => ?_, fun j hj => ?_, ((Chg.refl _ w).drew).alloc _, .inr (by simp)⟩
      · simp only [Array.size_append, List.size_toArray, size_zeroCells, hz, hl, List.length_map, List.length_range]
        rw [Nat.sub_mul]
        have := Nat.mul_le_mul_right i.size hge
        rw [Nat.add_mul] at this ⊢
        omega
      · rw [Array.getElem?_append_left (by simp [hl]; omega), Array.getElem?_append_left (by simpa using hj)]
        simp [hj]
      · rw [Array.getElem?_append_left (by simp [hl]; omega), Array.getElem?_append_right (by simp)]
        simpa using hnl j hj

/-- append(out, x..) for a row of one's own; the source: a list of at least one element that nobody changes. -/
theorem OpE.append {x y : Operand} {T e i n m sz bytes : Nat} {u z : Value} {cs : List AV} {F : Nat → AV} (ho : o.op = .call { callee := .builtin .append, args := #[x, y], argTypes := #[T, T] }) (hB : B.Ok) (hd : okd B.nt o.dst = true)
    (hu : P.underlying T = some (.slice e)) (hinfo : (P.info? e).map (fun i => (i.zero, i.size, i.bytes)) = some (some z, sz, bytes)) (hz : z.cells.size = sz) (hsz : 0 < sz) (hby : bytes ≤ 4096)
    (hx : evO s x = some (.v u)) (hi : s.hp[i]? = some (.row u n sz cs e)) (hy : evO s y = some (.im m sz F)) (hm : 0 < m) (hone : ∀ j, j < m * sz → (F j).one = true) (hlen : n + m ≤ 10000000000) (hW : ∀ g, u.ownBlock = some g → W g)
    (hK : ∀ u', K ((St'.mk s.sl (s.hp.set i (.row u' (n + m) sz (cs ++ tab (m * sz) F) e)) s.k).put o.dst (.v u'))) : OpE P B W s o K := by
  obtain ⟨ii, hii, hz0, hz1, hz2⟩ := info_parts hinfo
  intro a w hr next Qx hn
  have hmem := List.mem_of_getElem? hi
  have hey := hr.ev hy
  generalize hv : a.eval y = v at hey
  obtain ⟨hl0, hrow⟩ := hr.blocks _ hmem
  cases hey with
  | nil => omega
  | im m sz F b off cap2 c2 e2 v2 hZ h1 h2 hb hc2 hr2 =>
    obtain ⟨old, hrow', hold⟩ : ∃ old : Nat → Value, ((u = .slice none 0 0 ∧ n = 0) ∨ ∃ g cap c, u = .slice (some ⟨g, 0, none⟩) n cap ∧ n ≤ cap ∧ cap ≤ maxLen ∧ w.heap[g]? = some (.cells c e (0, 0)) ∧ c.size = cap * sz ∧ ∀ j, j < n * sz → c[j]? = some (old j)) ∧
        ∀ j, (h : j < cs.length) → Rep w (Zn B s.hp w) cs[j] (old j) := by
      rcases hrow with ⟨h, rfl⟩ | ⟨g, cap, c, h, k1, k2, k3, k4, k5⟩
      · exact ⟨fun _ => undef, .inl ⟨h, rfl⟩, fun j hj => by omega⟩
      · refine ⟨fun j => c.getD j undef, .inr ⟨g, cap, c, h, k1, k2, k3, k4, fun j hj => ?_⟩, fun j hj => ?_⟩
        · obtain ⟨x, q1, _⟩ := k5 j (by omega)
          exact getD_lt (Array.getElem?_eq_some_iff.1 q1).1
        · obtain ⟨x, q1, q2⟩ := k5 j hj
          simp only
          rw [show c.getD j undef = x by rw [Array.getD_eq_getD_getElem?, q1]; rfl]
          exact q2
    obtain ⟨g, cap, w', c, hrun, e1, e2', e3, e4, e5, e6, e7, e8⟩ := append_run (P := P) w T o.type e ii z sz bytes hu hii hz0 hz1 hz2 hz hsz hby u n old hrow' ⟨b, off, none⟩ m cap2 v2
      (fun j hj => by rw [Addr.add_lit]; simpa [World.cell?, hb] using hc2 j hj) (fun j hj => (hr2 j hj).oneC (hone j hj)) hm hlen
    have hblk : (Ent.row (.slice (some ⟨g, 0, none⟩) (n + m) cap) (n + m) sz (cs ++ tab (m * sz) F) e).blk = (Ent.row u n sz cs e).blk ∨ ∃ g', (Ent.row (.slice (some ⟨g, 0, none⟩) (n + m) cap) (n + m) sz (cs ++ tab (m * sz) F) e).blk = some g' ∧ w.heap.size ≤ g' := by
      rcases e8 with e8 | e8
      · exact .inl (by simp only [Ent.blk]; rw [e8]; rfl)
      · exact .inr ⟨g, rfl, e8⟩
    have hr' := hr.set hB hi (e' := .row (.slice (some ⟨g, 0, none⟩) (n + m) cap) (n + m) sz (cs ++ tab (m * sz) F) e) e7 hblk (by
      have hz : ∀ b, Zn B s.hp w b → b < w.heap.size → w'.heap[b]? = w.heap[b]? ∧ Zn B (s.hp.set i (.row (.slice (some ⟨g, 0, none⟩) (n + m) cap) (n + m) sz (cs ++ tab (m * sz) F) e)) w' b := fun b hb hbl => by
        refine ⟨e7.block b hbl fun h => hb.2.1 _ hmem h, Nat.lt_of_lt_of_le hbl e7.size, fun p hp => ?_, hb.2.2⟩
        rcases List.mem_or_eq_of_mem_set hp with hp | hp
        · exact hb.2.1 p hp
        · subst hp
          rcases hblk with h | ⟨g', h, hg'⟩
          · rw [h]; exact hb.2.1 _ hmem
          · rw [h]; intro h'; simp at h'; omega
      refine ⟨by rw [List.length_append, hl0, tab_len, Nat.add_mul], .inr ⟨g, cap, c, rfl, e1, e2', e3, e4, fun j hj => ?_⟩⟩
      by_cases hjl : j < cs.length
      · rw [List.getElem_append_left hjl]
        exact ⟨old j, e5 j (by omega), (hold j hjl).keep hz⟩
      · rw [List.getElem_append_right (by omega)]
        simp [tab_len] at hj
        refine ⟨v2 (j - cs.length), ?_, ?_⟩
        · have := e6 (j - cs.length) (by omega)
          rwa [show n * sz + (j - cs.length) = j by omega] at this
        · rw [tab_get]
          exact (hr2 _ (by omega)).keep hz)
    unfold Oper.wp
    simp only [execOp, ho, resolve, invoke, builtin, List.map_toArray, List.map_cons, List.map_nil, hr.evv hx, hv, Sem.run_bind, Sem.run_pure, Result.andThen_ok, hrun]
    exact hn _ _ _ (hK _) (hr'.put _ hd _ _ (.v _)) (e7.mono fun b _ h => .inr (hW b h))
end
end Go.Proofs.YtgikefjbdhnffaaDoor
