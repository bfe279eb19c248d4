/- The symbolic walk: sources that lie in one's own memory, copies, comparisons with nil, slices of one's own. -/
import Derived.Test.YtgikefjbdhnffaaDoorSxOwn
import Derived.Lib.SliceRun
namespace Go.Proofs.YtgikefjbdhnffaaDoor
open Go.RowKit
set_option linter.unusedVariables false
set_option linter.unusedSimpArgs false

section
variable {P : Program} {B : Bs} {W : Nat → Prop} {s : St'} {o : Oper} {K : St' → Prop} {a : Act} {w w' : World} {Q : Exit → St' → Prop}

/-- A slice value as a source: m elements of sz cells each, F the cells. -/
def SrcP (P : Program) (B : Bs) (s : St') (x : Operand) (m sz : Nat) (F : Nat → AV) : Prop :=
  ∀ a w, R B s a w → ∃ (ad : Option Addr) (cap : Nat) (us : Nat → Value), a.eval x = .slice ad m cap ∧ (ad = none → m = 0 ∧ cap = 0) ∧ ∀ x0, ad = some x0 → ∀ j, j < m * sz → w.cell? (x0.add j) = some (us j) ∧ Rep w (Zn B s.hp w) (F j) (us j)
theorem SrcP.im {x : Operand} {m sz : Nat} {F : Nat → AV} (hx : evO s x = some (.im m sz F)) : SrcP P B s x m sz F := fun a w hr => by
  have := hr.ev hx
  generalize hv : a.eval x = v at this
  cases this with
  | nil => exact ⟨none, 0, fun _ => undef, rfl, fun _ => ⟨rfl, rfl⟩, fun x0 h => (by cases h)⟩
  | im m sz F b off cap c e u hZ h1 h2 hb hc hr' => exact ⟨some ⟨b, off, none⟩, cap, u, rfl, fun h => (by cases h), fun x0 h j hj => by
      cases h
      exact ⟨by rw [Addr.add_lit]; simpa [World.cell?, hb] using hc j hj, hr' j hj⟩⟩
theorem SrcP.row {x : Operand} {i n sz : Nat} {u : Value} {cs : List AV} {ty : TypeId} (hx : evO s x = some (.v u)) (hi : s.hp[i]? = some (.row u n sz cs ty)) : SrcP P B s x n sz (fun j => cs.getD j .any) := fun a w hr => by
  rw [hr.evv hx]
  obtain ⟨h0, ⟨rfl, rfl⟩ | ⟨g, cap, c, rfl, h1, h2, h3, h4, h5⟩⟩ := hr.blocks _ (List.mem_of_getElem? hi)
  · exact ⟨none, 0, fun _ => undef, rfl, fun _ => ⟨rfl, rfl⟩, fun x0 h => (by cases h)⟩
  · refine ⟨_, cap, fun j => c.getD j undef, rfl, fun h => (by cases h), fun x0 h j hj => ?_⟩
    cases h
    obtain ⟨v, k1, k2⟩ := h5 j (by omega)
    rw [Addr.add_lit, Nat.zero_add]
    have e : c.getD j undef = v := by rw [Array.getD_eq_getD_getElem?, k1]; rfl
    refine ⟨by simp only [e]; simpa [World.cell?, h3] using k1, ?_⟩
    simp only [e]
    rw [List.getD_eq_getElem?_getD, List.getElem?_eq_getElem (by omega)]
    exact k2
theorem SrcP.box {x : Operand} {i n sz g off cap : Nat} {o' : Own'} (hx : evO s x = some (.v (.slice (some ⟨g, off, none⟩) n cap))) (hi : s.hp[i]? = some (.box g o')) (hl : off + n * sz ≤ o'.cs.length) : SrcP P B s x n sz (fun j => o'.cs.getD (off + j) .any) := fun a w hr => by
  rw [hr.evv hx]
  obtain ⟨c, h1, h2, h3, h4⟩ := hr.blocks _ (List.mem_of_getElem? hi)
  refine ⟨_, cap, fun j => c.getD (off + j) undef, rfl, fun h => (by cases h), fun x0 h j hj => ?_⟩
  cases h
  obtain ⟨v, k1, k2⟩ := h4 (off + j) (by omega)
  rw [Addr.add_lit]
  have e : c.getD (off + j) undef = v := by rw [Array.getD_eq_getD_getElem?, k1]; rfl
  refine ⟨by simp only [e]; simpa [World.cell?, h1] using k1, ?_⟩
  simp only [e]
  rw [List.getD_eq_getElem?_getD, List.getElem?_eq_getElem (by omega)]
  exact k2

/-- New cells laid into a block of one's own. -/
theorem R.splice (hB : B.Ok) (hr : R B s a w) {i g off : Nat} {o' : Own'} {c : Array Value} {l : List AV} {vs : List Value} (hi : s.hp[i]? = some (.box g o')) (hg : w.heap[g]? = some (.cells c o'.ty (0, 0))) (hl : vs.length = l.length)
    (hv : ∀ j, (h : j < l.length) → Rep w (Zn B s.hp w) l[j] (vs.getD j undef)) (hfit : off + l.length ≤ o'.cs.length) :
    R B ⟨s.sl, s.hp.set i (.box g ⟨o'.cs.take off ++ l ++ o'.cs.drop (off + l.length), o'.ty, o'.tot⟩), s.k⟩ a (w.setRow g (c.toList.take off ++ vs ++ c.toList.drop (off + vs.length)).toArray) := by
  have hm := List.mem_of_getElem? hi
  obtain ⟨c0, h1, h2, h3, h4⟩ := hr.blocks _ hm
  have hcc : c0 = c := by rw [hg] at h1; simp at h1; exact h1.symm
  subst hcc
  generalize hc' : (c0.toList.take off ++ vs ++ c0.toList.drop (off + vs.length)).toArray = c'
  generalize hcs' : o'.cs.take off ++ l ++ o'.cs.drop (off + l.length) = cs'
  have hsz' : c'.size = c0.size := by
    rw [← hc']
    simp only [List.size_toArray, List.length_append, List.length_take, List.length_drop, Array.length_toList]
    omega
  have hlen' : cs'.length = o'.cs.length := by
    rw [← hcs']
    simp only [List.length_append, List.length_take, List.length_drop]
    omega
  have hg' := setRow_heap w g c0 c' o'.ty (0, 0) h1
  refine hr.set hB hi (e' := .box g ⟨cs', o'.ty, o'.tot⟩) (w' := w.setRow g c') (chg_setRow w g c') (.inl rfl) ⟨c', hg', by rw [hsz', h2], by show cs'.length ≤ _; rw [hlen']; exact h3, fun q hq => ?_⟩
  have hz : ∀ b, Zn B s.hp w b → b < w.heap.size → (w.setRow g c').heap[b]? = w.heap[b]? ∧ Zn B (s.hp.set i (.box g ⟨cs', o'.ty, o'.tot⟩)) (w.setRow g c') b := fun b hb hbl => by
    refine ⟨setRow_other w g b c' fun e => hb.2.1 _ hm (by rw [e]; rfl), by simp [World.setRow]; exact hbl, fun p hp => ?_, hb.2.2⟩
    rcases List.mem_or_eq_of_mem_set hp with hp | hp
    · exact hb.2.1 p hp
    · subst hp; exact hb.2.1 (.box g o') hm
  have hq' : q < o'.cs.length := by rw [← hlen']; exact hq
  have key : ∀ (v : AV) (u : Value), cs'[q]? = some v → c'.toList[q]? = some u → Rep w (Zn B s.hp w) v u → ∃ u, c'[q]? = some u ∧ Rep (w.setRow g c') (Zn B (s.hp.set i (.box g ⟨cs', o'.ty, o'.tot⟩)) (w.setRow g c')) cs'[q] u := fun v u e1 e2 e3 => by
    refine ⟨u, by rw [← Array.getElem?_toList]; exact e2, ?_⟩
    have : cs'[q] = v := by
      rw [List.getElem?_eq_getElem hq] at e1
      exact Option.some.inj e1
    rw [this]
    exact e3.keep hz
  by_cases hin : off ≤ q ∧ q < off + l.length
  · refine key (l[q - off]'(by omega)) (vs.getD (q - off) undef) ?_ ?_ (hv _ _)
    · rw [← hcs', List.append_assoc, List.getElem?_append_right (by simp; omega), List.getElem?_append_left (by simp; omega)]
      simp only [List.length_take]
      rw [show q - min off o'.cs.length = q - off by omega]
      exact List.getElem?_eq_getElem _
    · rw [← hc']
      simp only
      rw [List.append_assoc, List.getElem?_append_right (by simp; omega), List.getElem?_append_left (by simp; omega)]
      simp only [List.length_take, Array.length_toList]
      rw [show q - min off c0.size = q - off by omega, List.getD_eq_getElem?_getD, List.getElem?_eq_getElem (by omega)]
      rfl
  · obtain ⟨x, k1, k2⟩ := h4 q hq'
    refine key _ x ?_ ?_ k2
    · rw [← hcs']
      by_cases hlt : q < off
      · rw [List.append_assoc, List.getElem?_append_left (by simp; omega), List.getElem?_take, if_pos hlt]
        exact List.getElem?_eq_getElem _
      · rw [List.getElem?_append_right (by simp; omega), List.getElem?_drop]
        simp only [List.length_append, List.length_take]
        rw [show off + l.length + (q - (min off o'.cs.length + l.length)) = q by omega]
        exact List.getElem?_eq_getElem _
    · rw [← hc']
      simp only
      rw [← Array.getElem?_toList] at k1
      by_cases hlt : q < off
      · rw [List.append_assoc, List.getElem?_append_left (by simp; omega), List.getElem?_take, if_pos hlt]
        exact k1
      · rw [List.getElem?_append_right (by simp; omega), List.getElem?_drop]
        simp only [List.length_append, List.length_take, Array.length_toList]
        rw [show off + vs.length + (q - (min off c0.size + vs.length)) = q by omega]
        exact k1

theorem OpE.copy {x y : Operand} {T T2 e i m n sz g off cap c : Nat} {o' : Own'} {F : Nat → AV} {cs' : List AV} (ho : o.op = .call { callee := .builtin .copy, args := #[x, y], argTypes := #[T, T2] }) (hB : B.Ok) (hd : okd B.nt o.dst = true)
    (hu : P.underlying T = some (.slice e)) (hsz : ∀ w, (sizeOf e).run P w = .ok sz w) (hx : evO s x = some (.v (.slice (some ⟨g, off, none⟩) n cap))) (hi : s.hp[i]? = some (.box g o')) (hy : SrcP P B s y m sz F)
    (hc : c = min m n) (hone : ∀ j, j < c * sz → (F j).one = true) (hfit : off + c * sz ≤ o'.cs.length) (hcs : o'.cs.take off ++ tab (c * sz) F ++ o'.cs.drop (off + c * sz) = cs') (hW : W g)
    (hK : K ((St'.mk s.sl (s.hp.set i (.box g ⟨cs', o'.ty, o'.tot⟩)) s.k).put o.dst (.v (.int .i64 c)))) : OpE P B W s o K := by
  intro a w hr next Qx hn
  obtain ⟨ad, cap2, us, hev, hnil, hsrc⟩ := hy a w hr
  obtain ⟨c0, h1, h2, h3, h4⟩ := hr.blocks _ (List.mem_of_getElem? hi)
  generalize hvs : (List.range (c * sz)).map us = vs
  have hvl : vs.length = c * sz := by rw [← hvs]; simp
  have hvg : ∀ j, j < c * sz → vs[j]? = some (us j) := fun j hj => by rw [← hvs]; simp [hj]
  have hcm : c * sz ≤ m * sz := Nat.mul_le_mul_right _ (by omega)
  have hsp := hr.splice hB (off := off) (l := tab (c * sz) F) (vs := vs) hi h1 (by rw [tab_len, hvl]) (fun j hj => by
    rw [tab_len] at hj
    rw [tab_get, List.getD_eq_getElem?_getD, hvg j hj]
    cases ad with
    | none => have := (hnil rfl).1; subst this; simp at hcm; omega
    | some x0 => exact (hsrc x0 rfl j (by omega)).2) (by rw [tab_len]; exact hfit)
  rw [tab_len, hcs] at hsp
  have hst := run_storeCells_at P g off o'.ty vs 0 c0 w h1 (by rw [hvl]; omega) (fun v hv => by
    obtain ⟨j, hj, rfl⟩ := List.mem_iff_getElem.1 hv
    have hj' : j < c * sz := by omega
    have := hvg j hj'
    rw [List.getElem?_eq_getElem hj] at this
    rw [Option.some.inj this]
    cases ad with
    | none => have := (hnil rfl).1; subst this; simp at hcm; omega
    | some x0 => exact (hsrc x0 rfl j (by omega)).2.oneC (hone j hj'))
  simp only [Nat.add_zero] at hst
  have hfc : (Builtin.firstCells sz c (.slice ad m cap2)).run P w = .ok vs.toArray w := by
    cases ad with
    | none =>
      have := (hnil rfl).1
      subst this
      have : vs = [] := List.eq_nil_of_length_eq_zero (by rw [hvl]; simp at hcm; omega)
      subst this
      rfl
    | some x0 =>
      have hl := run_loadCells_list (P := P) w x0 vs (fun j v hj => by
        have hj' : j < c * sz := by have := (List.getElem?_eq_some_iff.1 hj).1; omega
        rw [hvg j hj'] at hj
        cases hj
        exact (hsrc x0 rfl j (by omega)).1)
      rw [hvl] at hl
      exact hl
  have hmn : Nat.min m n = c := hc.symm
  have hrun : (Builtin.copy_ #[T, T2] o.type #[.slice (some ⟨g, off, none⟩) n cap, .slice ad m cap2]).run P w = .ok (goInt c) (w.setRow g (c0.toList.take off ++ vs ++ c0.toList.drop (off + vs.length)).toArray) := by
    simp only [Builtin.copy_, List.getElem?_toArray, List.getElem?_cons_zero, List.getElem?_cons_succ, run_underlying hu, Builtin.lenOf, hsz, Sem.run_bind, Sem.run_pure, Result.andThen_ok, hmn, hfc, List.toList_toArray, hst]
  unfold Oper.wp
  simp only [execOp, ho, resolve, invoke, builtin, List.map_toArray, List.map_cons, List.map_nil, hr.evv hx, hev, Sem.run_bind, Sem.run_pure, Result.andThen_ok, hrun]
  exact hn _ _ _ hK (hsp.put _ hd _ _ (.v _)) ((chg_setRow w g _).mono fun b _ h => .inr (by cases h; exact hW))

/-- An own thing seen otherwise. -/
theorem R.swap (hr : R B s a w) {i : Nat} {e e' : Ent} (hi : s.hp[i]? = some e) (hblk : e'.blk = e.blk) (hE : ∀ Z, EntR w Z e → EntR w Z e') : R B ⟨s.sl, s.hp.set i e', s.k⟩ a w := by
  have hil := (List.getElem?_eq_some_iff.1 hi).1
  have hm : ∀ (j : Nat) (p : Ent), (s.hp.set i e')[j]? = some p → ∃ p', s.hp[j]? = some p' ∧ p'.blk = p.blk ∧ (p' = p ∨ (p' = e ∧ p = e')) := fun j p hp => by
    by_cases h : i = j
    · subst h
      rw [List.getElem?_set_self hil] at hp
      cases hp
      exact ⟨e, hi, hblk.symm, .inr ⟨rfl, rfl⟩⟩
    · rw [List.getElem?_set_ne h] at hp
      exact ⟨p, hp, rfl, .inl rfl⟩
  have hz : ∀ b, Zn B s.hp w b → Zn B (s.hp.set i e') w b := fun b hb => ⟨hb.1, fun q hq => by
    obtain ⟨j, hj⟩ := List.mem_iff_getElem?.1 hq
    obtain ⟨q', r1, r2, _⟩ := hm j q hj
    rw [← r2]; exact hb.2.1 q' (List.mem_of_getElem? r1), hb.2.2⟩
  refine ⟨fun t x hx => (hr.slots t x hx).keep fun b hb _ => ⟨rfl, hz b hb⟩, hr.size, hr.defs, fun p hp => ?_, ?_, hr.chg, fun p hp g' hg => ?_, hr.res⟩
  · obtain ⟨j, hj⟩ := List.mem_iff_getElem?.1 hp
    obtain ⟨p', k1, k2, k3⟩ := hm j p hj
    have hE1 := hr.blocks p' (List.mem_of_getElem? k1)
    rcases k3 with rfl | ⟨rfl, rfl⟩
    · exact hE1.keep (fun b hb _ => ⟨rfl, hz b hb⟩) fun _ _ => rfl
    · exact (hE _ hE1).keep (fun b hb _ => ⟨rfl, hz b hb⟩) fun _ _ => rfl
  · refine Apart.of fun j1 j2 p q hij hp hq g' hg1 hg2 => ?_
    obtain ⟨p', k1, k2, _⟩ := hm j1 p hp
    obtain ⟨q', r1, r2, _⟩ := hm j2 q hq
    exact hr.nodup.get k1 r1 (by omega) (k2.trans hg1) (r2.trans hg2)
  · obtain ⟨j, hj⟩ := List.mem_iff_getElem?.1 hp
    obtain ⟨p', k1, k2, _⟩ := hm j p hj
    exact hr.own p' (List.mem_of_getElem? k1) g' (k2.trans hg)
/-- clear of a part of one's own block. -/
theorem OpE.clear {x : Operand} {T e i n sz g off cap : Nat} {o' : Own'} {z : Value} (ho : o.op = .call { callee := .builtin .clear, args := #[x], argTypes := #[T] }) (hB : B.Ok) (hd : okd B.nt o.dst = true)
    (hu : P.underlying T = some (.slice e)) (hz : ∀ w, (zeroValue e).run P w = .ok z w) (hzs : z.cells.size = sz) (hz1 : ∀ v ∈ z.cells.toList, v.oneCell' = true) (hx : evO s x = some (.v (.slice (some ⟨g, off, none⟩) n cap))) (hi : s.hp[i]? = some (.box g o'))
    (hfit : off + n * sz ≤ o'.cs.length) (hW : W g)
    (hK : K ((St'.mk s.sl (s.hp.set i (.box g ⟨o'.cs.take off, o'.ty, o'.tot⟩)) s.k).put o.dst (.tup []))) : OpE P B W s o K := by
  intro a w hr next Qx hn
  obtain ⟨c0, h1, h2, h3, h4⟩ := hr.blocks _ (List.mem_of_getElem? hi)
  generalize hvs : (Builtin.zeroCells z.cells n).toList = vs
  have hvl : vs.length = n * sz := by rw [← hvs, Array.length_toList, size_zeroCells, hzs]
  have hvone : ∀ v ∈ vs, v.oneCell' = true := fun v hv => by
    rw [← hvs] at hv
    simp only [Builtin.zeroCells, Array.toList_map, List.mem_map] at hv
    obtain ⟨j, hj, rfl⟩ := hv
    by_cases hzz : z.cells.size = 0
    · have : vs.length = 0 := by rw [hvl, ← hzs, hzz, Nat.mul_zero]
      have h0 : (Array.range (n * z.cells.size)).toList = [] := by simp [hzz]
      rw [h0] at hj; cases hj
    · have hlt : j % z.cells.size < z.cells.size := Nat.mod_lt _ (by omega)
      rw [getElem!_pos z.cells _ hlt]
      exact hz1 _ (by simp)
  have hsp := hr.splice hB (off := off) (l := vs.map .v) (vs := vs) hi h1 (by simp) (fun j hj => by
    simp at hj
    rw [List.getElem_map, List.getD_eq_getElem?_getD, List.getElem?_eq_getElem hj]
    exact .v _) (by rw [List.length_map, hvl]; exact hfit)
  have hst := run_storeCells_at P g off o'.ty vs 0 c0 w h1 (by rw [hvl]; omega) hvone
  simp only [Nat.add_zero] at hst
  have hil := (List.getElem?_eq_some_iff.1 hi).1
  have hsh := hsp.swap (i := i) (e := .box g ⟨o'.cs.take off ++ vs.map .v ++ o'.cs.drop (off + (vs.map AV.v).length), o'.ty, o'.tot⟩) (e' := .box g ⟨o'.cs.take off, o'.ty, o'.tot⟩) (by simp [hil]) rfl (fun Z hE => by
    obtain ⟨c, e1, e2, e3, e4⟩ := hE
    refine ⟨c, e1, e2, by simp only at e3 ⊢; simp only [List.length_append, List.length_take] at e3 ⊢; omega, fun q hq => ?_⟩
    have hq' : q < off ∧ q < o'.cs.length := by simp at hq; omega
    obtain ⟨u, r1, r2⟩ := e4 q (by simp; omega)
    refine ⟨u, r1, ?_⟩
    simp only at r2 ⊢
    rw [List.getElem_append_left (by simp; omega), List.getElem_append_left (by simp; omega)] at r2
    exact r2)
  simp only [List.set_set] at hsh
  have hrun : (Builtin.clear_ #[T] o.type #[.slice (some ⟨g, off, none⟩) n cap]).run P w = .ok (.tuple #[]) (w.setRow g (c0.toList.take off ++ vs ++ c0.toList.drop (off + vs.length)).toArray) := by
    cases n with
    | zero =>
      have : vs = [] := List.eq_nil_of_length_eq_zero (by rw [hvl]; simp)
      subst this
      have hs := setRow_self w g c0 o'.ty (0, 0) h1
      simp [Builtin.clear_, run_underlying hu, hs]
    | succ n => simp [Builtin.clear_, run_underlying hu, hz, hvs, hst]
  unfold Oper.wp
  simp only [execOp, ho, resolve, invoke, builtin, List.map_toArray, List.map_cons, List.map_nil, hr.evv hx, Sem.run_bind, Sem.run_pure, Result.andThen_ok, hrun]
  exact hn _ _ _ hK (hsh.put _ hd _ _ (.tup _ _ rfl fun j hj => by simp at hj)) ((chg_setRow w g _).mono fun b _ h => .inr (by cases h; exact hW))

/-- append of no element, or of some. -/
theorem OpE.appendP {x y : Operand} {T e i n m sz bytes : Nat} {u z : Value} {cs cs' : List AV} {F : Nat → AV} (ho : o.op = .call { callee := .builtin .append, args := #[x, y], argTypes := #[T, T] }) (hB : B.Ok) (hd : okd B.nt o.dst = true)
    (hu : P.underlying T = some (.slice e)) (hinfo : (P.info? e).map (fun i => (i.zero, i.size, i.bytes)) = some (some z, sz, bytes)) (hz : z.cells.size = sz) (hsz : 0 < sz) (hby : bytes ≤ 4096)
    (hx : evO s x = some (.v u)) (hi : s.hp[i]? = some (.row u n sz cs e)) (hy : SrcP P B s y m sz F) (hone : ∀ j, j < m * sz → (F j).one = true) (hlen : n + m ≤ 10000000000) (hcs : cs ++ tab (m * sz) F = cs') (hW : ∀ g, u.ownBlock = some g → W g)
    (hK : ∀ u', K ((St'.mk s.sl (s.hp.set i (.row u' (n + m) sz cs' e)) s.k).put o.dst (.v u'))) : OpE P B W s o K := by
  subst hcs
  obtain ⟨ii, hii, hz0, hz1, hz2⟩ := info_parts hinfo
  intro a w hr next Qx hn
  have hmem := List.mem_of_getElem? hi
  obtain ⟨ad, cap2, v2, hv, hnil, hsrc⟩ := hy a w hr
  obtain ⟨hl0, hrow⟩ := hr.blocks _ hmem
  have hil := (List.getElem?_eq_some_iff.1 hi).1
  by_cases hm0 : m = 0
  · subst hm0
    have hset : s.hp.set i (.row u (n + 0) sz (cs ++ tab (0 * sz) F) e) = s.hp := by
      rw [Nat.zero_mul]
      simp only [tab, List.append_nil, Nat.add_zero]
      apply List.ext_getElem?
      intro j
      rw [List.getElem?_set]
      split
      · rename_i h; subst h; first | (rw [if_pos hil]; exact hi.symm) | exact hi.symm
      · rfl
    have hrun : (Builtin.append_ #[T, T] o.type #[u, .slice ad 0 cap2]).run P w = .ok u w := by
      have hf : ∀ w, (Builtin.firstCells sz 0 (.slice ad 0 cap2)).run P w = .ok #[] w := fun w => by
        cases ad with
        | none => rfl
        | some x0 =>
          have := run_loadCells_list (P := P) w x0 [] (fun j v hj => by simp at hj)
          simpa [Builtin.firstCells] using this
      subst hz1
      rcases hrow with ⟨rfl, rfl⟩ | ⟨g, cap, c, rfl, k1, k2, k3, k4, k5⟩
      · simp [Builtin.append_, run_underlying hu, sizeOf, typeInfo, hii, Builtin.lenOf, hf]
      · simp [Builtin.append_, run_underlying hu, sizeOf, typeInfo, hii, Builtin.lenOf, hf, k1, storeCells]
    have := hK u
    rw [hset] at this
    unfold Oper.wp
    simp only [execOp, ho, resolve, invoke, builtin, List.map_toArray, List.map_cons, List.map_nil, hr.evv hx, hv, Sem.run_bind, Sem.run_pure, Result.andThen_ok, hrun]
    exact hn _ _ _ this (hr.put _ hd _ _ (.v _)) (Ew.rf _)
  obtain ⟨x0, rfl⟩ : ∃ x0, ad = some x0 := by
    cases ad with
    | none => exact absurd (hnil rfl).1 hm0
    | some x0 => exact ⟨x0, rfl⟩
  obtain ⟨old, hrow', hold⟩ : ∃ old : Nat → Value, ((u = .slice none 0 0 ∧ n = 0) ∨ ∃ g cap c, u = .slice (some ⟨g, 0, none⟩) n cap ∧ n ≤ cap ∧ cap ≤ maxLen ∧ w.heap[g]? = some (.cells c e (0, 0)) ∧ c.size = cap * sz ∧ ∀ j, j < n * sz → c[j]? = some (old j)) ∧
      ∀ j, (h : j < cs.length) → Rep w (Zn B s.hp w) cs[j] (old j) := by
    rcases hrow with ⟨h, rfl⟩ | ⟨g, cap, c, h, k1, k2, k3, k4, k5⟩
    · exact ⟨fun _ => undef, .inl ⟨h, rfl⟩, fun j hj => by omega⟩
    · refine ⟨fun j => c.getD j undef, .inr ⟨g, cap, c, h, k1, k2, k3, k4, fun j hj => ?_⟩, fun j hj => ?_⟩
      · obtain ⟨x, q1, _⟩ := k5 j (by omega)
        exact getD_lt (Array.getElem?_eq_some_iff.1 q1).1
      · obtain ⟨x, q1, q2⟩ := k5 j hj
        simp only
        rw [show c.getD j undef = x by rw [Array.getD_eq_getD_getElem?, q1]; rfl]
        exact q2
  obtain ⟨g, cap, w', c, hrun, e1, e2', e3, e4, e5, e6, e7, e8⟩ := append_run (P := P) w T o.type e ii z sz bytes hu hii hz0 hz1 hz2 hz hsz hby u n old hrow' x0 m cap2 v2
    (fun j hj => (hsrc x0 rfl j hj).1) (fun j hj => (hsrc x0 rfl j hj).2.oneC (hone j hj)) (by omega) hlen
  have hblk : (Ent.row (.slice (some ⟨g, 0, none⟩) (n + m) cap) (n + m) sz (cs ++ tab (m * sz) F) e).blk = (Ent.row u n sz cs e).blk ∨ ∃ g', (Ent.row (.slice (some ⟨g, 0, none⟩) (n + m) cap) (n + m) sz (cs ++ tab (m * sz) F) e).blk = some g' ∧ w.heap.size ≤ g' := by
    rcases e8 with e8 | e8
    · exact .inl (by simp only [Ent.blk]; rw [e8]; rfl)
    · exact .inr ⟨g, rfl, e8⟩
  have hr' := hr.set hB hi (e' := .row (.slice (some ⟨g, 0, none⟩) (n + m) cap) (n + m) sz (cs ++ tab (m * sz) F) e) e7 hblk (by
    have hz : ∀ b, Zn B s.hp w b → b < w.heap.size → w'.heap[b]? = w.heap[b]? ∧ Zn B (s.hp.set i (.row (.slice (some ⟨g, 0, none⟩) (n + m) cap) (n + m) sz (cs ++ tab (m * sz) F) e)) w' b := fun b hb hbl => by
      refine ⟨e7.block b hbl fun h => hb.2.1 _ hmem h, Nat.lt_of_lt_of_le hbl e7.size, fun p hp => ?_, hb.2.2⟩
      rcases List.mem_or_eq_of_mem_set hp with hp | hp
      · exact hb.2.1 p hp
      · subst hp
        rcases hblk with h | ⟨g', h, hg'⟩
        · rw [h]; exact hb.2.1 _ hmem
        · rw [h]; intro h'; simp at h'; omega
    refine ⟨by rw [List.length_append, hl0, tab_len, Nat.add_mul], .inr ⟨g, cap, c, rfl, e1, e2', e3, e4, fun j hj => ?_⟩⟩
    by_cases hjl : j < cs.length
    · rw [List.getElem_append_left hjl]
      exact ⟨old j, e5 j (by omega), (hold j hjl).keep hz⟩
    · rw [List.getElem_append_right (by omega)]
      simp [tab_len] at hj
      refine ⟨v2 (j - cs.length), ?_, ?_⟩
      · have := e6 (j - cs.length) (by omega)
        rwa [show n * sz + (j - cs.length) = j by omega] at this
      · rw [tab_get]
        exact (hsrc x0 rfl _ (by omega)).2.keep hz)
  unfold Oper.wp
  simp only [execOp, ho, resolve, invoke, builtin, List.map_toArray, List.map_cons, List.map_nil, hr.evv hx, hv, Sem.run_bind, Sem.run_pure, Result.andThen_ok, hrun]
  exact hn _ _ _ (hK _) (hr'.put _ hd _ _ (.v _)) (e7.mono fun b _ h => .inr (hW b h))

/-- An empty literal slice: a row of one's own without elements. -/
theorem OpE.buildSlice0 {t e sz : Nat} (ho : o.op = .buildSlice t 0 #[]) (hB : B.Ok) (hd : okd B.nt o.dst = true) (hu : P.underlying t = some (.slice e)) (hsz : ∀ w, (sizeOf e).run P w = .ok sz w)
    (hK : ∀ g, K ((St'.mk s.sl (s.hp ++ [.row (.slice (some ⟨g, 0, none⟩) 0 0) 0 sz [] e]) s.k).put o.dst (.v (.slice (some ⟨g, 0, none⟩) 0 0)))) : OpE P B W s o K := by
  intro a w hr next Qx hn
  have h1 := hr.new hB (.cells #[] e) (.row (.slice (some ⟨w.heap.size, 0, none⟩) 0 0) 0 sz [] e) rfl ⟨by simp, .inr ⟨w.heap.size, 0, #[], rfl, Nat.le_refl _, by simp [maxLen], heap_alloc_new w _, by simp, fun j hj => by simp at hj⟩⟩
  have hz0 : ∀ f : Nat → Value, Array.map f (Array.range 0) = #[] := fun f => by
    apply Array.ext (by simp)
    intro i hi
    simp at hi
  have hrun : (execOp a.eval o).run P w = .ok (.value (.slice (some ⟨w.heap.size, 0, none⟩) 0 0)) (w.alloc (.cells #[] e)) := by
    simp only [execOp, ho, Instr.buildSlice, newRow, Sem.run_bind, run_underlying hu, hsz, Result.andThen_ok, Sem.run_pure, Nat.zero_mul, if_true, if_false, hz0]
    simp [Instr.fill, run_newObj_alloc, hz0]
  unfold Oper.wp
  rw [hrun]
  exact hn _ _ _ (hK _) (h1.put _ hd _ _ (.v _)) (.ofN ((Chg.refl _ _).alloc _))

/-- A list held against nil: if it is nil it has no elements. -/
theorem OpE.eqNil {x : Operand} {t u e n sz : Nat} {F : Nat → AV} (ho : o.op = .binOp .eql t x (.const (.slice none 0 0)) u) (hd : okd B.nt o.dst = true) (hu : P.underlying t = some (.slice e)) (hx : evO s x = some (.im n sz F))
    (hK : ∀ b : Bool, (b = true → n = 0) → K (s.put o.dst (avB b))) : OpE P B W s o K := by
  intro a w hr next Qx hn
  have := hr.ev hx
  generalize hv : a.eval x = v at this
  have key : ∃ ad cap, v = .slice ad n cap ∧ (ad = none → n = 0) := by
    cases this with
    | nil => exact ⟨none, 0, rfl, fun _ => rfl⟩
    | im n sz f b off cap c e u hZ h1 h2 hb hc hr' => exact ⟨some ⟨b, off, none⟩, cap, rfl, fun h => (by cases h)⟩
  obtain ⟨ad, cap, rfl, hnil⟩ := key
  have hrun := fun w => Lib.run_eql_slice_nil (P := P) w t e ad n cap 0 0 hu
  have hc : a.eval (.const (.slice none 0 0)) = .slice none 0 0 := rfl
  have hrun' : (execOp a.eval o).run P w = .ok (.value (.bool ad.isNone)) w := by
    simp only [execOp, ho, hv, hc, eqGuard, Sem.run_bind, Sem.run_pure, Result.andThen_ok, hrun]
    simp
  unfold Oper.wp
  rw [hrun']
  exact hn _ _ _ (hK ad.isNone fun h => hnil (by cases ad <;> simp_all)) (hr.put _ hd _ _ (.v _)) (Ew.rf _)
theorem VO.eqNil {ops : Array Oper} {rest : List Oper} {x : Operand} {t u e n sz : Nat} {F : Nat → AV} (hg : o.guard = none) (ho : o.op = .binOp .eql t x (.const (.slice none 0 0)) u) (hd : okd B.nt o.dst = true) (hu : P.underlying t = some (.slice e)) (hx : evO s x = some (.im n sz F))
    (hK : ∀ b : Bool, (b = true → n = 0) → VO P B ops rest Q (s.put o.dst (avB b))) : VO P B ops (o :: rest) Q s := VO.op hg (OpE.eqNil ho hd hu hx hK)

/-- A part of one's own slice. -/
theorem OpV.slice_own {t e sz g off n cap : Nat} {x : Operand} {lo hi : Option Operand} {l h : Nat} (ho : o.op = .slice t x lo hi none) (hu : P.underlying t = some (.slice e)) (hsz : ∀ w, (sizeOf e).run P w = .ok sz w) (hx : evO s x = some (.v (.slice (some ⟨g, off, none⟩) n cap)))
    (hl : BndO s lo 0 l) (hh : BndO s hi n h) (h1 : l ≤ h) (h2 : h ≤ cap) (h3 : l < cap) : OpV P B W s o (.v (.slice (some ⟨g, off + l * sz, none⟩) (h - l) (cap - l))) := fun a w hr => by
  have e := fun w' => sliceB_run (P := P) (isS := true) (len := n) (cap := cap) (l := l) (h := h) (lo := lo.map a.eval) (hi := hi.map a.eval) (dl := (hl.run hr).imp (fun ⟨h1, h2⟩ => ⟨by rw [h1]; rfl, h2⟩) id) (dh := (hh.run hr).imp (fun ⟨h1, h2⟩ => ⟨by rw [h1]; rfl, h2⟩) id) h1 h2 w'
  have hne : ¬ cap = l := by omega
  exact ⟨_, fun w' hc => by simp [execOp, ho, Instr.sliceAt, Instr.slice, run_underlying hu, hr.evv hx, e w', hsz, hne, Addr.add], .v _⟩
end

/-- A list of one's own that comes back, its cells known values: from a walk. -/
theorem SpecR.of_VC {P : Program} {F : FuncId} {fn : Func} {c : Code} (hf : P.funcs[F]? = some fn) (hb : fn.body = some c) {xs : List AV} {n sz : Nat} {cs : List AV} {ty : TypeId} {nt : Nat} (hn : fn.ntmps = nt) (hle : xs.length ≤ nt) (hfl : ∀ x ∈ cs, ∃ v, x = .v v)
    (h : ∀ w A, (B0 w A nt).Ok → VC P (B0 w A nt) c (retS P fn fun y s => ∃ u, y = .v u ∧ .row u n sz cs ty ∈ s.hp) ⟨slots0 0 xs, [], 0⟩) : SpecR P F xs n sz cs ty := fun w us ha =>
  (calls_of_VC (k := 0) hf hb (B := B0 w (fun _ => True) nt) rfl hn.symm ha (fun _ h => h.elim) trivial (by omega) (h w _ (B0.ok _ _ _))).mono fun e w' ⟨y, v, s, a, ⟨u, h0, h1⟩, h2, h3, h4⟩ => by
    subst h0
    have hv := h3.eq_v
    subst hv
    refine ⟨_, h2, ?_, fun g hg => ?_, h4.chg⟩
    · obtain ⟨k0, k1⟩ := h4.blocks _ h1
      refine ⟨k0, k1.imp id fun ⟨g, cap, c, q1, q2, q3, q4, q5, q6⟩ => ⟨g, cap, c, q1, q2, q3, q4, q5, fun j hj => ?_⟩⟩
      obtain ⟨u, r1, r2⟩ := q6 j hj
      obtain ⟨v', hv'⟩ := hfl _ (List.getElem_mem hj)
      refine ⟨u, r1, ?_⟩
      rw [hv'] at r2 ⊢
      rw [r2.eq_v]
      exact .v _
    · have : ¬ g < w.heap.size := h4.isNew (fun b h => h) h1 hg
      omega

theorem ArgP.boxS {P : Program} {B : Bs} {s : St'} {x : Operand} {i n g cap : Nat} {xs : List ByteArray} {ty : TypeId} {tot : Nat} (hx : evO s x = some (.v (.slice (some ⟨g, 0, none⟩) n cap))) (hi : s.hp[i]? = some (.box g ⟨strsL xs, ty, tot⟩)) (hn : n = xs.length) (hcap : n ≤ cap) (hm : cap ≤ maxLen) : ArgP P B s x (avStrs xs) :=
  ArgP.box (n := n) (sz := 1) hx hi (by show 0 + n * 1 ≤ (strsL xs).length; rw [strsL_len]; omega) hcap hm fun w Z u h => Rep.strs hn (h.im_congr fun j hj => by rw [Nat.zero_add])
theorem Le.boxS {B : Bs} {s : St'} {t i n g cap : Nat} {xs : List ByteArray} {ty : TypeId} {tot : Nat} (hB : B.Ok) (hnew : True) (ht : look s.sl t = some (.v (.slice (some ⟨g, 0, none⟩) n cap))) (hi : s.hp[i]? = some (.box g ⟨strsL xs, ty, tot⟩)) (hn : n = xs.length) (hcap : n ≤ cap) (hm : cap ≤ maxLen) :
    Le B s ⟨(t, avStrs xs) :: s.sl, s.hp.eraseIdx i, s.k⟩ :=
  Le.box (n := n) (sz := 1) hB hnew ht hi (by show 0 + n * 1 ≤ (strsL xs).length; rw [strsL_len]; omega) hcap hm fun w Z u h => Rep.strs hn (h.im_congr fun j hj => by rw [Nat.zero_add])

/-- A value of one cell that may lead to a list. -/
class Sx1 (α : Type) [Inhabited α] where
  cell : α → AV
section
variable {α : Type} [Inhabited α] [Sx1 α]
abbrev avM (xs : List α) : AV := .im xs.length 1 fun j => Sx1.cell (xs.getD j default)
def listM (xs : List α) : List AV := xs.map Sx1.cell
theorem listM_len (xs : List α) : (listM xs).length = xs.length := by simp [listM]
theorem listM_snoc (xs : List α) (x : α) : listM xs ++ [Sx1.cell x] = listM (xs ++ [x]) := by simp [listM]
theorem listM_set (xs : List α) (j : Nat) (x : α) : (listM xs).set j (Sx1.cell x) = listM (xs.set j x) := by simp [listM, List.map_set]
theorem listM_get {xs : List α} {j : Nat} (h : j < xs.length) : (listM xs)[j]? = some (Sx1.cell (xs.getD j default)) := by simp [listM, h]
theorem tab_M (xs : List α) : tab (xs.length * 1) (fun j => Sx1.cell (xs.getD j default)) = listM xs := by
  apply List.ext_getElem (by rw [tab_len, listM_len, Nat.mul_one])
  intro i h1 h2
  rw [tab_get]
  rw [listM_len] at h2
  simp [listM, h2]
theorem Rep.listM {w : World} {Z : Nat → Prop} {xs : List α} {n : Nat} (hn : n = xs.length) {u : Value} (h : Rep w Z (.im n 1 fun j => (listM xs).getD j .any) u) : Rep w Z (avM xs) u := by
  subst hn
  exact h.im_congr fun j hj => by simp at hj; simp [Proofs.YtgikefjbdhnffaaDoor.listM, hj]
theorem Le.rowsM {B : Bs} {s : St'} {t i n : Nat} {u : Value} {xs : List α} {ty : TypeId} (hB : B.Ok) (hnew : True) (ht : look s.sl t = some (.v u)) (hi : s.hp[i]? = some (.row u n 1 (listM xs) ty)) (hn : n = xs.length) : Le B s ⟨(t, avM xs) :: s.sl, s.hp.eraseIdx i, s.k⟩ :=
  Le.row hB hnew ht hi fun w Z u h => Rep.listM hn h
theorem ArgP.rowsM {P : Program} {B : Bs} {s : St'} {x : Operand} {i n : Nat} {u : Value} {xs : List α} {ty : TypeId} (hx : evO s x = some (.v u)) (hi : s.hp[i]? = some (.row u n 1 (listM xs) ty)) (hn : n = xs.length) : ArgP P B s x (avM xs) := ArgP.row hx hi fun w Z u h => Rep.listM hn h
theorem ArgP.boxM {P : Program} {B : Bs} {s : St'} {x : Operand} {i n g cap : Nat} {xs : List α} {ty : TypeId} {tot : Nat} (hx : evO s x = some (.v (.slice (some ⟨g, 0, none⟩) n cap))) (hi : s.hp[i]? = some (.box g ⟨listM xs, ty, tot⟩)) (hn : n = xs.length) (hcap : n ≤ cap) (hm : cap ≤ maxLen) : ArgP P B s x (avM xs) :=
  ArgP.box (n := n) (sz := 1) hx hi (by show 0 + n * 1 ≤ (listM xs).length; rw [listM_len]; omega) hcap hm fun w Z u h => Rep.listM hn (h.im_congr fun j hj => by rw [Nat.zero_add])
theorem Le.boxM {B : Bs} {s : St'} {t i n g cap : Nat} {xs : List α} {ty : TypeId} {tot : Nat} (hB : B.Ok) (hnew : True) (ht : look s.sl t = some (.v (.slice (some ⟨g, 0, none⟩) n cap))) (hi : s.hp[i]? = some (.box g ⟨listM xs, ty, tot⟩)) (hn : n = xs.length) (hcap : n ≤ cap) (hm : cap ≤ maxLen) :
    Le B s ⟨(t, avM xs) :: s.sl, s.hp.eraseIdx i, s.k⟩ :=
  Le.box (n := n) (sz := 1) hB hnew ht hi (by show 0 + n * 1 ≤ (listM xs).length; rw [listM_len]; omega) hcap hm fun w Z u h => Rep.listM hn (h.im_congr fun j hj => by rw [Nat.zero_add])
theorem OpV.slice_M {P : Program} {B : Bs} {W : Nat → Prop} {s : St'} {o : Oper} {t e : Nat} {x : Operand} {lo hi : Option Operand} {l h : Nat} {xs : List α} (ho : o.op = .slice t x lo hi none) (hu : P.underlying t = some (.slice e)) (hsz : ∀ w, (sizeOf e).run P w = .ok 1 w) (hx : evO s x = some (avM xs))
    (hl : BndO s lo 0 l) (hh : BndO s hi xs.length h) (h1 : l ≤ h) (h2 : h ≤ xs.length) : OpV P B W s o (avM ((xs.take h).drop l)) :=
  (OpV.slice_im ho hu hsz hx hl hh h1 h2).recast fun w Z u hr => by
    rw [avM, len_cut h2]
    exact hr.im_congr fun j hj => by rw [Nat.mul_one] at hj ⊢; rw [getD_cut h2 hj]
end
instance : Sx1 (List ByteArray) := ⟨fun x => avStrs x⟩
instance : Sx1 (List Int) := ⟨fun x => avInts x⟩
end Go.Proofs.YtgikefjbdhnffaaDoor
