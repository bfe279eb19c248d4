/- Part 2 of a proof: the walks and laws that it needs. -/
import Derived.Lib.SliceRun
import Derived.MapKept
import Derived.Lib.AppendZerosOnto
import Derived.Lib.Overlaps
import Derived.Laws.StructEq
import Derived.Test.YtmahammdnmmmoaaGreatDoorProg
import Derived.Deep.QuietTactic
import Derived.BigQuiet
import Derived.Test.YtmahammdnmmmoaaGreatDoorZN1
namespace Go.Proofs.YtmahammdnmmmoaaGreatDoor
open Go.RowKit
set_option linter.unusedVariables false
set_option linter.unusedSimpArgs false

section
variable {P : Program} {B : Bs} {W : Nat → Prop} {s : St'} {o : Oper} {K : St' → Prop} {a : Act} {w w' : World} {Q : Exit → St' → Prop}

def SrcP (P : Program) (B : Bs) (s : St') (x : Operand) (m sz : Nat) (F : Nat → AV) : Prop :=
 ∀ a w, R B s a w → ∃ (ad : Option Addr) (cap : Nat) (us : Nat → Value), a.eval x = .slice ad m cap ∧ (ad = none → m = 0 ∧ cap = 0) ∧ ∀ x0, ad = some x0 → ∀ j, j < m * sz → w.cell? (x0.add j) = some (us j) ∧ Rep w (Zn B s.hp w) (F j) (us j)
theorem SrcP.im {x : Operand} {m sz : Nat} {F : Nat → AV} (hx : evO s x = some (.im m sz F)) : SrcP P B s x m sz F := fun a w hr => by
 have := hr.ev hx
 generalize hv : a.eval x = v at this
 cases this with
 | nil => exact ⟨none, 0, fun _ => undef, rfl, fun _ => ⟨rfl, rfl⟩, fun x0 h => (by cases h)⟩
 | im m sz F b off cap c e u hZ h1 h2 hb hc hr' => exact ⟨some ⟨b, off, none⟩, cap, u, rfl, fun h => (by cases h), fun x0 h j hj => by
   cases h
   exact ⟨by rw [Addr.add_lit]; simpa [World.cell?, hb] using hc j hj, hr' j hj⟩⟩
theorem SrcP.row {x : Operand} {i n sz : Nat} {u : Value} {cs : List AV} {ty : TypeId} (hx : evO s x = some (.v u)) (hi : s.hp[i]? = some (.row u n sz cs ty)) : SrcP P B s x n sz (fun j => cs.getD j .any) := fun a w hr => by
 rw [hr.evv hx]
 obtain ⟨h0, ⟨rfl, rfl⟩ | ⟨g, cap, c, rfl, h1, h2, h3, h4, h5⟩⟩ := hr.blocks _ (List.mem_of_getElem? hi)
 ·exact ⟨none, 0, fun _ => undef, rfl, fun _ => ⟨rfl, rfl⟩, fun x0 h => (by cases h)⟩
 ·refine ⟨_, cap, fun j => c.getD j undef, rfl, fun h => (by cases h), fun x0 h j hj => ?_⟩
  cases h
  obtain ⟨v, k1, k2⟩ := h5 j (by omega)
  rw [Addr.add_lit, Nat.zero_add]
  have e : c.getD j undef = v := by rw [Array.getD_eq_getD_getElem?, k1]; rfl
  refine ⟨by simp only [e]; simpa [World.cell?, h3] using k1, ?_⟩
  simp only [e]
  rw [List.getD_eq_getElem?_getD, List.getElem?_eq_getElem (by omega)]
  exact k2
theorem SrcP.box {x : Operand} {i n sz g off cap : Nat} {o' : Own'} (hx : evO s x = some (.v (.slice (some ⟨g, off, none⟩) n cap))) (hi : s.hp[i]? = some (.box g o')) (hl : off + n * sz ≤ o'.cs.length) : SrcP P B s x n sz (fun j => o'.cs.getD (off + j) .any) := fun a w hr => by
 rw [hr.evv hx]
 obtain ⟨c, h1, h2, h3, h4⟩ := hr.blocks _ (List.mem_of_getElem? hi)
 refine ⟨_, cap, fun j => c.getD (off + j) undef, rfl, fun h => (by cases h), fun x0 h j hj => ?_⟩
 cases h
 obtain ⟨v, k1, k2⟩ := h4 (off + j) (by omega)
 rw [Addr.add_lit]
 have e : c.getD (off + j) undef = v := by rw [Array.getD_eq_getD_getElem?, k1]; rfl
 refine ⟨by simp only [e]; simpa [World.cell?, h1] using k1, ?_⟩
 simp only [e]
 rw [List.getD_eq_getElem?_getD, List.getElem?_eq_getElem (by omega)]
 exact k2

theorem R.splice (hB : B.Ok) (hr : R B s a w) {i g off : Nat} {o' : Own'} {c : Array Value} {l : List AV} {vs : List Value} (hi : s.hp[i]? = some (.box g o')) (hg : w.heap[g]? = some (.cells c o'.ty (0, 0))) (hl : vs.length = l.length)
  (hv : ∀ j, (h : j < l.length) → Rep w (Zn B s.hp w) l[j] (vs.getD j undef)) (hfit : off + l.length ≤ o'.cs.length) :
  R B ⟨s.sl, s.hp.set i (.box g ⟨o'.cs.take off ++ l ++ o'.cs.drop (off + l.length), o'.ty, o'.tot⟩), s.k⟩ a (w.setRow g (c.toList.take off ++ vs ++ c.toList.drop (off + vs.length)).toArray) := by
 have hm := List.mem_of_getElem? hi
 obtain ⟨c0, h1, h2, h3, h4⟩ := hr.blocks _ hm
 have hcc : c0 = c := by rw [hg] at h1; simp at h1; exact h1.symm
 subst hcc
 generalize hc' : (c0.toList.take off ++ vs ++ c0.toList.drop (off + vs.length)).toArray = c'
 generalize hcs' : o'.cs.take off ++ l ++ o'.cs.drop (off + l.length) = cs'
 have hsz' : c'.size = c0.size := by
  rw [← hc']
  simp only [List.size_toArray, List.length_append, List.length_take, List.length_drop, Array.length_toList]
  omega
 have hlen' : cs'.length = o'.cs.length := by
  rw [← hcs']
  simp only [List.length_append, List.length_take, List.length_drop]
  omega
 have hg' := setRow_heap w g c0 c' o'.ty (0, 0) h1
 refine hr.set hB hi (e' := .box g ⟨cs', o'.ty, o'.tot⟩) (w' := w.setRow g c') (chg_setRow w g c') (.inl rfl) ⟨c', hg', by rw [hsz', h2], by show cs'.length ≤ _; rw [hlen']; exact h3, fun q hq => ?_⟩
 have hz : ∀ b, Zn B s.hp w b → b < w.heap.size → (w.setRow g c').heap[b]? = w.heap[b]? ∧ Zn B (s.hp.set i (.box g ⟨cs', o'.ty, o'.tot⟩)) (w.setRow g c') b := fun b hb hbl => by
  refine ⟨setRow_other w g b c' fun e => hb.2.1 _ hm (by rw [e]; rfl), by simp [World.setRow]; exact hbl, fun p hp => ?_, hb.2.2⟩
  rcases List.mem_or_eq_of_mem_set hp with hp | hp
  ·exact hb.2.1 p hp
  ·subst hp; exact hb.2.1 (.box g o') hm
 have hq' : q < o'.cs.length := by rw [← hlen']; exact hq
 have key : ∀ (v : AV) (u : Value), cs'[q]? = some v → c'.toList[q]? = some u → Rep w (Zn B s.hp w) v u → ∃ u, c'[q]? = some u ∧ Rep (w.setRow g c') (Zn B (s.hp.set i (.box g ⟨cs', o'.ty, o'.tot⟩)) (w.setRow g c')) cs'[q] u := fun v u e1 e2 e3 => by
  refine ⟨u, by rw [← Array.getElem?_toList]; exact e2, ?_⟩
  have : cs'[q] = v := by
   rw [List.getElem?_eq_getElem hq] at e1
   exact Option.some.inj e1
  rw [this]
  exact e3.keep hz
 by_cases hin : off ≤ q ∧ q < off + l.length
 ·refine key (l[q - off]'(by omega)) (vs.getD (q - off) undef) ?_ ?_ (hv _ _)
  ·rw [← hcs', List.append_assoc, List.getElem?_append_right (by simp; omega), List.getElem?_append_left (by simp; omega)]
   simp only [List.length_take]
   rw [show q - min off o'.cs.length = q - off by omega]
   exact List.getElem?_eq_getElem _
  ·rw [← hc']
   simp only
   rw [List.append_assoc, List.getElem?_append_right (by simp; omega), List.getElem?_append_left (by simp; omega)]
   simp only [List.length_take, Array.length_toList]
   rw [show q - min off c0.size = q - off by omega, List.getD_eq_getElem?_getD, List.getElem?_eq_getElem (by omega)]
   rfl
 ·obtain ⟨x, k1, k2⟩ := h4 q hq'
  refine key _ x ?_ ?_ k2
  ·rw [← hcs']
   by_cases hlt : q < off
   ·rw [List.append_assoc, List.getElem?_append_left (by simp; omega), List.getElem?_take, if_pos hlt]
    exact List.getElem?_eq_getElem _
   ·rw [List.getElem?_append_right (by simp; omega), List.getElem?_drop]
    simp only [List.length_append, List.length_take]
    rw [show off + l.length + (q - (min off o'.cs.length + l.length)) = q by omega]
    exact List.getElem?_eq_getElem _
  ·rw [← hc']
   simp only
   rw [← Array.getElem?_toList] at k1
   by_cases hlt : q < off
   ·rw [List.append_assoc, List.getElem?_append_left (by simp; omega), List.getElem?_take, if_pos hlt]
    exact k1
   ·rw [List.getElem?_append_right (by simp; omega), List.getElem?_drop]
    simp only [List.length_append, List.length_take, Array.length_toList]
    rw [show off + vs.length + (q - (min off c0.size + vs.length)) = q by omega]
    exact k1

theorem OpE.copy {x y : Operand} {T T2 e i m n sz g off cap c : Nat} {o' : Own'} {F : Nat → AV} {cs' : List AV} (ho : o.op = .call { callee := .builtin .copy, args := #[x, y], argTypes := #[T, T2] }) (hB : B.Ok) (hd : okd B.nt o.dst = true)
  (hu : P.underlying T = some (.slice e)) (hsz : ∀ w, (sizeOf e).run P w = .ok sz w) (hx : evO s x = some (.v (.slice (some ⟨g, off, none⟩) n cap))) (hi : s.hp[i]? = some (.box g o')) (hy : SrcP P B s y m sz F)
  (hc : c = min m n) (hone : ∀ j, j < c * sz → (F j).one = true) (hfit : off + c * sz ≤ o'.cs.length) (hcs : o'.cs.take off ++ tab (c * sz) F ++ o'.cs.drop (off + c * sz) = cs') (hW : W g)
  (hK : K ((St'.mk s.sl (s.hp.set i (.box g ⟨cs', o'.ty, o'.tot⟩)) s.k).put o.dst (.v (.int .i64 c)))) : OpE P B W s o K := by
 intro a w hr next Qx hn
 obtain ⟨ad, cap2, us, hev, hnil, hsrc⟩ := hy a w hr
 obtain ⟨c0, h1, h2, h3, h4⟩ := hr.blocks _ (List.mem_of_getElem? hi)
 generalize hvs : (List.range (c * sz)).map us = vs
 have hvl : vs.length = c * sz := by rw [← hvs]; simp
 have hvg : ∀ j, j < c * sz → vs[j]? = some (us j) := fun j hj => by rw [← hvs]; simp [hj]
 have hcm : c * sz ≤ m * sz := Nat.mul_le_mul_right _ (by omega)
 have hsp := hr.splice hB (off := off) (l := tab (c * sz) F) (vs := vs) hi h1 (by rw [tab_len, hvl]) (fun j hj => by
  rw [tab_len] at hj
  rw [tab_get, List.getD_eq_getElem?_getD, hvg j hj]
  cases ad with
  | none => have := (hnil rfl).1; subst this; simp at hcm; omega
  | some x0 => exact (hsrc x0 rfl j (by omega)).2) (by rw [tab_len]; exact hfit)
 rw [tab_len, hcs] at hsp
 have hst := run_storeCells_at P g off o'.ty vs 0 c0 w h1 (by rw [hvl]; omega) (fun v hv => by
  obtain ⟨j, hj, rfl⟩ := List.mem_iff_getElem.1 hv
  have hj' : j < c * sz := by omega
  have := hvg j hj'
  rw [List.getElem?_eq_getElem hj] at this
  rw [Option.some.inj this]
  cases ad with
  | none => have := (hnil rfl).1; subst this; simp at hcm; omega
  | some x0 => exact (hsrc x0 rfl j (by omega)).2.oneC (hone j hj'))
 simp only [Nat.add_zero] at hst
 have hfc : (Builtin.firstCells sz c (.slice ad m cap2)).run P w = .ok vs.toArray w := by
  cases ad with
  | none =>
   have := (hnil rfl).1
   subst this
   have : vs = [] := List.eq_nil_of_length_eq_zero (by rw [hvl]; simp at hcm; omega)
   subst this
   rfl
  | some x0 =>
   have hl := run_loadCells_list (P := P) w x0 vs (fun j v hj => by
    have hj' : j < c * sz := by have := (List.getElem?_eq_some_iff.1 hj).1; omega
    rw [hvg j hj'] at hj
    cases hj
    exact (hsrc x0 rfl j (by omega)).1)
   rw [hvl] at hl
   exact hl
 have hmn : Nat.min m n = c := hc.symm
 have hrun : (Builtin.copy_ #[T, T2] o.type #[.slice (some ⟨g, off, none⟩) n cap, .slice ad m cap2]).run P w = .ok (goInt c) (w.setRow g (c0.toList.take off ++ vs ++ c0.toList.drop (off + vs.length)).toArray) := by
  simp only [Builtin.copy_, List.getElem?_toArray, List.getElem?_cons_zero, List.getElem?_cons_succ, run_underlying hu, Builtin.lenOf, hsz, Sem.run_bind, Sem.run_pure, Result.andThen_ok, hmn, hfc, List.toList_toArray, hst]
 unfold Oper.wp
 simp only [execOp, ho, resolve, invoke, builtin, List.map_toArray, List.map_cons, List.map_nil, hr.evv hx, hev, Sem.run_bind, Sem.run_pure, Result.andThen_ok, hrun]
 exact hn _ _ _ hK (hsp.put _ hd _ _ (.v _)) ((chg_setRow w g _).mono fun b _ h => .inr (by cases h; exact hW))

theorem R.swap (hr : R B s a w) {i : Nat} {e e' : Ent} (hi : s.hp[i]? = some e) (hblk : e'.blk = e.blk) (hE : ∀ Z, EntR w Z e → EntR w Z e') : R B ⟨s.sl, s.hp.set i e', s.k⟩ a w := by
 have hil := (List.getElem?_eq_some_iff.1 hi).1
 have hm : ∀ (j : Nat) (p : Ent), (s.hp.set i e')[j]? = some p → ∃ p', s.hp[j]? = some p' ∧ p'.blk = p.blk ∧ (p' = p ∨ (p' = e ∧ p = e')) := fun j p hp => by
  by_cases h : i = j
  ·subst h
   rw [List.getElem?_set_self hil] at hp
   cases hp
   exact ⟨e, hi, hblk.symm, .inr ⟨rfl, rfl⟩⟩
  ·rw [List.getElem?_set_ne h] at hp
   exact ⟨p, hp, rfl, .inl rfl⟩
 have hz : ∀ b, Zn B s.hp w b → Zn B (s.hp.set i e') w b := fun b hb => ⟨hb.1, fun q hq => by
  obtain ⟨j, hj⟩ := List.mem_iff_getElem?.1 hq
  obtain ⟨q', r1, r2, _⟩ := hm j q hj
  rw [← r2]; exact hb.2.1 q' (List.mem_of_getElem? r1), hb.2.2⟩
 refine ⟨fun t x hx => (hr.slots t x hx).keep fun b hb _ => ⟨rfl, hz b hb⟩, hr.size, hr.defs, fun p hp => ?_, ?_, hr.chg, fun p hp g' hg => ?_, hr.res⟩
 ·obtain ⟨j, hj⟩ := List.mem_iff_getElem?.1 hp
  obtain ⟨p', k1, k2, k3⟩ := hm j p hj
  have hE1 := hr.blocks p' (List.mem_of_getElem? k1)
  rcases k3 with rfl | ⟨rfl, rfl⟩
  ·exact hE1.keep (fun b hb _ => ⟨rfl, hz b hb⟩) fun _ _ => rfl
  ·exact (hE _ hE1).keep (fun b hb _ => ⟨rfl, hz b hb⟩) fun _ _ => rfl
 ·refine Apart.of fun j1 j2 p q hij hp hq g' hg1 hg2 => ?_
  obtain ⟨p', k1, k2, _⟩ := hm j1 p hp
  obtain ⟨q', r1, r2, _⟩ := hm j2 q hq
  exact hr.nodup.get k1 r1 (by omega) (k2.trans hg1) (r2.trans hg2)
 ·obtain ⟨j, hj⟩ := List.mem_iff_getElem?.1 hp
  obtain ⟨p', k1, k2, _⟩ := hm j p hj
  exact hr.own p' (List.mem_of_getElem? k1) g' (k2.trans hg)
theorem OpE.clear {x : Operand} {T e i n sz g off cap : Nat} {o' : Own'} {z : Value} (ho : o.op = .call { callee := .builtin .clear, args := #[x], argTypes := #[T] }) (hB : B.Ok) (hd : okd B.nt o.dst = true)
  (hu : P.underlying T = some (.slice e)) (hz : ∀ w, (zeroValue e).run P w = .ok z w) (hzs : z.cells.size = sz) (hz1 : ∀ v ∈ z.cells.toList, v.oneCell' = true) (hx : evO s x = some (.v (.slice (some ⟨g, off, none⟩) n cap))) (hi : s.hp[i]? = some (.box g o'))
  (hfit : off + n * sz ≤ o'.cs.length) (hW : W g)
  (hK : K ((St'.mk s.sl (s.hp.set i (.box g ⟨o'.cs.take off, o'.ty, o'.tot⟩)) s.k).put o.dst (.tup []))) : OpE P B W s o K := by
 intro a w hr next Qx hn
 obtain ⟨c0, h1, h2, h3, h4⟩ := hr.blocks _ (List.mem_of_getElem? hi)
 generalize hvs : (Builtin.zeroCells z.cells n).toList = vs
 have hvl : vs.length = n * sz := by rw [← hvs, Array.length_toList, size_zeroCells, hzs]
 have hvone : ∀ v ∈ vs, v.oneCell' = true := fun v hv => by
  rw [← hvs] at hv
  simp only [Builtin.zeroCells, Array.toList_map, List.mem_map] at hv
  obtain ⟨j, hj, rfl⟩ := hv
  by_cases hzz : z.cells.size = 0
  ·have : vs.length = 0 := by rw [hvl, ← hzs, hzz, Nat.mul_zero]
   have h0 : (Array.range (n * z.cells.size)).toList = [] := by simp [hzz]
   rw [h0] at hj; cases hj
  ·have hlt : j % z.cells.size < z.cells.size := Nat.mod_lt _ (by omega)
   rw [getElem!_pos z.cells _ hlt]
   exact hz1 _ (by simp)
 have hsp := hr.splice hB (off := off) (l := vs.map .v) (vs := vs) hi h1 (by simp) (fun j hj => by
  simp at hj
  rw [List.getElem_map, List.getD_eq_getElem?_getD, List.getElem?_eq_getElem hj]
  exact .v _) (by rw [List.length_map, hvl]; exact hfit)
 have hst := run_storeCells_at P g off o'.ty vs 0 c0 w h1 (by rw [hvl]; omega) hvone
 simp only [Nat.add_zero] at hst
 have hil := (List.getElem?_eq_some_iff.1 hi).1
 have hsh := hsp.swap (i := i) (e := .box g ⟨o'.cs.take off ++ vs.map .v ++ o'.cs.drop (off + (vs.map AV.v).length), o'.ty, o'.tot⟩) (e' := .box g ⟨o'.cs.take off, o'.ty, o'.tot⟩) (by simp [hil]) rfl (fun Z hE => by
  obtain ⟨c, e1, e2, e3, e4⟩ := hE
  refine ⟨c, e1, e2, by simp only at e3 ⊢; simp only [List.length_append, List.length_take] at e3 ⊢; omega, fun q hq => ?_⟩
  have hq' : q < off ∧ q < o'.cs.length := by simp at hq; omega
  obtain ⟨u, r1, r2⟩ := e4 q (by simp; omega)
  refine ⟨u, r1, ?_⟩
  simp only at r2 ⊢
  rw [List.getElem_append_left (by simp; omega), List.getElem_append_left (by simp; omega)] at r2
  exact r2)
 simp only [List.set_set] at hsh
 have hrun : (Builtin.clear_ #[T] o.type #[.slice (some ⟨g, off, none⟩) n cap]).run P w = .ok (.tuple #[]) (w.setRow g (c0.toList.take off ++ vs ++ c0.toList.drop (off + vs.length)).toArray) := by
  cases n with
  | zero =>
   have : vs = [] := List.eq_nil_of_length_eq_zero (by rw [hvl]; simp)
   subst this
   have hs := setRow_self w g c0 o'.ty (0, 0) h1
   simp [Builtin.clear_, run_underlying hu, hs]
  | succ n => simp [Builtin.clear_, run_underlying hu, hz, hvs, hst]
 unfold Oper.wp
 simp only [execOp, ho, resolve, invoke, builtin, List.map_toArray, List.map_cons, List.map_nil, hr.evv hx, Sem.run_bind, Sem.run_pure, Result.andThen_ok, hrun]
 exact hn _ _ _ hK (hsh.put _ hd _ _ (.tup _ _ rfl fun j hj => by simp at hj)) ((chg_setRow w g _).mono fun b _ h => .inr (by cases h; exact hW))

theorem OpE.appendP {x y : Operand} {T e i n m sz bytes : Nat} {u z : Value} {cs cs' : List AV} {F : Nat → AV} (ho : o.op = .call { callee := .builtin .append, args := #[x, y], argTypes := #[T, T] }) (hB : B.Ok) (hd : okd B.nt o.dst = true)
  (hu : P.underlying T = some (.slice e)) (hinfo : (P.info? e).map (fun i => (i.zero, i.size, i.bytes)) = some (some z, sz, bytes)) (hz : z.cells.size = sz) (hsz : 0 < sz) (hby : bytes ≤ 4096)
  (hx : evO s x = some (.v u)) (hi : s.hp[i]? = some (.row u n sz cs e)) (hy : SrcP P B s y m sz F) (hone : ∀ j, j < m * sz → (F j).one = true) (hlen : n + m ≤ 10000000000) (hcs : cs ++ tab (m * sz) F = cs') (hW : ∀ g, u.ownBlock = some g → W g)
  (hK : ∀ u', K ((St'.mk s.sl (s.hp.set i (.row u' (n + m) sz cs' e)) s.k).put o.dst (.v u'))) : OpE P B W s o K := by
 subst hcs
 obtain ⟨ii, hii, hz0, hz1, hz2⟩ := info_parts hinfo
 intro a w hr next Qx hn
 have hmem := List.mem_of_getElem? hi
 obtain ⟨ad, cap2, v2, hv, hnil, hsrc⟩ := hy a w hr
 obtain ⟨hl0, hrow⟩ := hr.blocks _ hmem
 have hil := (List.getElem?_eq_some_iff.1 hi).1
 by_cases hm0 : m = 0
 ·subst hm0
  have hset : s.hp.set i (.row u (n + 0) sz (cs ++ tab (0 * sz) F) e) = s.hp := by
   rw [Nat.zero_mul]
   simp only [tab, List.append_nil, Nat.add_zero]
   apply List.ext_getElem?
   intro j
   rw [List.getElem?_set]
   split
   ·rename_i h; subst h; first | (rw [if_pos hil]; exact hi.symm) | exact hi.symm
   ·rfl
  have hrun : (Builtin.append_ #[T, T] o.type #[u, .slice ad 0 cap2]).run P w = .ok u w := by
   have hf : ∀ w, (Builtin.firstCells sz 0 (.slice ad 0 cap2)).run P w = .ok #[] w := fun w => by
    cases ad with
    | none => rfl
    | some x0 =>
     have := run_loadCells_list (P := P) w x0 [] (fun j v hj => by simp at hj)
     simpa [Builtin.firstCells] using this
   subst hz1
   rcases hrow with ⟨rfl, rfl⟩ | ⟨g, cap, c, rfl, k1, k2, k3, k4, k5⟩
   ·simp [Builtin.append_, run_underlying hu, sizeOf, typeInfo, hii, Builtin.lenOf, hf]
   ·simp [Builtin.append_, run_underlying hu, sizeOf, typeInfo, hii, Builtin.lenOf, hf, k1, storeCells]
  have := hK u
  rw [hset] at this
  unfold Oper.wp
  simp only [execOp, ho, resolve, invoke, builtin, List.map_toArray, List.map_cons, List.map_nil, hr.evv hx, hv, Sem.run_bind, Sem.run_pure, Result.andThen_ok, hrun]
  exact hn _ _ _ this (hr.put _ hd _ _ (.v _)) (Ew.rf _)
 obtain ⟨x0, rfl⟩ : ∃ x0, ad = some x0 := by
  cases ad with
  | none => exact absurd (hnil rfl).1 hm0
  | some x0 => exact ⟨x0, rfl⟩
 obtain ⟨old, hrow', hold⟩ : ∃ old : Nat → Value, ((u = .slice none 0 0 ∧ n = 0) ∨ ∃ g cap c, u = .slice (some ⟨g, 0, none⟩) n cap ∧ n ≤ cap ∧ cap ≤ maxLen ∧ w.heap[g]? = some (.cells c e (0, 0)) ∧ c.size = cap * sz ∧ ∀ j, j < n * sz → c[j]? = some (old j)) ∧
   ∀ j, (h : j < cs.length) → Rep w (Zn B s.hp w) cs[j] (old j) := by
  rcases hrow with ⟨h, rfl⟩ | ⟨g, cap, c, h, k1, k2, k3, k4, k5⟩
  ·exact ⟨fun _ => undef, .inl ⟨h, rfl⟩, fun j hj => by omega⟩
  ·refine ⟨fun j => c.getD j undef, .inr ⟨g, cap, c, h, k1, k2, k3, k4, fun j hj => ?_⟩, fun j hj => ?_⟩
   ·obtain ⟨x, q1, _⟩ := k5 j (by omega)
    exact getD_lt (Array.getElem?_eq_some_iff.1 q1).1
   ·obtain ⟨x, q1, q2⟩ := k5 j hj
    simp only
    rw [show c.getD j undef = x by rw [Array.getD_eq_getD_getElem?, q1]; rfl]
    exact q2
 obtain ⟨g, cap, w', c, hrun, e1, e2', e3, e4, e5, e6, e7, e8⟩ := append_run (P := P) w T o.type e ii z sz bytes hu hii hz0 hz1 hz2 hz hsz hby u n old hrow' x0 m cap2 v2
  (fun j hj => (hsrc x0 rfl j hj).1) (fun j hj => (hsrc x0 rfl j hj).2.oneC (hone j hj)) (by omega) hlen
 have hblk : (Ent.row (.slice (some ⟨g, 0, none⟩) (n + m) cap) (n + m) sz (cs ++ tab (m * sz) F) e).blk = (Ent.row u n sz cs e).blk ∨ ∃ g', (Ent.row (.slice (some ⟨g, 0, none⟩) (n + m) cap) (n + m) sz (cs ++ tab (m * sz) F) e).blk = some g' ∧ w.heap.size ≤ g' := by
  rcases e8 with e8 | e8
  ·exact .inl (by simp only [Ent.blk]; rw [e8]; rfl)
  ·exact .inr ⟨g, rfl, e8⟩
 have hr' := hr.set hB hi (e' := .row (.slice (some ⟨g, 0, none⟩) (n + m) cap) (n + m) sz (cs ++ tab (m * sz) F) e) e7 hblk (by
  have hz : ∀ b, Zn B s.hp w b → b < w.heap.size → w'.heap[b]? = w.heap[b]? ∧ Zn B (s.hp.set i (.row (.slice (some ⟨g, 0, none⟩) (n + m) cap) (n + m) sz (cs ++ tab (m * sz) F) e)) w' b := fun b hb hbl => by
   refine ⟨e7.block b hbl fun h => hb.2.1 _ hmem h, Nat.lt_of_lt_of_le hbl e7.size, fun p hp => ?_, hb.2.2⟩
   rcases List.mem_or_eq_of_mem_set hp with hp | hp
   ·exact hb.2.1 p hp
   ·subst hp
    rcases hblk with h | ⟨g', h, hg'⟩
    ·rw [h]; exact hb.2.1 _ hmem
    ·rw [h]; intro h'; simp at h'; omega
  refine ⟨by rw [List.length_append, hl0, tab_len, Nat.add_mul], .inr ⟨g, cap, c, rfl, e1, e2', e3, e4, fun j hj => ?_⟩⟩
  by_cases hjl : j < cs.length
  ·rw [List.getElem_append_left hjl]
   exact ⟨old j, e5 j (by omega), (hold j hjl).keep hz⟩
  ·rw [List.getElem_append_right (by omega)]
   simp [tab_len] at hj
   refine ⟨v2 (j - cs.length), ?_, ?_⟩
   ·have := e6 (j - cs.length) (by omega)
    rwa [show n * sz + (j - cs.length) = j by omega] at this
   ·rw [tab_get]
    exact (hsrc x0 rfl _ (by omega)).2.keep hz)
 unfold Oper.wp
 simp only [execOp, ho, resolve, invoke, builtin, List.map_toArray, List.map_cons, List.map_nil, hr.evv hx, hv, Sem.run_bind, Sem.run_pure, Result.andThen_ok, hrun]
 exact hn _ _ _ (hK _) (hr'.put _ hd _ _ (.v _)) (e7.mono fun b _ h => .inr (hW b h))

theorem OpE.buildSlice0 {t e sz : Nat} (ho : o.op = .buildSlice t 0 #[]) (hB : B.Ok) (hd : okd B.nt o.dst = true) (hu : P.underlying t = some (.slice e)) (hsz : ∀ w, (sizeOf e).run P w = .ok sz w)
  (hK : ∀ g, K ((St'.mk s.sl (s.hp ++ [.row (.slice (some ⟨g, 0, none⟩) 0 0) 0 sz [] e]) s.k).put o.dst (.v (.slice (some ⟨g, 0, none⟩) 0 0)))) : OpE P B W s o K := by
 intro a w hr next Qx hn
 have h1 := hr.new hB (.cells #[] e) (.row (.slice (some ⟨w.heap.size, 0, none⟩) 0 0) 0 sz [] e) rfl ⟨by simp, .inr ⟨w.heap.size, 0, #[], rfl, Nat.le_refl _, by simp [maxLen], heap_alloc_new w _, by simp, fun j hj => by simp at hj⟩⟩
 have hz0 : ∀ f : Nat → Value, Array.map f (Array.range 0) = #[] := fun f => by
  apply Array.ext (by simp)
  intro i hi
  simp at hi
 have hrun : (execOp a.eval o).run P w = .ok (.value (.slice (some ⟨w.heap.size, 0, none⟩) 0 0)) (w.alloc (.cells #[] e)) := by
  simp only [execOp, ho, Instr.buildSlice, newRow, Sem.run_bind, run_underlying hu, hsz, Result.andThen_ok, Sem.run_pure, Nat.zero_mul, if_true, if_false, hz0]
  simp [Instr.fill, run_newObj_alloc, hz0]
 unfold Oper.wp
 rw [hrun]
 exact hn _ _ _ (hK _) (h1.put _ hd _ _ (.v _)) (.ofN ((Chg.refl _ _).alloc _))

theorem OpE.eqNil {x : Operand} {t u e n sz : Nat} {F : Nat → AV} (ho : o.op = .binOp .eql t x (.const (.slice none 0 0)) u) (hd : okd B.nt o.dst = true) (hu : P.underlying t = some (.slice e)) (hx : evO s x = some (.im n sz F))
  (hK : ∀ b : Bool, (b = true → n = 0) → K (s.put o.dst (avB b))) : OpE P B W s o K := by
 intro a w hr next Qx hn
 have := hr.ev hx
 generalize hv : a.eval x = v at this
 have key : ∃ ad cap, v = .slice ad n cap ∧ (ad = none → n = 0) := by
  cases this with
  | nil => exact ⟨none, 0, rfl, fun _ => rfl⟩
  | im n sz f b off cap c e u hZ h1 h2 hb hc hr' => exact ⟨some ⟨b, off, none⟩, cap, rfl, fun h => (by cases h)⟩
 obtain ⟨ad, cap, rfl, hnil⟩ := key
 have hrun := fun w => Lib.run_eql_slice_nil (P := P) w t e ad n cap 0 0 hu
 have hc : a.eval (.const (.slice none 0 0)) = .slice none 0 0 := rfl
 have hrun' : (execOp a.eval o).run P w = .ok (.value (.bool ad.isNone)) w := by
  simp only [execOp, ho, hv, hc, eqGuard, Sem.run_bind, Sem.run_pure, Result.andThen_ok, hrun]
  simp
 unfold Oper.wp
 rw [hrun']
 exact hn _ _ _ (hK ad.isNone fun h => hnil (by cases ad <;> simp_all)) (hr.put _ hd _ _ (.v _)) (Ew.rf _)
theorem VO.eqNil {ops : Array Oper} {rest : List Oper} {x : Operand} {t u e n sz : Nat} {F : Nat → AV} (hg : o.guard = none) (ho : o.op = .binOp .eql t x (.const (.slice none 0 0)) u) (hd : okd B.nt o.dst = true) (hu : P.underlying t = some (.slice e)) (hx : evO s x = some (.im n sz F))
  (hK : ∀ b : Bool, (b = true → n = 0) → VO P B ops rest Q (s.put o.dst (avB b))) : VO P B ops (o :: rest) Q s := VO.op hg (OpE.eqNil ho hd hu hx hK)

theorem OpV.slice_own {t e sz g off n cap : Nat} {x : Operand} {lo hi : Option Operand} {l h : Nat} (ho : o.op = .slice t x lo hi none) (hu : P.underlying t = some (.slice e)) (hsz : ∀ w, (sizeOf e).run P w = .ok sz w) (hx : evO s x = some (.v (.slice (some ⟨g, off, none⟩) n cap)))
  (hl : BndO s lo 0 l) (hh : BndO s hi n h) (h1 : l ≤ h) (h2 : h ≤ cap) (h3 : l < cap) : OpV P B W s o (.v (.slice (some ⟨g, off + l * sz, none⟩) (h - l) (cap - l))) := fun a w hr => by
 have e := fun w' => sliceB_run (P := P) (isS := true) (len := n) (cap := cap) (l := l) (h := h) (lo := lo.map a.eval) (hi := hi.map a.eval) (dl := (hl.run hr).imp (fun ⟨h1, h2⟩ => ⟨by rw [h1]; rfl, h2⟩) id) (dh := (hh.run hr).imp (fun ⟨h1, h2⟩ => ⟨by rw [h1]; rfl, h2⟩) id) h1 h2 w'
 have hne : ¬ cap = l := by omega
 exact ⟨_, fun w' hc => by simp [execOp, ho, Instr.sliceAt, Instr.slice, run_underlying hu, hr.evv hx, e w', hsz, hne, Addr.add], .v _⟩
end

theorem SpecR.of_VC {P : Program} {F : FuncId} {fn : Func} {c : Code} (hf : P.funcs[F]? = some fn) (hb : fn.body = some c) {xs : List AV} {n sz : Nat} {cs : List AV} {ty : TypeId} {nt : Nat} (hn : fn.ntmps = nt) (hle : xs.length ≤ nt) (hfl : ∀ x ∈ cs, ∃ v, x = .v v)
  (h : ∀ w A, (B0 w A nt).Ok → VC P (B0 w A nt) c (retS P fn fun y s => ∃ u, y = .v u ∧ .row u n sz cs ty ∈ s.hp) ⟨slots0 0 xs, [], 0⟩) : SpecR P F xs n sz cs ty := fun w us ha =>
 (calls_of_VC (k := 0) hf hb (B := B0 w (fun _ => True) nt) rfl hn.symm ha (fun _ h => h.elim) trivial (by omega) (h w _ (B0.ok _ _ _))).mono fun e w' ⟨y, v, s, a, ⟨u, h0, h1⟩, h2, h3, h4⟩ => by
  subst h0
  have hv := h3.eq_v
  subst hv
  refine ⟨_, h2, ?_, fun g hg => ?_, h4.chg⟩
  ·obtain ⟨k0, k1⟩ := h4.blocks _ h1
   refine ⟨k0, k1.imp id fun ⟨g, cap, c, q1, q2, q3, q4, q5, q6⟩ => ⟨g, cap, c, q1, q2, q3, q4, q5, fun j hj => ?_⟩⟩
   obtain ⟨u, r1, r2⟩ := q6 j hj
   obtain ⟨v', hv'⟩ := hfl _ (List.getElem_mem hj)
   refine ⟨u, r1, ?_⟩
   rw [hv'] at r2 ⊢
   rw [r2.eq_v]
   exact .v _
  ·have : ¬ g < w.heap.size := h4.isNew (fun b h => h) h1 hg
   omega

theorem ArgP.boxS {P : Program} {B : Bs} {s : St'} {x : Operand} {i n g cap : Nat} {xs : List ByteArray} {ty : TypeId} {tot : Nat} (hx : evO s x = some (.v (.slice (some ⟨g, 0, none⟩) n cap))) (hi : s.hp[i]? = some (.box g ⟨strsL xs, ty, tot⟩)) (hn : n = xs.length) (hcap : n ≤ cap) (hm : cap ≤ maxLen) : ArgP P B s x (avStrs xs) :=
 ArgP.box (n := n) (sz := 1) hx hi (by show 0 + n * 1 ≤ (strsL xs).length; rw [strsL_len]; omega) hcap hm fun w Z u h => Rep.strs hn (h.im_congr fun j hj => by rw [Nat.zero_add])
theorem Le.boxS {B : Bs} {s : St'} {t i n g cap : Nat} {xs : List ByteArray} {ty : TypeId} {tot : Nat} (hB : B.Ok) (hnew : True) (ht : look s.sl t = some (.v (.slice (some ⟨g, 0, none⟩) n cap))) (hi : s.hp[i]? = some (.box g ⟨strsL xs, ty, tot⟩)) (hn : n = xs.length) (hcap : n ≤ cap) (hm : cap ≤ maxLen) :
  Le B s ⟨(t, avStrs xs) :: s.sl, s.hp.eraseIdx i, s.k⟩ :=
 Le.box (n := n) (sz := 1) hB hnew ht hi (by show 0 + n * 1 ≤ (strsL xs).length; rw [strsL_len]; omega) hcap hm fun w Z u h => Rep.strs hn (h.im_congr fun j hj => by rw [Nat.zero_add])

class Sx1 (α : Type) [Inhabited α] where
 cell : α → AV
section
variable {α : Type} [Inhabited α] [Sx1 α]
abbrev avM (xs : List α) : AV := .im xs.length 1 fun j => Sx1.cell (xs.getD j default)
def listM (xs : List α) : List AV := xs.map Sx1.cell
theorem listM_snoc (xs : List α) (x : α) : listM xs ++ [Sx1.cell x] = listM (xs ++ [x]) := by simp [listM]
theorem Rep.listM {w : World} {Z : Nat → Prop} {xs : List α} {n : Nat} (hn : n = xs.length) {u : Value} (h : Rep w Z (.im n 1 fun j => (listM xs).getD j .any) u) : Rep w Z (avM xs) u := by
 subst hn
 exact h.im_congr fun j hj => by simp at hj; simp [Proofs.YtmahammdnmmmoaaGreatDoor.listM, hj]
theorem OpV.slice_M {P : Program} {B : Bs} {W : Nat → Prop} {s : St'} {o : Oper} {t e : Nat} {x : Operand} {lo hi : Option Operand} {l h : Nat} {xs : List α} (ho : o.op = .slice t x lo hi none) (hu : P.underlying t = some (.slice e)) (hsz : ∀ w, (sizeOf e).run P w = .ok 1 w) (hx : evO s x = some (avM xs))
  (hl : BndO s lo 0 l) (hh : BndO s hi xs.length h) (h1 : l ≤ h) (h2 : h ≤ xs.length) : OpV P B W s o (avM ((xs.take h).drop l)) :=
 (OpV.slice_im ho hu hsz hx hl hh h1 h2).recast fun w Z u hr => by
  rw [avM, len_cut h2]
  exact hr.im_congr fun j hj => by rw [Nat.mul_one] at hj ⊢; rw [getD_cut h2 hj]
end
instance : Sx1 (List ByteArray) := ⟨fun x => avStrs x⟩
instance : Sx1 (List Int) := ⟨fun x => avInts x⟩
end Go.Proofs.YtmahammdnmmmoaaGreatDoor
namespace Go.Proofs.YtmahammdnmmmoaaGreatDoor
open Go.RowKit
set_option linter.unusedVariables false
set_option linter.unusedSimpArgs false

def mE {κ α : Type} (kv : κ → Value) (E : α → AV) : List (κ × α) → Nat → List (Value × AV × Nat)
 | [], _ => []
 | p :: r, j => (kv p.1, E p.2, j) :: mE kv E r (j + 1)
abbrev mapE {κ α : Type} (kv : κ → Value) (g : Nat) (E : α → AV) (l : List (κ × α)) : Ent := .mp g (mE kv E l 0) l.length
def mget {κ α : Type} [DecidableEq κ] : List (κ × α) → κ → Option α
 | [], _ => none
 | p :: r, k => if k = p.1 then some p.2 else mget r k
def mput {κ α : Type} [DecidableEq κ] : List (κ × α) → κ → α → List (κ × α)
 | [], k, x => [(k, x)]
 | p :: r, k, x => if k = p.1 then (k, x) :: r else p :: mput r k x
def mpos {κ α : Type} [DecidableEq κ] : List (κ × α) → κ → Nat
 | [], _ => 0
 | p :: r, k => if k = p.1 then 0 else mpos r k + 1
section
variable {κ α : Type} {kv : κ → Value} {E : α → AV}
theorem mE_len : ∀ (l : List (κ × α)) (i : Nat), (mE kv E l i).length = l.length
 | [], _ => rfl
 | _ :: r, i => by simp [mE, mE_len r]
theorem mE_get : ∀ (l : List (κ × α)) (i j : Nat) (h : j < l.length), (mE kv E l i)[j]? = some (kv (l[j]).1, E (l[j]).2, i + j)
 | [], _, _, h => by simp at h
 | p :: r, i, 0, _ => by simp [mE]
 | p :: r, i, j + 1, h => by
  simp only [mE, List.getElem?_cons_succ, List.getElem_cons_succ]
  rw [mE_get r (i + 1) j (by simpa using h)]
  congr 3; omega
theorem mE_born : ∀ (l : List (κ × α)) (i : Nat), (mE kv E l i).map (·.2.2) = List.range' i l.length
 | [], _ => rfl
 | p :: r, i => by simp [mE, mE_born r, List.range'_succ]
variable [DecidableEq κ]
theorem mpos_le : ∀ (l : List (κ × α)) (k : κ), mpos l k ≤ l.length
 | [], _ => Nat.le_refl _
 | p :: r, k => by
  have := mpos_le r k
  simp only [mpos, List.length_cons]; split <;> omega
theorem mget_pos : ∀ (l : List (κ × α)) (k : κ), mget l k = (l[mpos l k]?).map (·.2)
 | [], _ => rfl
 | p :: r, k => by
  simp only [mget, mpos]
  split
  ·rfl
  ·rw [mget_pos r k]; simp
theorem mpos_key : ∀ (l : List (κ × α)) (k : κ) (h : mpos l k < l.length), (l[mpos l k]).1 = k
 | [], _, h => by simp at h
 | p :: r, k, h => by
  by_cases e : k = p.1
  ·simp [mpos, e]
  ·simp only [mpos, if_neg e, List.getElem_cons_succ]
   exact mpos_key r k (by simp only [mpos, if_neg e, List.length_cons] at h; omega)
theorem mpos_ne : ∀ (l : List (κ × α)) (k : κ) (j : Nat) (h : j < mpos l k), ∃ h' : j < l.length, (l[j]).1 ≠ k
 | [], _, j, h => by simp [mpos] at h
 | p :: r, k, j, h => by
  by_cases e : k = p.1
  ·simp [mpos, e] at h
  ·simp only [mpos, if_neg e] at h
   cases j with
   | zero => exact ⟨by simp, fun h' => e h'.symm⟩
   | succ j => obtain ⟨h1, h2⟩ := mpos_ne r k j (by omega); exact ⟨by simpa using h1, by simpa using h2⟩
theorem mput_new : ∀ (l : List (κ × α)) (k : κ) (x : α), mpos l k = l.length → mput l k x = l ++ [(k, x)]
 | [], _, _, _ => rfl
 | p :: r, k, x, h => by
  by_cases e : k = p.1
  ·simp [mpos, e] at h
  ·simp only [mpos, if_neg e, List.length_cons] at h
   simp only [mput, if_neg e, List.cons_append]
   rw [mput_new r k x (by omega)]
theorem mput_old : ∀ (l : List (κ × α)) (k : κ) (x : α), mpos l k < l.length → mput l k x = l.set (mpos l k) (k, x)
 | [], _, _, h => by simp at h
 | p :: r, k, x, h => by
  by_cases e : k = p.1
  ·simp [mput, mpos, e]
  ·simp only [mpos, if_neg e, List.length_cons] at h
   simp only [mput, mpos, if_neg e, List.set_cons_succ]
   rw [mput_old r k x (by omega)]
theorem mput_len (l : List (κ × α)) (k : κ) (x : α) : (mput l k x).length = if mpos l k < l.length then l.length else l.length + 1 := by
 split
 ·rename_i h; rw [mput_old l k x h]; simp
 ·rename_i h; rw [mput_new l k x (by have := mpos_le l k; omega)]; simp
end

structure KeyOk (P : Program) (kt : TypeId) {κ : Type} [DecidableEq κ] (kv : κ → Value) : Prop where
 check : ∀ (e : Bool) (k : κ) (w : World), (Instr.checkKey e 10000 kt (kv k)).run P w = .ok () w
 find : ∀ {α : Type} (l : List (κ × α)) (c : List MapEntry) (k : κ) (w : World), c.length = l.length → (∀ j (h : j < l.length), ∃ e, c[j]? = some e ∧ e.key = kv (l[j]).1) →
  (Instr.findKey kt (kv k) c).run P w = .ok (if mpos l k < l.length then (c[mpos l k]?).map fun e => (mpos l k, e.val) else none) w
 stay : ∀ (k : κ) (w : World), (Instr.keyThatStays (kv k) (kv k)).run P w = .ok (kv k) w
theorem findNow_str {α : Type} : ∀ (l : List (ByteArray × α)) (c : List MapEntry) (k : ByteArray), c.length = l.length → (∀ j (h : j < l.length), ∃ e, c[j]? = some e ∧ e.key = .string (l[j]).1) →
  ∀ i, Instr.findNow .string (.string k) c i = some (if mpos l k < l.length then (c[mpos l k]?).map fun e => (i + mpos l k, e.val) else none)
 | [], c, k, hl, h, i => by
  have : c = [] := List.eq_nil_of_length_eq_zero (by simpa using hl)
  subst this; rfl
 | p :: r, [], k, hl, h, i => by simp at hl
 | p :: r, e :: c, k, hl, h, i => by
  obtain ⟨e0, h1, h2⟩ := h 0 (by simp)
  simp at h1 h2
  subst h1
  simp only [Instr.findNow, h2, Instr.sameNow]
  by_cases ek : k = p.1
  ·have : (k == p.1) = true := by rw [bA_beq]; exact decide_eq_true ek
   rw [this]
   simp [mpos, ek]
  ·have : (k == p.1) = false := by rw [bA_beq]; exact decide_eq_false ek
   rw [this]
   simp only
   rw [findNow_str r c k (by simpa using hl) (fun j hj => h (j + 1) (Nat.succ_lt_succ hj)) (i + 1)]
   simp only [mpos, if_neg ek, List.length_cons, Nat.add_lt_add_iff_right, List.getElem?_cons_succ]
   rw [show i + 1 + mpos r k = i + (mpos r k + 1) by omega]
theorem KeyOk.str {P : Program} {kt : TypeId} (hk : P.underlying kt = some .string) : KeyOk P kt (fun k : ByteArray => Value.string k) where
 check e k w := by
  rw [show (10000 : Nat) = 9999 + 1 from rfl, Instr.checkKey]
  simp only [Sem.run_bind, run_underlying hk, Result.andThen_ok, Sem.run_pure]
 find l c k w hl h := by
  have := findNow_str l c k hl h 0
  simp only [Nat.zero_add] at this
  simp only [Instr.findKey, Sem.run_bind, run_underlying hk, Result.andThen_ok, this, Sem.run_pure]
 stay k w := by
  have : Instr.sameBits 10000 (.string k) (.string k) = true := by
   simp only [Instr.sameBits, bA_beq, decide_true]
  simp [Instr.keyThatStays, this]
end Go.Proofs.YtmahammdnmmmoaaGreatDoor
namespace Go.Proofs.YtmahammdnmmmoaaGreatDoor
open Go.RowKit
set_option linter.unusedVariables false
set_option linter.unusedSimpArgs false

section
variable {P : Program} {B : Bs} {W : Nat → Prop} {s s' : St'} {o : Oper} {K : St' → Prop} {a : Act} {w w' : World} {Q : Exit → St' → Prop}

theorem OpV.cap_v {x : Operand} {T e n c : Nat} {ad : Option Addr} (ho : o.op = .call { callee := .builtin .cap, args := #[x], argTypes := #[T] }) (hu : P.underlying T = some (.slice e))
  (hx : evO s x = some (.v (.slice ad n c))) : OpV P B W s o (.v (.int .i64 c)) :=
 OpV.conc (fun a w hr w' hcw => by simp [execOp, ho, resolve, invoke, builtin, Builtin.cap_, run_underlying hu, hr.evv hx, goInt])

theorem OpV.slice_rowA {t e sz i n l h : Nat} {x : Operand} {u : Value} {cs : List AV} {ty : TypeId} {lo hi : Option Operand} (ho : o.op = .slice t x lo hi none) (hu : P.underlying t = some (.slice e)) (hsz : ∀ w, (sizeOf e).run P w = .ok sz w) (hx : evO s x = some (.v u))
  (hi' : s.hp[i]? = some (.row u n sz cs ty)) (hl : BndO s lo 0 l) (hh : BndO s hi n h) (h1 : l ≤ h) (h2 : h ≤ n) : OpV P B W s o .any := fun a w hr => by
 obtain ⟨_, ⟨rfl, rfl⟩ | ⟨g, cap, c, rfl, k1, _⟩⟩ := hr.blocks _ (List.mem_of_getElem? hi')
 ·have e := fun w' => sliceB_run (P := P) (isS := true) (len := 0) (cap := 0) (l := l) (h := h) (lo := lo.map a.eval) (hi := hi.map a.eval) (dl := (hl.run hr).imp (fun ⟨h1, h2⟩ => ⟨by rw [h1]; rfl, h2⟩) id) (dh := (hh.run hr).imp (fun ⟨h1, h2⟩ => ⟨by rw [h1]; rfl, h2⟩) id) h1 h2 w'
  exact ⟨_, fun w' hc => by simp [execOp, ho, Instr.sliceAt, Instr.slice, run_underlying hu, hr.evv hx, e w', hsz]; rfl, .any _⟩
 ·have e := fun w' => sliceB_run (P := P) (isS := true) (len := n) (cap := cap) (l := l) (h := h) (lo := lo.map a.eval) (hi := hi.map a.eval) (dl := (hl.run hr).imp (fun ⟨h1, h2⟩ => ⟨by rw [h1]; rfl, h2⟩) id) (dh := (hh.run hr).imp (fun ⟨h1, h2⟩ => ⟨by rw [h1]; rfl, h2⟩) id) h1 (by omega) w'
  exact ⟨_, fun w' hc => by simp [execOp, ho, Instr.sliceAt, Instr.slice, run_underlying hu, hr.evv hx, e w', hsz]; rfl, .any _⟩
theorem Le.swap {i : Nat} {e e' : Ent} (hi : s.hp[i]? = some e) (hblk : e'.blk = e.blk) (hE : ∀ w Z, EntR w Z e → EntR w Z e') : Le B s ⟨s.sl, s.hp.set i e', s.k⟩ := fun a w hr => hr.swap hi hblk (hE w)
theorem Le.padBox {i g tot : Nat} {cs : List AV} {ty : TypeId} (m : Nat) (hi : s.hp[i]? = some (.box g ⟨cs, ty, tot⟩)) (hm : cs.length + m ≤ tot) : Le B s ⟨s.sl, s.hp.set i (.box g ⟨cs ++ List.replicate m .any, ty, tot⟩), s.k⟩ :=
 Le.swap hi rfl fun w Z ⟨c, h1, h2, h3, h4⟩ => ⟨c, h1, h2, by simpa using hm, fun j hj => by
  simp only at h2 h3 h4 hj ⊢
  by_cases hjl : j < cs.length
  ·obtain ⟨u, k1, k2⟩ := h4 j hjl
   exact ⟨u, k1, by rw [List.getElem_append_left hjl]; exact k2⟩
  ·rw [List.length_append, List.length_replicate] at hj
   have hlt : j < c.size := by rw [h2]; omega
   exact ⟨_, Array.getElem?_eq_getElem hlt, by rw [List.getElem_append_right (by omega), List.getElem_replicate]; exact .any _⟩⟩
theorem Le.cutBox {i g tot : Nat} {cs : List AV} {ty : TypeId} (m : Nat) (hi : s.hp[i]? = some (.box g ⟨cs, ty, tot⟩)) : Le B s ⟨s.sl, s.hp.set i (.box g ⟨cs.take m, ty, tot⟩), s.k⟩ :=
 Le.swap hi rfl fun w Z ⟨c, h1, h2, h3, h4⟩ => ⟨c, h1, h2, by simp only [List.length_take] at h3 ⊢; omega, fun j hj => by
  simp only [List.length_take] at hj h4 ⊢
  obtain ⟨u, k1, k2⟩ := h4 j (by omega)
  exact ⟨u, k1, by rw [List.getElem_take]; exact k2⟩⟩
theorem Le.cutBoxE {i g tot : Nat} {cs cs' : List AV} {ty : TypeId} (m : Nat) (hi : s.hp[i]? = some (.box g ⟨cs, ty, tot⟩)) (h : cs.take m = cs') : Le B s ⟨s.sl, s.hp.set i (.box g ⟨cs', ty, tot⟩), s.k⟩ := by
 subst h
 exact Le.cutBox m hi
theorem Le.pickH {hp : List Ent} (ix : List Nat) (hix : ndB ix = true) (h3 : keepIx ix s.hp = hp) : Le B s ⟨s.sl, hp, s.k⟩ := fun a w hr => by
 subst h3
 have hm : ∀ p ∈ keepIx ix s.hp, p ∈ s.hp := fun p hp => by
  rw [keepIx_fm] at hp
  obtain ⟨i, _, hi⟩ := List.mem_filterMap.1 hp
  exact List.mem_of_getElem? hi
 have hz : ∀ b, Zn B s.hp w b → Zn B (keepIx ix s.hp) w b := fun b hb => ⟨hb.1, fun p hp' => hb.2.1 p (hm p hp'), hb.2.2⟩
 refine ⟨fun t x hx => (hr.slots t x hx).keep fun b hb _ => ⟨rfl, hz b hb⟩, hr.size, hr.defs, fun p hp' => (hr.blocks p (hm p hp')).keep (fun b hb _ => ⟨rfl, hz b hb⟩) fun _ _ => rfl, ?_, hr.chg, fun p hp' g hg => hr.own p (hm p hp') g hg, hr.res⟩
 show Apart (keepIx ix s.hp)
 unfold Apart
 rw [keepIx_fm, List.pairwise_filterMap]
 refine (ndB_spec hix).imp fun {i j} hij p hp q hq g hg => hr.nodup.get hp hq hij hg
theorem Le.drop (m : Nat) : Le B s ⟨s.sl, s.hp.drop m, s.k⟩ := fun a w hr => hr.drop (fun _ _ h => h) (List.drop_sublist m s.hp)
theorem VO.asBox {ops : Array Oper} {rest : List Oper} {i n sz : Nat} {u : Value} {cs : List AV} {ty : TypeId} (hi : s.hp[i]? = some (.row u n sz cs ty)) (hn : 0 < n)
  (h : ∀ g cap, u = .slice (some ⟨g, 0, none⟩) n cap → n ≤ cap → cap ≤ maxLen → VO P B ops rest Q ⟨s.sl, s.hp.set i (.box g ⟨cs, ty, cap * sz⟩), s.k⟩) : VO P B ops rest Q s := fun a w hr => by
 obtain ⟨g, cap, h1, h2, h3, h4⟩ := hr.rowBox hi hn
 exact h g cap h1 h2 h3 a w h4

theorem VO.rowIs {ops : Array Oper} {rest : List Oper} {i n sz : Nat} {u : Value} {cs : List AV} {ty : TypeId} (hi : s.hp[i]? = some (.row u n sz cs ty)) (h : ∀ b c, u = .slice b n c → VO P B ops rest Q s) : VO P B ops rest Q s := fun a w hr => by
 obtain ⟨_, ⟨rfl, rfl⟩ | ⟨g, cap, c, rfl, _⟩⟩ := hr.blocks _ (List.mem_of_getElem? hi)
 ·exact h none 0 rfl a w hr
 ·exact h _ cap rfl a w hr
theorem VC.rowIs {c0 : Code} {Qc : Exit → St' → Prop} {i n sz : Nat} {u : Value} {cs : List AV} {ty : TypeId} (hi : s.hp[i]? = some (.row u n sz cs ty)) (h : ∀ b c, u = .slice b n c → VC P B c0 Qc s) : VC P B c0 Qc s := fun a w hr => by
 obtain ⟨_, ⟨rfl, rfl⟩ | ⟨g, cap, c, rfl, _⟩⟩ := hr.blocks _ (List.mem_of_getElem? hi)
 ·exact h none 0 rfl a w hr
 ·exact h _ cap rfl a w hr
theorem look_k {l : List (Nat × AV)} {t : Nat} {b want : Bool} (h : look l t = some (.v (.bool b))) (hb : b = want) : look l t = some (.v (.bool want)) := hb ▸ h
theorem SpecH.args {F : FuncId} {xs xs' : List AV} {hp : List Ent} {G : AV → List Ent → Prop} (h : SpecH P F xs hp G) (hl : xs'.length = xs.length) (ha : ∀ (j : Nat) (h1 : j < xs'.length) (h2 : j < xs.length) (w : World) (Z : Nat → Prop) (u : Value), Rep w Z xs'[j] u → Rep w Z xs[j] u) : SpecH P F xs' hp G :=
 fun w A us h1 => h w A us ⟨h1.1.trans hl, fun j hj => ha j (by omega) hj _ _ _ (h1.2 j (by omega))⟩
theorem ArgP.nil {x : Operand} {sz : Nat} {F : Nat → AV} (h : evO s x = some (.v (.slice none 0 0))) : ArgP P B s x (.im 0 sz F) := fun a w hr => by
 rw [hr.evv h]
 exact .nil _ _
theorem OpE.overlaps {x y : Operand} {ts : Array TypeId} {F : FuncId} {T Tr e sz i g off n cap m : Nat} {o' : Own'} {F0 : Nat → AV} (ho : o.op = .call { callee := .value (.func F), args := #[x, y], argTypes := ts }) (hB : B.Ok) (hd : okd B.nt o.dst = true)
  (hcall : ∀ us w, (callFunc F us).run P w = ((Extern.SlicesOverlaps.overlaps #[T, T] #[Tr] us).run P w).andThen fun v w' => .ok (.value v) w') (hu : P.underlying T = some (.slice e)) (hsz : ∀ w, (sizeOf e).run P w = .ok sz w)
  (hx : evO s x = some (.im m sz F0)) (hm : 0 < m) (hy : evO s y = some (.v (.slice (some ⟨g, off, none⟩) n cap))) (hi : s.hp[i]? = some (.box g o')) (ht : 0 < o'.tot) (hK : K (s.put o.dst (avB false))) : OpE P B W s o K := by
 intro a w hr next Qx hn
 have hex := hr.ev hx
 generalize hv : a.eval x = v at hex
 obtain ⟨c, h1, h2, h3, h4⟩ := hr.blocks _ (List.mem_of_getElem? hi)
 cases hex with
 | nil => omega
 | im m sz F b off2 cap2 c2 e2 u hZ k1 k2 hb hc hr2 =>
  have hne : b ≠ g := fun e => hZ.2.1 _ (List.mem_of_getElem? hi) (by rw [e]; rfl)
  have hov := Lib.run_overlaps_apart (P := P) w T Tr e hu sz hsz ⟨b, off2, none⟩ ⟨g, off, none⟩ m cap2 n cap hne e2 o'.ty c2.size c.size (by simp [World.shape?, hb]) (by simp [World.shape?, h1]) (by omega) (by simp [World.frozen?, hb]) (by simp [World.frozen?, hb])
  unfold Oper.wp
  simp only [execOp, ho, resolve, Act.eval, Deferred.ofValue, Sem.run_bind, Sem.run_pure, Result.andThen_ok, invoke, hcall, Array.empty_append, Array.append_empty, List.map_toArray, List.map_cons, List.map_nil]
  have hv' := hv
  simp only [Act.eval] at hv'
  have hy' := hr.evv hy
  simp only [Act.eval] at hy'
  rw [hv', hy', hov]
  exact hn _ _ _ hK (hr.put _ hd _ _ (.v _)) (Ew.rf _)
end
instance : Sx1 (List (List ByteArray)) := ⟨fun x => avM x⟩
instance : Sx1 (List (List Int)) := ⟨fun x => avM x⟩
end Go.Proofs.YtmahammdnmmmoaaGreatDoor
namespace Go.Proofs.YtmahammdnmmmoaaGreatDoor
open Go.RowKit
set_option linter.unusedVariables false
set_option linter.unusedSimpArgs false

theorem getMap {P : Program} {w : World} {r : Nat} {es : Array MapEntry} {clock : Nat} (hb : w.heap[r]? = some (.map es clock)) : (getObj r).run P w = .ok (.map es clock) w := by
 simp [getObj, Sem.run, hb]
theorem putMap {P : Program} {w : World} {r : Nat} {es : Array MapEntry} {clock : Nat} (c : Array MapEntry) (clk : Nat) (hb : w.heap[r]? = some (.map es clock)) : (setObj r (.map c clk)).run P w = .ok () { w with heap := w.heap.setIfInBounds r (.map c clk) } := by
 simp [setObj, Sem.run, hb]
def _root_.Go.World.setMp (w : World) (g : Nat) (c : Array MapEntry) (clk : Nat) : World := { w with heap := w.heap.setIfInBounds g (.map c clk) }
theorem setMp_heap (w : World) (g : Nat) (c c' : Array MapEntry) (clk clk' : Nat) (h : w.heap[g]? = some (.map c clk)) : (w.setMp g c' clk').heap[g]? = some (.map c' clk') := by
 have := (Array.getElem?_eq_some_iff.1 h).1
 simp [World.setMp, this]
theorem setMp_other (w : World) (g b : Nat) (c' : Array MapEntry) (clk' : Nat) (h : b ≠ g) : (w.setMp g c' clk').heap[b]? = w.heap[b]? := by
 simp only [World.setMp]
 exact Array.getElem?_setIfInBounds_ne (fun e => h e.symm)
theorem chg_setMp (w : World) (g : Nat) (c : Array MapEntry) (clk : Nat) : Chg (fun b => some g = some b) w (w.setMp g c clk) :=
 ⟨rfl, rfl, rfl, by simp [World.setMp], fun k _ hk => setMp_other w g k c clk (fun e => hk (by rw [e]))⟩
section
variable {P : Program} {B : Bs} {W : Nat → Prop} {s s' : St'} {o : Oper} {K : St' → Prop} {a : Act} {w w' : World}
variable {κ α : Type} {kv : κ → Value} {E : α → AV}

def KeyE (B : Bs) (s : St') (x : Operand) (v : Value) : Prop := ∀ a w, R B s a w → a.eval x = v
theorem KeyE.v {x : Operand} {v : Value} (h : evO s x = some (.v v)) : KeyE B s x v := fun a w hr => hr.evv h
theorem KeyE.agg2 {x : Operand} {v1 v2 : Value} (h : evO s x = some (.agg [.v v1, .v v2])) : KeyE B s x (.agg #[v1, v2]) := fun a w hr => by
 have := hr.ev h
 generalize hv : a.eval x = u at this
 cases this with
 | agg cs us hl hr =>
  have h0 := (hr 0 (by simp)).eq_v
  have h1 := (hr 1 (by simp)).eq_v
  simp at hl
  congr 1
  apply Array.ext (by simp [hl])
  intro i hi1 hi2
  simp [hl] at hi1
  match i, hi1 with
  | 0, _ => simpa [hl] using h0
  | 1, _ => simpa [hl] using h1

theorem EntR.toMap {g : Nat} {l : List (κ × α)} {Z : Nat → Prop} (h : EntR w Z (mapE kv g E l)) : ∃ c : Array MapEntry, w.heap[g]? = some (.map c l.length) ∧ c.size = l.length ∧ ∀ j (hj : j < l.length), (c[j]!).key = kv (l[j]).1 ∧ (c[j]!).born = j ∧ Rep w Z (E (l[j]).2) (c[j]!).val := by
 obtain ⟨c, h1, h2, h3, h4⟩ := h
 rw [mE_len] at h2
 refine ⟨c, h1, h2, fun j hj => ?_⟩
 obtain ⟨k1, k2, k3, k4⟩ := h4 j (by rw [mE_len]; exact hj)
 have e := mE_get (kv := kv) (E := E) l 0 j hj
 rw [List.getElem?_eq_getElem (by rw [mE_len]; exact hj)] at e
 have e := Option.some.inj e
 rw [e] at k1 k2 k4
 exact ⟨k1, by simpa using k2, k4⟩
theorem EntR.ofMap {g : Nat} {l : List (κ × α)} {Z : Nat → Prop} {c : Array MapEntry} (h1 : w.heap[g]? = some (.map c l.length)) (h2 : c.size = l.length) (h3 : ∀ j (hj : j < l.length), (c[j]!).key = kv (l[j]).1 ∧ (c[j]!).born = j ∧ Rep w Z (E (l[j]).2) (c[j]!).val) : EntR w Z (mapE kv g E l) := by
 refine ⟨c, h1, by rw [mE_len]; exact h2, by rw [mE_born]; exact List.nodup_range', fun j hj => ?_⟩
 have hj' := hj
 rw [mE_len] at hj'
 have e := mE_get (kv := kv) (E := E) l 0 j hj'
 rw [List.getElem?_eq_getElem hj] at e
 have e := Option.some.inj e
 rw [e]
 obtain ⟨k1, k2, k3⟩ := h3 j hj'
 exact ⟨k1, by simp [k2], by simpa using hj', k3⟩
theorem map_find [DecidableEq κ] {kt : TypeId} (hk : KeyOk P kt kv) {l : List (κ × α)} {Z : Nat → Prop} {c : Array MapEntry} (h2 : c.size = l.length) (h3 : ∀ j (hj : j < l.length), (c[j]!).key = kv (l[j]).1 ∧ (c[j]!).born = j ∧ Rep w Z (E (l[j]).2) (c[j]!).val) (k : κ) (w0 : World) :
  (Instr.findKey kt (kv k) c.toList).run P w0 = .ok (if mpos l k < l.length then some (mpos l k, (c[mpos l k]!).val) else none) w0 := by
 have := hk.find l c.toList k w0 (by simpa using h2) (fun j hj => ⟨c[j]!, by rw [Array.getElem?_toList, getElem!_pos c j (by omega)]; exact Array.getElem?_eq_getElem _, (h3 j hj).1⟩)
 rw [this]
 split
 ·rename_i h
  rw [Array.getElem?_toList, getElem!_pos c _ (by omega), Array.getElem?_eq_getElem (by omega)]
  rfl
 ·rfl

theorem OpE.makeMap {t : TypeId} (kv : κ → Value) (E : α → AV) (ho : o.op = .makeMap t none) (hB : B.Ok) (hd : okd B.nt o.dst = true)
  (hK : ∀ g, K ((St'.mk s.sl (s.hp ++ [mapE kv g E []]) s.k).put o.dst (.v (.map (some g))))) : OpE P B W s o K := by
 intro a w hr next Qx hn
 have h1 := hr.new hB (.map #[] 0) (mapE kv w.heap.size E []) rfl (EntR.ofMap (l := ([] : List (κ × α))) (c := #[]) (heap_alloc_new w _) rfl fun j hj => by simp at hj)
 have hrun : (execOp a.eval o).run P w = .ok (.value (.map (some w.heap.size))) (w.alloc (.map #[] 0)) := by
  simp [execOp, ho, Instr.makeMap, run_newObj_alloc]
 unfold Oper.wp
 rw [hrun]
 exact hn _ _ _ (hK _) (h1.put _ hd _ _ (.v _)) (.ofN ((Chg.refl _ _).alloc _))

theorem OpV.lookup_own [DecidableEq κ] {x y : Operand} {T kt e g i : Nat} {k : κ} {l : List (κ × α)} {z : Value} (ho : o.op = .lookup T x y false) (hB : B.Ok) (hu : P.underlying T = some (.map kt e)) (hko : KeyOk P kt kv) (hz : ∀ w, (zeroValue e).run P w = .ok z w)
  (hx : evO s x = some (.v (.map (some g)))) (hk : KeyE B s y (kv k)) (hi : s.hp[i]? = some (mapE kv g E l)) (hW : ¬ W g) : OpV P B W s o (match mget l k with | some v => E v | none => .v z) := fun a w hr => by
 have hm := List.mem_of_getElem? hi
 obtain ⟨c, h1, h2, h3⟩ := EntR.toMap (hr.blocks _ hm)
 have hf := map_find hko h2 h3 k
 have hg := mget_pos l k
 have hle := mpos_le l k
 by_cases hp : mpos l k < l.length
 ·have e : mget l k = some (l[mpos l k]).2 := by rw [hg, List.getElem?_eq_getElem hp]; rfl
  rw [e]
  refine ⟨(c[mpos l k]!).val, fun w' hcw => ?_, (h3 _ hp).2.2⟩
  have h1' : w'.heap[g]? = some (.map c l.length) := (hcw.block g (hr.lt _ hm g rfl) fun h => h.elim (hr.notStr hB hm rfl) hW).trans h1
  simp [execOp, ho, Instr.lookup, run_underlying hu, hr.evv hx, hk a w hr, getMap h1', hko.check, hf, hp]
 ·have e : mget l k = none := by rw [hg, List.getElem?_eq_none (by omega)]; rfl
  rw [e]
  refine ⟨z, fun w' hcw => ?_, .v _⟩
  have h1' : w'.heap[g]? = some (.map c l.length) := (hcw.block g (hr.lt _ hm g rfl) fun h => h.elim (hr.notStr hB hm rfl) hW).trans h1
  simp [execOp, ho, Instr.lookup, run_underlying hu, hr.evv hx, hk a w hr, getMap h1', hko.check, hf, hp, hz]
theorem modify_at {c : Array MapEntry} {i j : Nat} {f : MapEntry → MapEntry} (h : j < c.size) : (c.modify i f)[j]! = if i = j then f (c[j]!) else c[j]! := by
 rw [getElem!_pos _ j (by simpa using h), getElem!_pos c j h, Array.getElem_modify]
theorem push_at {c : Array MapEntry} {j : Nat} {x : MapEntry} (h : j < c.size + 1) : (c.push x)[j]! = if j < c.size then c[j]! else x := by
 rw [getElem!_pos _ j (by simpa using h), Array.getElem_push]
 split
 ·rename_i h1; rw [getElem!_pos c j h1]
 ·rfl
theorem R.setMap (hB : B.Ok) (hr : R B s a w) {i g : Nat} {l l' : List (κ × α)} {c c' : Array MapEntry} (hi : s.hp[i]? = some (mapE kv g E l)) (h1 : w.heap[g]? = some (.map c l.length)) (h2' : c'.size = l'.length)
  (h3' : ∀ j (hj : j < l'.length), (c'[j]!).key = kv (l'[j]).1 ∧ (c'[j]!).born = j ∧ Rep w (Zn B s.hp w) (E (l'[j]).2) (c'[j]!).val) : R B ⟨s.sl, s.hp.set i (mapE kv g E l'), s.k⟩ a (w.setMp g c' l'.length) := by
 have hm := List.mem_of_getElem? hi
 refine hr.set hB hi (chg_setMp w g c' l'.length) (.inl rfl) (EntR.ofMap (setMp_heap w g c c' _ _ h1) h2' fun j hj => ?_)
 obtain ⟨k1, k2, k3⟩ := h3' j hj
 refine ⟨k1, k2, k3.keep fun b hb hbl => ⟨setMp_other w g b c' _ fun e => hb.2.1 _ hm (by rw [e]; rfl), by simp [World.setMp]; exact hbl, fun p hp => ?_, hb.2.2⟩⟩
 rcases List.mem_or_eq_of_mem_set hp with hp | hp
 ·exact hb.2.1 p hp
 ·subst hp; exact hb.2.1 (mapE kv g E l) hm
theorem OpE.mapUpdate [DecidableEq κ] {x y v : Operand} {T kt e g i : Nat} {k : κ} {xx : α} {l : List (κ × α)} (ho : o.op = .mapUpdate T x y v) (hB : B.Ok) (hd : okd B.nt o.dst = true) (hu : P.underlying T = some (.map kt e)) (hko : KeyOk P kt kv)
  (hx : evO s x = some (.v (.map (some g)))) (hk : KeyE B s y (kv k)) (hv : evO s v = some (E xx)) (hi : s.hp[i]? = some (mapE kv g E l)) (hW : W g)
  (hK : K ((St'.mk s.sl (s.hp.set i (mapE kv g E (mput l k xx))) s.k).put o.dst (.v undef))) : OpE P B W s o K := by
 intro a w hr next Qx hn
 have hm := List.mem_of_getElem? hi
 obtain ⟨c, h1, h2, h3⟩ := EntR.toMap (hr.blocks _ hm)
 have hf := map_find hko h2 h3 k w
 have hle := mpos_le l k
 have hvv := hr.ev hv
 generalize hu' : a.eval v = u at hvv
 by_cases hp : mpos l k < l.length
 ·have hput := mput_old l k xx hp
  have hkey : (((c[mpos l k]?).map (·.key)).getD (kv k)) = kv k := by
   rw [Array.getElem?_eq_getElem (by omega)]
   have := (h3 _ hp).1
   rw [getElem!_pos c _ (by omega)] at this
   simp only [Option.map_some, Option.getD_some, this, mpos_key l k hp]
  have hr' := hr.setMap hB (l' := mput l k xx) (c' := c.modify (mpos l k) fun e => { e with key := kv k, val := u }) hi h1 (by rw [hput]; simp [h2]) (fun j hj => by
   have hj' : j < l.length := by rw [hput] at hj; simpa using hj
   simp only [hput]
   rw [modify_at (by omega)]
   by_cases ej : mpos l k = j
   ·rw [if_pos ej]
    subst ej
    exact ⟨by simp, (h3 _ hp).2.1, by simpa using hvv⟩
   ·rw [if_neg ej, List.getElem_set_ne ej]
    exact h3 j hj')
  have hlen : (mput l k xx).length = l.length := by rw [hput]; simp
  have hrun : (execOp a.eval o).run P w = .ok .skip (w.setMp g (c.modify (mpos l k) fun e => { e with key := kv k, val := u }) (mput l k xx).length) := by
   simp [execOp, ho, Instr.mapUpdate, run_underlying hu, hr.evv hx, hk a w hr, getMap h1, hko.check, hf, hp, hkey, hko.stay, hu', putMap _ _ h1, hlen, World.setMp]
  unfold Oper.wp
  rw [hrun]
  exact hn _ _ _ hK (hr'.put _ hd _ _ (.v _)) ((chg_setMp w g _ _).mono fun b _ h => .inr (by cases h; exact hW))
 ·have hput := mput_new l k xx (by omega)
  have hr' := hr.setMap hB (l' := mput l k xx) (c' := c.push { key := kv k, val := u, born := l.length }) hi h1 (by rw [hput]; simp [h2]) (fun j hj => by
   have hj' : j < l.length + 1 := by rw [hput] at hj; simpa using hj
   simp only [hput]
   rw [push_at (by omega)]
   by_cases ej : j < l.length
   ·rw [if_pos (by omega), List.getElem_append_left ej]
    exact h3 j ej
   ·obtain rfl : j = l.length := by omega
    rw [if_neg (by omega)]
    simpa using hvv)
  have hlen : (mput l k xx).length = l.length + 1 := by rw [hput]; simp
  have hrun : (execOp a.eval o).run P w = .ok .skip (w.setMp g (c.push { key := kv k, val := u, born := l.length }) (mput l k xx).length) := by
   simp [execOp, ho, Instr.mapUpdate, run_underlying hu, hr.evv hx, hk a w hr, getMap h1, hko.check, hf, hp, hu', putMap _ _ h1, hlen, World.setMp]
  unfold Oper.wp
  rw [hrun]
  exact hn _ _ _ hK (hr'.put _ hd _ _ (.v _)) ((chg_setMp w g _ _).mono fun b _ h => .inr (by cases h; exact hW))
def mgetD [DecidableEq κ] (l : List (κ × α)) (k : κ) (z : α) : α := (mget l k).getD z
end
end Go.Proofs.YtmahammdnmmmoaaGreatDoor
namespace Go.Proofs.YtmahammdnmmmoaaGreatDoor
open Go.RowKit
set_option linter.unusedVariables false
set_option linter.unusedSimpArgs false

inductive EqFs (P : Program) : Nat → List Field → List AV → List AV → Bool → Prop where
 | nil (off : Nat) : EqFs P off [] [] [] true
 | int {off : Nat} {f : Field} {fs : List Field} {k k' : IntKind} {a b : Int} {xs ys : List AV} {r : Bool} (hu : P.underlying f.type = some (.int k')) (hag : ∀ w, (isAgg f.type).run P w = .ok false w) (ho : f.offset = off) (hn : f.name ≠ "_") (h : EqFs P (off + 1) fs xs ys r) :
   EqFs P off (f :: fs) (.v (.int k a) :: xs) (.v (.int k b) :: ys) (decide (a = b) && r)
 | str {off : Nat} {f : Field} {fs : List Field} {a b : ByteArray} {xs ys : List AV} {r : Bool} (hu : P.underlying f.type = some .string) (hag : ∀ w, (isAgg f.type).run P w = .ok false w) (ho : f.offset = off) (hn : f.name ≠ "_") (h : EqFs P (off + 1) fs xs ys r) :
   EqFs P off (f :: fs) (.v (.string a) :: xs) (.v (.string b) :: ys) (sEq a b && r)
 | bool {off : Nat} {f : Field} {fs : List Field} {a b : Bool} {xs ys : List AV} {r : Bool} (hu : P.underlying f.type = some .bool) (hag : ∀ w, (isAgg f.type).run P w = .ok false w) (ho : f.offset = off) (hn : f.name ≠ "_") (h : EqFs P (off + 1) fs xs ys r) :
   EqFs P off (f :: fs) (.v (.bool a) :: xs) (.v (.bool b) :: ys) ((a == b) && r)

theorem EqFs.run {P : Program} {w : World} {Z : Nat → Prop} {us vs : Array Value} {d : Nat} : ∀ {off : Nat} {fs : List Field} {xs ys : List AV} {r : Bool}, EqFs P off fs xs ys r →
  (∀ j, (h : j < xs.length) → off + j < us.size ∧ Rep w Z xs[j] (us.getD (off + j) undef)) → (∀ j, (h : j < ys.length) → off + j < vs.size ∧ Rep w Z ys[j] (vs.getD (off + j) undef)) → ∀ w', (Op.eqFields (d + 1) us vs fs).run P w' = .ok r w' := by
 intro off fs xs ys r h
 have cellP : ∀ (t : TypeId) (us : Array Value) (off : Nat) (v : Value) (w' : World), (∀ w, (isAgg t).run P w = .ok false w) → off < us.size → us.getD off undef = v → (part t us off).run P w' = .ok v w' := fun t us off v w' hag hl hv => by
  have : us[off]? = some v := by rw [← hv, Array.getD_eq_getD_getElem?, Array.getElem?_eq_getElem hl]; rfl
  simp [part, hag, this]
 have sh : ∀ n j : Nat, n + (j + 1) = n + 1 + j := fun n j => by omega
 induction h with
 | nil off => intro _ _ w'; rfl
 | int hu hag ho hn h ih =>
  intro h1 h2 w'
  obtain ⟨k1, k2⟩ := h1 0 (by simp)
  obtain ⟨k3, k4⟩ := h2 0 (by simp)
  subst ho
  have e1 := cellP _ us _ _ w' hag k1 k2.eq_v
  have e2 := cellP _ vs _ _ w' hag k3 k4.eq_v
  have ih' := ih (fun j hj => by have := h1 (j + 1) (by simpa using hj); rw [sh] at this; exact this) (fun j hj => by have := h2 (j + 1) (by simpa using hj); rw [sh] at this; exact this) w'
  simp only [Nat.add_zero] at e1 e2
  rename_i a b _ _ _
  have e3 := fun k => run_equalIn_int (P := P) w' d _ k _ a b hu
  simp only [Op.eqFields, hn, ne_eq, not_false_eq_true, if_true, Sem.run_bind, e1, e2, e3, Result.andThen_ok]
  by_cases hab : a = b
  ·subst hab; simpa using ih'
  ·simp [hab]
 | str hu hag ho hn h ih =>
  intro h1 h2 w'
  obtain ⟨k1, k2⟩ := h1 0 (by simp)
  obtain ⟨k3, k4⟩ := h2 0 (by simp)
  subst ho
  have e1 := cellP _ us _ _ w' hag k1 k2.eq_v
  have e2 := cellP _ vs _ _ w' hag k3 k4.eq_v
  have ih' := ih (fun j hj => by have := h1 (j + 1) (by simpa using hj); rw [sh] at this; exact this) (fun j hj => by have := h2 (j + 1) (by simpa using hj); rw [sh] at this; exact this) w'
  simp only [Nat.add_zero] at e1 e2
  rename_i a b _ _ _
  have e3 := run_equalIn_string (P := P) w' d _ a b hu
  simp only [Op.eqFields, hn, ne_eq, not_false_eq_true, if_true, Sem.run_bind, e1, e2, e3, Result.andThen_ok]
  cases hab : sEq a b with
  | true => unfold sEq at hab; rw [hab]; simpa using ih'
  | false => unfold sEq at hab; rw [hab]; simp
 | bool hu hag ho hn h ih =>
  intro h1 h2 w'
  obtain ⟨k1, k2⟩ := h1 0 (by simp)
  obtain ⟨k3, k4⟩ := h2 0 (by simp)
  subst ho
  have e1 := cellP _ us _ _ w' hag k1 k2.eq_v
  have e2 := cellP _ vs _ _ w' hag k3 k4.eq_v
  have ih' := ih (fun j hj => by have := h1 (j + 1) (by simpa using hj); rw [sh] at this; exact this) (fun j hj => by have := h2 (j + 1) (by simpa using hj); rw [sh] at this; exact this) w'
  simp only [Nat.add_zero] at e1 e2
  rename_i a b _ _ _
  have e3 := run_equalIn_bool' (P := P) w' d _ a b hu
  simp only [Op.eqFields, hn, ne_eq, not_false_eq_true, if_true, Sem.run_bind, e1, e2, e3, Result.andThen_ok]
  cases hab : (a == b) with
  | true => simpa using ih'
  | false => simp

section
variable {P : Program} {B : Bs} {W : Nat → Prop} {s : St'} {o : Oper}
theorem agg_eq {w : World} {Z : Nat → Prop} {t : TypeId} {xs ys : List AV} {u v : Value} {r : Bool} (hu : P.underlying t = some (.struct (P.fieldsOf t))) (hs : P.stoodInHeld t = false) (h : EqFs P 0 (P.fieldsOf t).toList xs ys r) (hx : Rep w Z (.agg xs) u) (hy : Rep w Z (.agg ys) v) :
  ∃ us vs, u = .agg us ∧ v = .agg vs ∧ ∀ w', (Op.equalIn 10000 t u v).run P w' = .ok r w' := by
 cases hx with
 | agg _ us l1 r1 =>
  cases hy with
  | agg _ vs l2 r2 =>
   refine ⟨us, vs, rfl, rfl, fun w' => ?_⟩
   rw [run_equalIn_struct w' 9999 t us vs hu hs]
   exact h.run (w := w) (Z := Z) (fun j hj => ⟨by omega, by rw [Nat.zero_add]; exact r1 j hj⟩) (fun j hj => ⟨by omega, by rw [Nat.zero_add]; exact r2 j hj⟩) w'
end
end Go.Proofs.YtmahammdnmmmoaaGreatDoor
namespace Go.Proofs.YtmahammdnmmmoaaGreatDoor
open Go.RowKit
set_option linter.unusedVariables false
set_option linter.unusedSimpArgs false
abbrev kv2 : ByteArray × ByteArray → Value := fun k => .agg #[.string k.1, .string k.2]
theorem sEq_dec (a b : ByteArray) : sEq a b = decide (a = b) := by
 by_cases h : a = b
 ·rw [decide_eq_true h]; exact sEq_eq.2 h
 ·rw [decide_eq_false h]
  cases e : sEq a b with
  | false => rfl
  | true => exact absurd (sEq_eq.1 e) h
section
variable {P : Program} {kt : TypeId} {f1 f2 : Field} (hu : P.underlying kt = some (.struct (P.fieldsOf kt))) (hs : P.stoodInHeld kt = false) (hf : P.fieldsOf kt = #[f1, f2]) (h1 : P.underlying f1.type = some .string) (h2 : P.underlying f2.type = some .string)
 (a1 : ∀ w, (isAgg f1.type).run P w = .ok false w) (a2 : ∀ w, (isAgg f2.type).run P w = .ok false w) (o1 : f1.offset = 0) (o2 : f2.offset = 1) (n1 : f1.name ≠ "_") (n2 : f2.name ≠ "_")
include hu hs hf h1 h2 a1 a2 o1 o2 n1 n2
theorem key2_eq (k k' : ByteArray × ByteArray) (w : World) : (Op.equal kt (kv2 k) (kv2 k')).run P w = .ok (decide (k = k')) w := by
 have hE : EqFs P 0 (P.fieldsOf kt).toList [avS k.1, avS k.2] [avS k'.1, avS k'.2] (sEq k.1 k'.1 && (sEq k.2 k'.2 && true)) := by
  rw [hf]
  exact EqFs.str h1 a1 o1 n1 (EqFs.str h2 a2 o2 n2 (EqFs.nil _))
 have rep : ∀ q : ByteArray × ByteArray, Rep w (fun _ => True) (.agg [avS q.1, avS q.2]) (kv2 q) := fun q => .agg _ _ rfl fun j hj => by
  match j, hj with
  | 0, _ => exact .v _
  | 1, _ => exact .v _
 obtain ⟨us, vs, e1, e2, e3⟩ := agg_eq hu hs hE (rep k) (rep k')
 have := e3 w
 have e4 : (sEq k.1 k'.1 && (sEq k.2 k'.2 && true)) = decide (k = k') := by
  rw [sEq_dec, sEq_dec, Bool.and_true]
  obtain ⟨a, b⟩ := k
  obtain ⟨c, d⟩ := k'
  simp [Prod.mk.injEq]
 rw [e4] at this
 exact this
theorem asking2 {α : Type} : ∀ (l : List ((ByteArray × ByteArray) × α)) (c : List MapEntry) (k : ByteArray × ByteArray) (w : World) (i : Nat), c.length = l.length → (∀ j (h : j < l.length), ∃ e, c[j]? = some e ∧ e.key = kv2 (l[j]).1) →
  (Instr.findAsking kt (kv2 k) c i).run P w = .ok (if mpos l k < l.length then (c[mpos l k]?).map fun e => (i + mpos l k, e.val) else none) w
 | [], c, k, w, i, hl, h => by
  have : c = [] := List.eq_nil_of_length_eq_zero (by simpa using hl)
  subst this; rfl
 | p :: r, [], k, w, i, hl, h => by simp at hl
 | p :: r, e :: c, k, w, i, hl, h => by
  obtain ⟨e0, g1, g2⟩ := h 0 (by simp)
  simp at g1 g2
  subst g1
  have hq := key2_eq hu hs hf h1 h2 a1 a2 o1 o2 n1 n2 k p.1 w
  simp only [Instr.findAsking, Sem.run_bind, g2, hq, Result.andThen_ok]
  by_cases ek : k = p.1
  ·simp [mpos, ek]
  ·simp only [ek, decide_false, Bool.false_eq_true, if_false]
   rw [asking2 r c k w (i + 1) (by simpa using hl) (fun j hj => h (j + 1) (Nat.succ_lt_succ hj))]
   simp only [mpos, if_neg ek, List.length_cons, Nat.add_lt_add_iff_right, List.getElem?_cons_succ]
   rw [show i + 1 + mpos r k = i + (mpos r k + 1) by omega]
omit hs in
theorem check2 (e : Bool) (n : Nat) (k : ByteArray × ByteArray) (w : World) : (Instr.checkKey e (n + 1 + 1) kt (kv2 k)).run P w = .ok () w := by
 have q1 : ∀ s w, (Instr.checkKey e (n + 1) f1.type (.string s)).run P w = .ok () w := fun s w => by
  rw [Instr.checkKey]; simp only [Sem.run_bind, run_underlying h1, Result.andThen_ok, Sem.run_pure]
 have q2 : ∀ s w, (Instr.checkKey e (n + 1) f2.type (.string s)).run P w = .ok () w := fun s w => by
  rw [Instr.checkKey]; simp only [Sem.run_bind, run_underlying h2, Result.andThen_ok, Sem.run_pure]
 have hu' := hu
 rw [hf] at hu'
 rw [Instr.checkKey]
 simp only [kv2, Sem.run_bind, run_underlying hu', Result.andThen_ok]
 simp [n1, n2, o1, o2, part, a1, a2, q1, q2]
theorem KeyOk.str2 : KeyOk P kt kv2 where
 check e k w := by
  rw [show (10000 : Nat) = 9998 + 1 + 1 from rfl]
  exact check2 hu hf h1 h2 a1 a2 o1 o2 n1 n2 e 9998 k w
 find l c k w hl h := by
  have hu' := hu
  rw [hf] at hu'
  cases c with
  | nil =>
   have : l = [] := List.eq_nil_of_length_eq_zero (by simpa using hl.symm)
   subst this
   simp [Instr.findKey, run_underlying hu', Instr.findNow, mpos]
  | cons e c =>
   have := asking2 hu hs hf h1 h2 a1 a2 o1 o2 n1 n2 l (e :: c) k w 0 hl h
   simp only [Nat.zero_add] at this
   simp only [Instr.findKey, Sem.run_bind, run_underlying hu', Result.andThen_ok, Instr.findNow, Instr.sameNow]
   exact this
 stay k w := by
  have : Instr.sameBits 10000 (kv2 k) (kv2 k) = true := by
   rw [show (10000 : Nat) = 9999 + 1 from rfl]
   simp [kv2, Instr.sameBits]
  simp [Instr.keyThatStays, this]
end
end Go.Proofs.YtmahammdnmmmoaaGreatDoor
namespace Go.Proofs.YtmahammdnmmmoaaGreatDoor
open Go.RowKit
set_option linter.unusedVariables false
set_option linter.unusedSimpArgs false

structure PaceS where
 product : ByteArray
 cycle : Int
 needs : List NeedS
instance : Inhabited PaceS := ⟨⟨ByteArray.empty, 0, []⟩⟩
instance : Sxc PaceS where
 k := 3
 pos := by decide
 cell m j := match j with
  | 0 => avS m.product
  | 1 => avI m.cycle
  | 2 => avL m.needs
  | _ => .any
structure OrdrS where
 key : ByteArray
 product : ByteArray
 count : Int
 ready : Int
 due : Int
instance : Inhabited OrdrS := ⟨⟨ByteArray.empty, ByteArray.empty, 0, 0, 0⟩⟩
instance : Sxc OrdrS where
 k := 5
 pos := by decide
 cell m j := match j with
  | 0 => avS m.key
  | 1 => avS m.product
  | 2 => avI m.count
  | 3 => avI m.ready
  | 4 => avI m.due
  | _ => .any
structure WinS where
 fr : Int
 to : Int
instance : Inhabited WinS := ⟨⟨0, 0⟩⟩
instance : Sxc WinS where
 k := 2
 pos := by decide
 cell m j := match j with
  | 0 => avI m.fr
  | 1 => avI m.to
  | _ => .any
abbrev avPc (x : PaceS) : AV := .agg [avS x.product, avI x.cycle, avL x.needs]
abbrev avOr (x : OrdrS) : AV := .agg [avS x.key, avS x.product, avI x.count, avI x.ready, avI x.due]
structure SmPc (p : List PaceS) : Prop where
 len : p.length ≤ 1000000
 prod : ∀ i, (p.getD i default).product.size ≤ 1000000
 nlen : ∀ i, (p.getD i default).needs.length ≤ 1000000
 nkey : ∀ i j, ((p.getD i default).needs.getD j default).key.size ≤ 1000000
structure SmOr (o : List OrdrS) : Prop where
 len : o.length ≤ 1000000
 key : ∀ i, (o.getD i default).key.size ≤ 1000000
 prod : ∀ i, (o.getD i default).product.size ≤ 1000000
def paceE (p : List PaceS) (i : Nat) : Int :=
 if keyF (p.getD i default).product = false then 5
 else if (decide (0 < i) && sLe (p.getD i default).product (p.getD (i - 1) default).product) = true then 7
 else if outR (p.getD i default).cycle 1 10000000 = true then 1
 else needsF (p.getD i default).needs 1 1000
def paceF (p : List PaceS) : Int := if 200 < p.length then 2 else firstE (paceE p) p.length
def ordrE (o : List OrdrS) (i : Nat) : Int :=
 if (keyF (o.getD i default).key && keyF (o.getD i default).product) = false then 5
 else if (outR (o.getD i default).count 1 100000 || (outR (o.getD i default).ready 0 345686399999 || outR (o.getD i default).due 0 345686399999)) = true then 1
 else if (decide (0 < i) && sLe (o.getD i default).key (o.getD (i - 1) default).key) = true then 7
 else 0
def ordrF (o : List OrdrS) : Int := if 200 < o.length then 2 else firstE (ordrE o) o.length
section
variable {p : List PaceS} {i : Nat}
theorem paceE_5 (h : keyF (p.getD i default).product = false) : paceE p i = 5 := by rw [paceE, if_pos h]
theorem paceE_7 (h : keyF (p.getD i default).product = true) (hi : 0 < i) (hs : sLe (p.getD i default).product (p.getD (i - 1) default).product = true) : paceE p i = 7 := by
 rw [paceE, if_neg (by rw [h]; simp), if_pos (by rw [hs, decide_eq_true hi]; rfl)]
theorem paceE_x (h : keyF (p.getD i default).product = true) (hs : i = 0 ∨ sLe (p.getD i default).product (p.getD (i - 1) default).product = false) :
  paceE p i = if outR (p.getD i default).cycle 1 10000000 = true then 1 else needsF (p.getD i default).needs 1 1000 := by
 rw [paceE, if_neg (by rw [h]; simp), if_neg]
 rcases hs with rfl | hs
 ·simp
 ·rw [hs]; simp
theorem paceE_1 (h : keyF (p.getD i default).product = true) (hs : i = 0 ∨ sLe (p.getD i default).product (p.getD (i - 1) default).product = false) (ho : outR (p.getD i default).cycle 1 10000000 = true) : paceE p i = 1 := by rw [paceE_x h hs, if_pos ho]
theorem paceE_n (h : keyF (p.getD i default).product = true) (hs : i = 0 ∨ sLe (p.getD i default).product (p.getD (i - 1) default).product = false) (ho : outR (p.getD i default).cycle 1 10000000 = false) : paceE p i = needsF (p.getD i default).needs 1 1000 := by rw [paceE_x h hs, if_neg (by rw [ho]; simp)]
theorem paceF_2 (h : 200 < p.length) : paceF p = 2 := by rw [paceF, if_pos h]
theorem paceF_at (h : p.length ≤ 200) {q : Nat} (hq : q < p.length) (hn : ∀ j, j < q → paceE p j = 0) {e : Int} (he : paceE p q = e) (h0 : e ≠ 0) : paceF p = e := by
 rw [paceF, if_neg (by omega), firstE_found hn (by rw [he]; exact h0) hq, he]
theorem paceF_ok (h : p.length ≤ 200) (hn : ∀ j, j < p.length → paceE p j = 0) : paceF p = 0 := by rw [paceF, if_neg (by omega), firstE_none hn]
end
section
variable {o : List OrdrS} {i : Nat}
theorem ordrE_5a (h : keyF (o.getD i default).key = false) : ordrE o i = 5 := by rw [ordrE, if_pos (by rw [h]; rfl)]
theorem ordrE_5b (h : keyF (o.getD i default).product = false) : ordrE o i = 5 := by rw [ordrE, if_pos (by rw [h, Bool.and_false])]
theorem ordrE_1 (h1 : keyF (o.getD i default).key = true) (h2 : keyF (o.getD i default).product = true) (ho : (outR (o.getD i default).count 1 100000 || (outR (o.getD i default).ready 0 345686399999 || outR (o.getD i default).due 0 345686399999)) = true) : ordrE o i = 1 := by
 rw [ordrE, if_neg (by rw [h1, h2]; simp), if_pos ho]
theorem ordrE_7 (h1 : keyF (o.getD i default).key = true) (h2 : keyF (o.getD i default).product = true) (ho : (outR (o.getD i default).count 1 100000 || (outR (o.getD i default).ready 0 345686399999 || outR (o.getD i default).due 0 345686399999)) = false) (hi : 0 < i) (hs : sLe (o.getD i default).key (o.getD (i - 1) default).key = true) : ordrE o i = 7 := by
 rw [ordrE, if_neg (by rw [h1, h2]; simp), if_neg (by rw [ho]; simp), if_pos (by rw [hs, decide_eq_true hi]; rfl)]
theorem ordrE_0 (h1 : keyF (o.getD i default).key = true) (h2 : keyF (o.getD i default).product = true) (ho : (outR (o.getD i default).count 1 100000 || (outR (o.getD i default).ready 0 345686399999 || outR (o.getD i default).due 0 345686399999)) = false) (hs : i = 0 ∨ sLe (o.getD i default).key (o.getD (i - 1) default).key = false) : ordrE o i = 0 := by
 rw [ordrE, if_neg (by rw [h1, h2]; simp), if_neg (by rw [ho]; simp), if_neg]
 rcases hs with rfl | hs
 ·simp
 ·rw [hs]; simp
theorem ordrF_2 (h : 200 < o.length) : ordrF o = 2 := by rw [ordrF, if_pos h]
theorem ordrF_at (h : o.length ≤ 200) {q : Nat} (hq : q < o.length) (hn : ∀ j, j < q → ordrE o j = 0) {e : Int} (he : ordrE o q = e) (h0 : e ≠ 0) : ordrF o = e := by
 rw [ordrF, if_neg (by omega), firstE_found hn (by rw [he]; exact h0) hq, he]
theorem ordrF_ok (h : o.length ≤ 200) (hn : ∀ j, j < o.length → ordrE o j = 0) : ordrF o = 0 := by rw [ordrF, if_neg (by omega), firstE_none hn]
end
def hasP (p : List PaceS) (k : ByteArray) : Bool := p.any fun x => sEq x.product k
def paceO (p : List PaceS) (k : ByteArray) : PaceS := (p.find? fun x => sEq x.product k).getD default
def bothF (p : List PaceS) (o : List OrdrS) : Int :=
 if paceF p ≠ 0 then paceF p else if ordrF o ≠ 0 then ordrF o else if o.all (fun x => hasP p x.product) = true then 0 else 8
theorem bothF_1 {p : List PaceS} {o : List OrdrS} (h : paceF p ≠ 0) : bothF p o = paceF p := by rw [bothF, if_pos h]
theorem bothF_2 {p : List PaceS} {o : List OrdrS} (h : paceF p = 0) (h2 : ordrF o ≠ 0) : bothF p o = ordrF o := by rw [bothF, if_neg (by omega), if_pos h2]
theorem bothF_3 {p : List PaceS} {o : List OrdrS} (h : paceF p = 0) (h2 : ordrF o = 0) : bothF p o = if o.all (fun x => hasP p x.product) = true then 0 else 8 := by rw [bothF, if_neg (by omega), if_neg (by omega)]
theorem bothF_0 {p : List PaceS} {o : List OrdrS} (h : bothF p o = 0) : paceF p = 0 ∧ ordrF o = 0 ∧ o.all (fun x => hasP p x.product) = true := by
 unfold bothF at h
 split at h
 ·contradiction
 ·split at h
  ·contradiction
  ·split at h
   ·rename_i h1 h2 h3; exact ⟨by simpa using h1, by simpa using h2, h3⟩
   ·cases h
structure PacesOk (p : List PaceS) : Prop where
 len : p.length ≤ 200
 all : ∀ j, j < p.length → paceE p j = 0
theorem pacesOk {p : List PaceS} (h : paceF p = 0) : PacesOk p := by
 unfold paceF at h
 split at h
 ·cases h
 ·exact ⟨by omega, firstE_zero h⟩
structure OrdrsOk (o : List OrdrS) : Prop where
 len : o.length ≤ 200
 all : ∀ j, j < o.length → ordrE o j = 0
theorem ordrsOk {o : List OrdrS} (h : ordrF o = 0) : OrdrsOk o := by
 unfold ordrF at h
 split at h
 ·cases h
 ·exact ⟨by omega, firstE_zero h⟩
theorem paceE_zero {p : List PaceS} {i : Nat} (h : paceE p i = 0) : keyF (p.getD i default).product = true ∧ (0 < i → sLe (p.getD i default).product (p.getD (i - 1) default).product = false) ∧ (1 ≤ (p.getD i default).cycle ∧ (p.getD i default).cycle ≤ 10000000) ∧ needsF (p.getD i default).needs 1 1000 = 0 := by
 unfold paceE at h
 split at h
 ·cases h
 ·rename_i h1
  split at h
  ·cases h
  ·rename_i h2
   split at h
   ·cases h
   ·rename_i h3
    refine ⟨by simpa using h1, fun hi => ?_, ?_, h⟩
    ·rw [decide_eq_true hi, Bool.true_and] at h2
     simpa using h2
    ·simp only [outR, Bool.or_eq_true, decide_eq_true_eq, not_or] at h3
     omega
theorem ordrE_zero {o : List OrdrS} {i : Nat} (h : ordrE o i = 0) : (keyF (o.getD i default).key = true ∧ keyF (o.getD i default).product = true) ∧ (0 < i → sLe (o.getD i default).key (o.getD (i - 1) default).key = false) ∧ (1 ≤ (o.getD i default).count ∧ (o.getD i default).count ≤ 100000) ∧ (0 ≤ (o.getD i default).ready ∧ (o.getD i default).ready ≤ 345686399999) ∧ (0 ≤ (o.getD i default).due ∧ (o.getD i default).due ≤ 345686399999) := by
 unfold ordrE at h
 split at h
 ·cases h
 ·rename_i h1
  split at h
  ·cases h
  ·rename_i h2
   split at h
   ·cases h
   ·rename_i h3
    have h1' : (keyF (o.getD i default).key && keyF (o.getD i default).product) = true := by simpa using h1
    rw [Bool.and_eq_true] at h1'
    simp only [outR, Bool.or_eq_true, decide_eq_true_eq, not_or] at h2
    refine ⟨h1', fun hi => ?_, by omega, by omega, by omega⟩
    rw [decide_eq_true hi, Bool.true_and] at h3
    simpa using h3
def chgN (a b : List NeedS) (q : Nat) : Nat := ((b.take q).filter fun x => !(a.any fun y => sEq y.key x.key)).length
theorem chgN_le (a b : List NeedS) (q : Nat) : chgN a b q ≤ b.length := by
 unfold chgN
 have := List.length_filter_le (fun x => !(a.any fun y => sEq y.key x.key)) (b.take q)
 rw [List.length_take] at this
 omega
theorem chgN_t {a b : List NeedS} {q : Nat} (h : q < b.length) (hx : a.any (fun y => sEq y.key (b.getD q default).key) = false) : chgN a b (q + 1) = chgN a b q + 1 := by
 unfold chgN
 rw [List.take_add_one, List.getElem?_eq_getElem h, List.filter_append, List.length_append]
 have : b.getD q default = b[q] := by rw [List.getD_eq_getElem?_getD, List.getElem?_eq_getElem h]; rfl
 rw [this] at hx
 simp [hx]
theorem chgN_f {a b : List NeedS} {q : Nat} (h : q < b.length) (hx : a.any (fun y => sEq y.key (b.getD q default).key) = true) : chgN a b (q + 1) = chgN a b q := by
 unfold chgN
 rw [List.take_add_one, List.getElem?_eq_getElem h, List.filter_append, List.length_append]
 have : b.getD q default = b[q] := by rw [List.getD_eq_getElem?_getD, List.getElem?_eq_getElem h]; rfl
 rw [this] at hx
 simp [hx]
def chgI (a b : PaceS) (each : Int) : Int := each * (chgN a.needs b.needs b.needs.length : Int)
def schF (n : Nat) (l : List Int) : Int := if l.length = n ∧ l.Nodup ∧ (∀ x ∈ l, 0 ≤ x ∧ x < n) then 0 else 3
def startF (start each : Int) : Int := if (outR start 0 345686399999 || outR each 0 10000000) = true then 1 else 0
def scheF (p : List PaceS) (o : List OrdrS) (l : List Int) (start each : Int) : Int :=
 if bothF p o ≠ 0 then bothF p o else if schF o.length l ≠ 0 then schF o.length l else startF start each
def longO (p : List PaceS) (x : OrdrS) : Int := (paceO p x.product).cycle * x.count
def turnO (p : List PaceS) (each : Int) (x y : OrdrS) : Int := chgI (paceO p x.product) (paceO p y.product) each
structure ResS where
 late : Int
 many : Int
 en : Int
section
variable (p : List PaceS) (o : List OrdrS) (l : List Int) (start each : Int)
abbrev orA (i : Int) : OrdrS := o.getD i.toNat default
def endP : Nat → Int
 | 0 => max start (orA o (l.getD 0 0)).ready + longO p (orA o (l.getD 0 0))
 | q + 1 => max (endP q + turnO p each (orA o (l.getD q 0)) (orA o (l.getD (q + 1) 0))) (orA o (l.getD (q + 1) 0)).ready + longO p (orA o (l.getD (q + 1) 0))
def fromP : Nat → Int
 | 0 => max start (orA o (l.getD 0 0)).ready
 | q + 1 => max (endP p o l start each q + turnO p each (orA o (l.getD q 0)) (orA o (l.getD (q + 1) 0))) (orA o (l.getD (q + 1) 0)).ready
def winP (q : Nat) : WinS := ⟨fromP p o l start each q, endP p o l start each q⟩
theorem endP_from (q : Nat) : endP p o l start each q = fromP p o l start each q + longO p (orA o (l.getD q 0)) := by cases q <;> rfl
def resP : Nat → ResS
 | 0 => ⟨0, 0, start⟩
 | q + 1 => if (orA o (l.getD q 0)).due < endP p o l start each q
   then ⟨(resP q).late + (endP p o l start each q - (orA o (l.getD q 0)).due), (resP q).many + 1, endP p o l start each q⟩
   else ⟨(resP q).late, (resP q).many, endP p o l start each q⟩
theorem resP_en (q : Nat) : (resP p o l start each (q + 1)).en = endP p o l start each q := by rw [resP]; split <;> rfl
def timesQ : Nat → List WinS
 | 0 => List.replicate o.length default
 | q + 1 => (timesQ q).set (l.getD q 0).toNat (winP p o l start each q)
theorem timesQ_len (q : Nat) : (timesQ p o l start each q).length = o.length := by
 induction q with
 | zero => simp [timesQ]
 | succ q ih => simp [timesQ, ih]
end
end Go.Proofs.YtmahammdnmmmoaaGreatDoor
namespace Go.Proofs.YtmahammdnmmmoaaGreatDoor
open Go.RowKit
set_option linter.unusedVariables false
set_option linter.unusedSimpArgs false

theorem tab_ints (xs : List Int) : tab (xs.length * 1) (fun j => avI (xs.getD j 0)) = intsL xs := by
 apply List.ext_getElem (by rw [tab_len, intsL_len, Nat.mul_one])
 intro i h1 h2
 rw [tab_get]
 rw [intsL_len] at h2
 simp [intsL, h2]
theorem tab_strs (xs : List ByteArray) : tab (xs.length * 1) (fun j => avS (xs.getD j ByteArray.empty)) = strsL xs := by
 apply List.ext_getElem (by rw [tab_len, strsL_len, Nat.mul_one])
 intro i h1 h2
 rw [tab_get]
 rw [strsL_len] at h2
 simp [strsL, h2]
theorem tab_L {α : Type} [Inhabited α] [Sxc α] (xs : List α) : tab (xs.length * Sxc.k α) (fun q => Sxc.cell (xs.getD (q / Sxc.k α) default) (q % Sxc.k α)) = rowL xs := by
 have hp := Sxc.pos (α := α)
 apply List.ext_getElem?
 intro i
 by_cases hi : i < xs.length * Sxc.k α
 ·have hd : i / Sxc.k α < xs.length := (Nat.div_lt_iff_lt_mul hp).2 hi
  have := rowL_get xs (i / Sxc.k α) (i % Sxc.k α) hd (Nat.mod_lt _ hp)
  rw [Nat.div_add_mod' i (Sxc.k α)] at this
  rw [this, List.getElem?_eq_getElem (by rw [tab_len]; exact hi), tab_get]
 ·rw [List.getElem?_eq_none (by rw [tab_len]; omega), List.getElem?_eq_none (by rw [rowL_len]; omega)]
set_option maxRecDepth 100000 in
theorem slices_Clone_R {xs : List Int} (hl : xs.length ≤ 1000000000) :
  SpecR Tryz.prog 120 [avInts xs] xs.length 1 (intsL xs) 3 := by
 refine SpecR.of_VC Tryz.func120 rfl Tryz.ntmps120 (Nle rfl) (by first | exact flat_ints _ | exact flat_strs _ | exact flat_bools _) fun w A hB => ?_
 have hnew : True := trivial
 refine VC.sr ?_
 refine VO.ma rfl rfl rfl rfl ?_
 refine VO.nil ?_
 refine VC.seq ?_
 refine VC.sr ?_
 refine VO.mv rfl rfl rfl rfl ?_
 refine VO.op rfl (OpE.eqNil rfl rfl Tryz.underlying22 rfl ?_)
 intro b4 hb4
 refine VO.nil ?_
 refine VC.cond rfl (fun h0b => ?_) (fun h0b => ?_)
 ·have h0 := h0b
  try simp only [qqT, qqF, qqN, qqM, qqL, qqE] at h0
  refine VC.sr ?_
  refine VO.ma rfl rfl rfl rfl ?_
  refine VO.nil ?_
  obtain rfl : xs = [] := List.eq_nil_of_length_eq_zero (hb4 h0)
  refine VC.le _ (Le.nilRow 1 3) ?_
  refine VC.ret ?_
  exact Exists.intro _ (And.intro (RetV.one Tryz.results120 (ResV.tmp rfl)) (⟨_, rfl, List.Mem.head _⟩))
 ·have h0 := h0b
  try simp only [qqT, qqF, qqN, qqM, qqL, qqE] at h0
  refine VC.skip ?_
  refine VC.sr ?_
  refine VO.op rfl (OpE.buildSlice0 rfl hB rfl Tryz.underlying22 Tryz.sizeOf3 ?_)
  intro g5
  refine VO.mv rfl rfl rfl rfl ?_
  refine VO.op rfl (OpE.appendP (i := 0) rfl hB rfl Tryz.underlying22 (infoOf Tryz.t3 1 (by kernel_rfl) rfl rfl) rfl (by decide) (by decide) rfl rfl (.im rfl) (fun _ _ => rfl) (by omega) (tab_ints xs) (fun _ _ => trivial) ?_)
  intro u7
  refine VO.ma rfl rfl rfl rfl ?_
  refine VO.nil ?_
  rw [Nat.zero_add]
  refine VC.ret ?_
  exact Exists.intro _ (And.intro (RetV.one Tryz.results120 (ResV.tmp rfl)) (⟨_, rfl, List.Mem.head _⟩))
set_option maxRecDepth 100000 in
theorem slices_CloneS_R {xs : List ByteArray} (hl : xs.length ≤ 1000000000) :
  SpecR Tryz.prog 185 [avStrs xs] xs.length 1 (strsL xs) 9 := by
 refine SpecR.of_VC Tryz.func185 rfl Tryz.ntmps185 (Nle rfl) (by first | exact flat_ints _ | exact flat_strs _ | exact flat_bools _) fun w A hB => ?_
 have hnew : True := trivial
 refine VC.sr ?_
 refine VO.ma rfl rfl rfl rfl ?_
 refine VO.nil ?_
 refine VC.seq ?_
 refine VC.sr ?_
 refine VO.mv rfl rfl rfl rfl ?_
 refine VO.op rfl (OpE.eqNil rfl rfl Tryz.underlying95 rfl ?_)
 intro b4 hb4
 refine VO.nil ?_
 refine VC.cond rfl (fun h0b => ?_) (fun h0b => ?_)
 ·have h0 := h0b
  try simp only [qqT, qqF, qqN, qqM, qqL, qqE] at h0
  refine VC.sr ?_
  refine VO.ma rfl rfl rfl rfl ?_
  refine VO.nil ?_
  obtain rfl : xs = [] := List.eq_nil_of_length_eq_zero (hb4 h0)
  refine VC.le _ (Le.nilRow 1 9) ?_
  refine VC.ret ?_
  exact Exists.intro _ (And.intro (RetV.one Tryz.results185 (ResV.tmp rfl)) (⟨_, rfl, List.Mem.head _⟩))
 ·have h0 := h0b
  try simp only [qqT, qqF, qqN, qqM, qqL, qqE] at h0
  refine VC.skip ?_
  refine VC.sr ?_
  refine VO.op rfl (OpE.buildSlice0 rfl hB rfl Tryz.underlying95 Tryz.sizeOf9 ?_)
  intro g5
  refine VO.mv rfl rfl rfl rfl ?_
  refine VO.op rfl (OpE.appendP (i := 0) rfl hB rfl Tryz.underlying95 (infoOf Tryz.t9 1 (by kernel_rfl) rfl rfl) rfl (by decide) (by decide) rfl rfl (.im rfl) (fun _ _ => rfl) (by omega) (tab_strs xs) (fun _ _ => trivial) ?_)
  intro u7
  refine VO.ma rfl rfl rfl rfl ?_
  refine VO.nil ?_
  rw [Nat.zero_add]
  refine VC.ret ?_
  exact Exists.intro _ (And.intro (RetV.one Tryz.results185 (ResV.tmp rfl)) (⟨_, rfl, List.Mem.head _⟩))
end Go.Proofs.YtmahammdnmmmoaaGreatDoor
namespace Go.Proofs.YtmahammdnmmmoaaGreatDoor
open Go.RowKit
set_option linter.unusedVariables false
set_option linter.unusedSimpArgs false
set_option maxRecDepth 100000 in
theorem slices_Index_int {xs : List Int} {v : Int} (hl : xs.length ≤ 1000000000) :
  SpecN Tryz.prog 309 [avInts xs, avI v] (fun y => y = avI (fidx (fun x => decide (v = x)) xs)) := by
 refine SpecN.of_VCN Tryz.func309 rfl Tryz.ntmps309 (Nle rfl) fun w A hB => ?_
 have hnew : True := trivial
 refine VC.sr ?_
 refine VO.ma rfl rfl rfl rfl ?_
 refine VO.nil ?_
 refine VC.seq ?_
 refine VC.sr ?_
 refine VO.mv rfl rfl rfl rfl ?_
 refine VO.val rfl rfl (OpV.len_im rfl Tryz.underlying22 rfl) ?_
 refine VO.mv rfl rfl rfl rfl ?_
 refine VO.nil ?_
 refine VC.block ?_
 refine VC.loopK [] trivial ({q : Nat // q ≤ xs.length ∧ ∀ j, j < q → decide (v = xs.getD j 0) = false}) (fun (iZ : {q : Nat // q ≤ xs.length ∧ ∀ j, j < q → decide (v = xs.getD j 0) = false}) => match iZ with | ⟨q, hq, hn⟩ => [(0, avInts xs), (1, avI v), (6, avInts xs), (7, avI xs.length), (8, avI (q : Int))]) (fun (iZ : {q : Nat // q ≤ xs.length ∧ ∀ j, j < q → decide (v = xs.getD j 0) = false}) => match iZ with | ⟨q, hq, hn⟩ => []) (fun (iZ : {q : Nat // q ≤ xs.length ∧ ∀ j, j < q → decide (v = xs.getD j 0) = false}) => match iZ with | ⟨q, hq, hn⟩ => 0) (fun (iZ : {q : Nat // q ≤ xs.length ∧ ∀ j, j < q → decide (v = xs.getD j 0) = false}) => match iZ with | ⟨q, hq, hn⟩ => xs.length - q) ⟨0, Nat.zero_le _, fun j hj => absurd hj (Nat.not_lt_zero j)⟩ (Le.mk hB [] ⟨rfl, rfl, rfl, rfl, rfl, trivial⟩ rfl rfl (Nat.le_refl _)) ?_
 rintro ⟨q, hq, hn⟩
 show VC _ _ _ _ ⟨[(0, avInts xs), (1, avI v), (6, avInts xs), (7, avI xs.length), (8, avI (q : Int))] ++ [], [], 0⟩
 refine VC.sr ?_
 refine VO.val rfl rfl (OpV.lss rfl rfl rfl) ?_
 refine VO.nil ?_
 refine VC.seq ?_
 refine VC.cond rfl (fun aH1b => ?_) (fun aH1b => ?_)
 ·have aH1 := aH1b
  try simp only [qqT, qqF, qqN, qqM, qqL, qqE] at aH1
  refine VC.skip ?_
  refine VC.seq ?_
  refine VC.block ?_
  refine VC.sr ?_
  refine VO.mv rfl rfl rfl rfl ?_
  refine VO.ma rfl rfl rfl rfl ?_
  refine VO.nil ?_
  refine VC.sr ?_
  refine VO.mv rfl rfl rfl rfl ?_
  refine VO.mv rfl rfl rfl rfl ?_
  refine VO.mv rfl rfl rfl rfl ?_
  refine VO.val rfl rfl (OpV.indexAddr_1 rfl Tryz.underlying22 Tryz.sizeOf3 rfl rfl rfl (by omega)) ?_
  refine VO.val rfl rfl (OpV.load_at rfl hB OutW.no Tryz.isAgg3 rfl rfl) ?_
  refine VO.val rfl rfl (OpV.eql rfl rfl rfl) ?_
  refine VO.nil ?_
  refine VC.cond rfl (fun aH2b => ?_) (fun aH2b => ?_)
  ·have aH2 := aH2b
   try simp only [qqT, qqF, qqN, qqM, qqL, qqE] at aH2
   refine VC.sr ?_
   refine VO.mv rfl rfl rfl rfl ?_
   refine VO.ma rfl rfl rfl rfl ?_
   refine VO.nil ?_
   refine VC.ret ?_
   exact Exists.intro _ (And.intro (RetN.one Tryz.results309 (ResN.v rfl)) (by first | (rw [fidx_found (d := 0) (q := q) (by omega) hn (by assumption)]) | (rw [fidx_none (d := 0) (fun j hj => hn j (by omega))])))
  ·have aH2 := aH2b
   try simp only [qqT, qqF, qqN, qqM, qqL, qqE] at aH2
   refine VC.skip ?_
   refine VC.region ?_
   refine VO.val rfl rfl (OpV.add rfl rfl rfl (by unfold fits; omega)) ?_
   refine VO.mv rfl rfl rfl rfl ?_
   refine VO.nil ?_
   exact Exists.intro (⟨q + 1, by omega, lt_succ_cases hn (by assumption)⟩) (And.intro (Le.mk hB [] ⟨rfl, rfl, rfl, rfl, rfl, trivial⟩ rfl rfl (Nat.le_refl _)) (by first | omega | (show _ < _; omega) | (simp only []; omega)))
 ·have aH1 := aH1b
  try simp only [qqT, qqF, qqN, qqM, qqL, qqE] at aH1
  refine VC.exit ?_
  refine VC.sr ?_
  refine VO.ma rfl rfl rfl rfl ?_
  refine VO.nil ?_
  refine VC.ret ?_
  exact Exists.intro _ (And.intro (RetN.one Tryz.results309 (ResN.v rfl)) (by first | (rw [fidx_found (d := 0) (q := q) (by omega) hn (by assumption)]) | (rw [fidx_none (d := 0) (fun j hj => hn j (by omega))])))
set_option maxRecDepth 100000 in
theorem slices_Index_str {xs : List ByteArray} {v : ByteArray} (hl : xs.length ≤ 1000000000) :
  SpecN Tryz.prog 232 [avStrs xs, avS v] (fun y => y = avI (fidx (fun x => sEq v x) xs)) := by
 refine SpecN.of_VCN Tryz.func232 rfl Tryz.ntmps232 (Nle rfl) fun w A hB => ?_
 have hnew : True := trivial
 refine VC.sr ?_
 refine VO.ma rfl rfl rfl rfl ?_
 refine VO.nil ?_
 refine VC.seq ?_
 refine VC.sr ?_
 refine VO.mv rfl rfl rfl rfl ?_
 refine VO.val rfl rfl (OpV.len_im rfl Tryz.underlying95 rfl) ?_
 refine VO.mv rfl rfl rfl rfl ?_
 refine VO.nil ?_
 refine VC.block ?_
 refine VC.loopK [] trivial ({q : Nat // q ≤ xs.length ∧ ∀ j, j < q → sEq v (xs.getD j ByteArray.empty) = false}) (fun (iZ : {q : Nat // q ≤ xs.length ∧ ∀ j, j < q → sEq v (xs.getD j ByteArray.empty) = false}) => match iZ with | ⟨q, hq, hn⟩ => [(0, avStrs xs), (1, avS v), (6, avStrs xs), (7, avI xs.length), (8, avI (q : Int))]) (fun (iZ : {q : Nat // q ≤ xs.length ∧ ∀ j, j < q → sEq v (xs.getD j ByteArray.empty) = false}) => match iZ with | ⟨q, hq, hn⟩ => []) (fun (iZ : {q : Nat // q ≤ xs.length ∧ ∀ j, j < q → sEq v (xs.getD j ByteArray.empty) = false}) => match iZ with | ⟨q, hq, hn⟩ => 0) (fun (iZ : {q : Nat // q ≤ xs.length ∧ ∀ j, j < q → sEq v (xs.getD j ByteArray.empty) = false}) => match iZ with | ⟨q, hq, hn⟩ => xs.length - q) ⟨0, Nat.zero_le _, fun j hj => absurd hj (Nat.not_lt_zero j)⟩ (Le.mk hB [] ⟨rfl, rfl, rfl, rfl, rfl, trivial⟩ rfl rfl (Nat.le_refl _)) ?_
 rintro ⟨q, hq, hn⟩
 show VC _ _ _ _ ⟨[(0, avStrs xs), (1, avS v), (6, avStrs xs), (7, avI xs.length), (8, avI (q : Int))] ++ [], [], 0⟩
 refine VC.sr ?_
 refine VO.val rfl rfl (OpV.lss rfl rfl rfl) ?_
 refine VO.nil ?_
 refine VC.seq ?_
 refine VC.cond rfl (fun aH1b => ?_) (fun aH1b => ?_)
 ·have aH1 := aH1b
  try simp only [qqT, qqF, qqN, qqM, qqL, qqE] at aH1
  refine VC.skip ?_
  refine VC.seq ?_
  refine VC.block ?_
  refine VC.sr ?_
  refine VO.mv rfl rfl rfl rfl ?_
  refine VO.ma rfl rfl rfl rfl ?_
  refine VO.nil ?_
  refine VC.sr ?_
  refine VO.mv rfl rfl rfl rfl ?_
  refine VO.mv rfl rfl rfl rfl ?_
  refine VO.mv rfl rfl rfl rfl ?_
  refine VO.val rfl rfl (OpV.indexAddr_1 rfl Tryz.underlying95 Tryz.sizeOf9 rfl rfl rfl (by omega)) ?_
  refine VO.val rfl rfl (OpV.load_at rfl hB OutW.no Tryz.isAgg9 rfl rfl) ?_
  refine VO.val rfl rfl (OpV.seql rfl rfl rfl) ?_
  refine VO.nil ?_
  refine VC.cond rfl (fun aH2b => ?_) (fun aH2b => ?_)
  ·have aH2 := aH2b
   try simp only [qqT, qqF, qqN, qqM, qqL, qqE] at aH2
   refine VC.sr ?_
   refine VO.mv rfl rfl rfl rfl ?_
   refine VO.ma rfl rfl rfl rfl ?_
   refine VO.nil ?_
   refine VC.ret ?_
   exact Exists.intro _ (And.intro (RetN.one Tryz.results232 (ResN.v rfl)) (by first | (rw [fidx_found (d := ByteArray.empty) (q := q) (by omega) hn (by assumption)]) | (rw [fidx_none (d := ByteArray.empty) (fun j hj => hn j (by omega))])))
  ·have aH2 := aH2b
   try simp only [qqT, qqF, qqN, qqM, qqL, qqE] at aH2
   refine VC.skip ?_
   refine VC.region ?_
   refine VO.val rfl rfl (OpV.add rfl rfl rfl (by unfold fits; omega)) ?_
   refine VO.mv rfl rfl rfl rfl ?_
   refine VO.nil ?_
   exact Exists.intro (⟨q + 1, by omega, lt_succ_cases hn (by assumption)⟩) (And.intro (Le.mk hB [] ⟨rfl, rfl, rfl, rfl, rfl, trivial⟩ rfl rfl (Nat.le_refl _)) (by first | omega | (show _ < _; omega) | (simp only []; omega)))
 ·have aH1 := aH1b
  try simp only [qqT, qqF, qqN, qqM, qqL, qqE] at aH1
  refine VC.exit ?_
  refine VC.sr ?_
  refine VO.ma rfl rfl rfl rfl ?_
  refine VO.nil ?_
  refine VC.ret ?_
  exact Exists.intro _ (And.intro (RetN.one Tryz.results232 (ResN.v rfl)) (by first | (rw [fidx_found (d := ByteArray.empty) (q := q) (by omega) hn (by assumption)]) | (rw [fidx_none (d := ByteArray.empty) (fun j hj => hn j (by omega))])))
set_option maxRecDepth 100000 in
theorem slices_Contains_str {xs : List ByteArray} {v : ByteArray} (hl : xs.length ≤ 1000000000) :
  SpecN Tryz.prog 107 [avStrs xs, avS v] (fun y => y = avB (xs.any fun x => sEq v x)) := by
 refine SpecN.of_VCN Tryz.func107 rfl Tryz.ntmps107 (Nle rfl) fun w A hB => ?_
 have hnew : True := trivial
 refine VC.sr ?_
 refine VO.ma rfl rfl rfl rfl ?_
 refine VO.nil ?_
 refine VC.sr ?_
 refine VO.mv rfl rfl rfl rfl ?_
 refine VO.mv rfl rfl rfl rfl ?_
 refine VO.op rfl (OpE.call rfl hB rfl Tryz.call232 rfl (SpecN.spec ((slices_Index_str (by omega)))) ?_)
 rintro _ rfl
 refine VO.val rfl rfl (OpV.geq rfl rfl rfl) ?_
 refine VO.ma rfl rfl rfl rfl ?_
 refine VO.nil ?_
 refine VC.ret ?_
 exact Exists.intro _ (And.intro (RetN.one Tryz.results107 (ResN.v rfl)) (by rw [← fidx_any]))
set_option maxRecDepth 100000 in
theorem slices_Contains_int {xs : List Int} {v : Int} (hl : xs.length ≤ 1000000000) :
  SpecN Tryz.prog 247 [avInts xs, avI v] (fun y => y = avB (decide (v ∈ xs))) := by
 refine SpecN.of_VCN Tryz.func247 rfl Tryz.ntmps247 (Nle rfl) fun w A hB => ?_
 have hnew : True := trivial
 refine VC.sr ?_
 refine VO.ma rfl rfl rfl rfl ?_
 refine VO.nil ?_
 refine VC.sr ?_
 refine VO.mv rfl rfl rfl rfl ?_
 refine VO.mv rfl rfl rfl rfl ?_
 refine VO.op rfl (OpE.call rfl hB rfl Tryz.call309 rfl (SpecN.spec ((slices_Index_int (by omega)))) ?_)
 rintro _ rfl
 refine VO.val rfl rfl (OpV.geq rfl rfl rfl) ?_
 refine VO.ma rfl rfl rfl rfl ?_
 refine VO.nil ?_
 refine VC.ret ?_
 exact Exists.intro _ (And.intro (RetN.one Tryz.results247 (ResN.v rfl)) (by rw [fidx_any]; congr 3; rw [Bool.eq_iff_iff]; simp))
set_option maxRecDepth 100000 in
theorem slices_Equal_int {xs ys : List Int} (hl : xs.length ≤ 1000000000) (hl' : ys.length ≤ 1000000000) :
  SpecN Tryz.prog 29 [avInts xs, avInts ys] (fun y => y = avB (decide (xs = ys))) := by
 refine SpecN.of_VCN Tryz.func29 rfl Tryz.ntmps29 (Nle rfl) fun w A hB => ?_
 have hnew : True := trivial
 refine VC.sr ?_
 refine VO.ma rfl rfl rfl rfl ?_
 refine VO.nil ?_
 refine VC.seq ?_
 refine VC.sr ?_
 refine VO.mv rfl rfl rfl rfl ?_
 refine VO.val rfl rfl (OpV.len_im rfl Tryz.underlying22 rfl) ?_
 refine VO.mv rfl rfl rfl rfl ?_
 refine VO.val rfl rfl (OpV.len_im rfl Tryz.underlying22 rfl) ?_
 refine VO.val rfl rfl (OpV.neq rfl rfl rfl) ?_
 refine VO.nil ?_
 refine VC.cond rfl (fun aH1b => ?_) (fun aH1b => ?_)
 ·have aH1 := aH1b
  try simp only [qqT, qqF, qqN, qqM, qqL, qqE] at aH1
  refine VC.sr ?_
  refine VO.ma rfl rfl rfl rfl ?_
  refine VO.nil ?_
  refine VC.ret ?_
  exact Exists.intro _ (And.intro (RetN.one Tryz.results29 (ResN.v rfl)) (by first | rw [eqL_len (by omega)] | rw [eqL_ne (q := q) (by omega)] | rw [eqL_all (by omega) hn (by omega)]))
 ·have aH1 := aH1b
  try simp only [qqT, qqF, qqN, qqM, qqL, qqE] at aH1
  refine VC.skip ?_
  refine VC.seq ?_
  refine VC.sr ?_
  refine VO.mv rfl rfl rfl rfl ?_
  refine VO.val rfl rfl (OpV.len_im rfl Tryz.underlying22 rfl) ?_
  refine VO.mv rfl rfl rfl rfl ?_
  refine VO.nil ?_
  refine VC.block ?_
  refine VC.loopK [] trivial ({q : Nat // q ≤ xs.length ∧ ∀ j, j < q → xs.getD j 0 = ys.getD j 0}) (fun (iZ : {q : Nat // q ≤ xs.length ∧ ∀ j, j < q → xs.getD j 0 = ys.getD j 0}) => match iZ with | ⟨q, hq, hn⟩ => [(0, avInts xs), (1, avInts ys), (12, avI xs.length), (13, avI (q : Int))]) (fun (iZ : {q : Nat // q ≤ xs.length ∧ ∀ j, j < q → xs.getD j 0 = ys.getD j 0}) => match iZ with | ⟨q, hq, hn⟩ => []) (fun (iZ : {q : Nat // q ≤ xs.length ∧ ∀ j, j < q → xs.getD j 0 = ys.getD j 0}) => match iZ with | ⟨q, hq, hn⟩ => 0) (fun (iZ : {q : Nat // q ≤ xs.length ∧ ∀ j, j < q → xs.getD j 0 = ys.getD j 0}) => match iZ with | ⟨q, hq, hn⟩ => xs.length - q) ⟨0, Nat.zero_le _, fun j hj => absurd hj (Nat.not_lt_zero j)⟩ (Le.mk hB [] ⟨rfl, rfl, rfl, rfl, trivial⟩ rfl rfl (Nat.le_refl _)) ?_
  rintro ⟨q, hq, hn⟩
  show VC _ _ _ _ ⟨[(0, avInts xs), (1, avInts ys), (12, avI xs.length), (13, avI (q : Int))] ++ [], [], 0⟩
  refine VC.sr ?_
  refine VO.val rfl rfl (OpV.lss rfl rfl rfl) ?_
  refine VO.nil ?_
  refine VC.seq ?_
  refine VC.cond rfl (fun aH2b => ?_) (fun aH2b => ?_)
  ·have aH2 := aH2b
   try simp only [qqT, qqF, qqN, qqM, qqL, qqE] at aH2
   refine VC.skip ?_
   refine VC.seq ?_
   refine VC.block ?_
   refine VC.sr ?_
   refine VO.mv rfl rfl rfl rfl ?_
   refine VO.ma rfl rfl rfl rfl ?_
   refine VO.nil ?_
   refine VC.seq ?_
   refine VC.draw (fun _ => NoB) hB (by kernel_rfl) ?_
   refine VA.take (i := 0) rfl (by kernel_rfl) (by kernel_rfl) (by kernel_rfl) rfl rfl (OpV.move (.inl rfl) rfl) ?_
   refine VA.take (i := 1) rfl (by kernel_rfl) (by kernel_rfl) (by kernel_rfl) rfl rfl (OpV.move (.inl rfl) rfl) ?_
   refine VA.take (i := 2) rfl (by kernel_rfl) (by kernel_rfl) (by kernel_rfl) rfl rfl (OpV.indexAddr_1 rfl Tryz.underlying22 Tryz.sizeOf3 rfl rfl rfl (by omega)) ?_
   refine VA.take (i := 3) rfl (by kernel_rfl) (by kernel_rfl) (by kernel_rfl) rfl rfl (OpV.load_at rfl hB OutW.wi0 Tryz.isAgg3 rfl rfl) ?_
   refine VA.take (i := 4) rfl (by kernel_rfl) (by kernel_rfl) (by kernel_rfl) rfl rfl (OpV.move (.inl rfl) rfl) ?_
   refine VA.take (i := 5) rfl (by kernel_rfl) (by kernel_rfl) (by kernel_rfl) rfl rfl (OpV.move (.inl rfl) rfl) ?_
   refine VA.take (i := 6) rfl (by kernel_rfl) (by kernel_rfl) (by kernel_rfl) rfl rfl (OpV.indexAddr_1 rfl Tryz.underlying22 Tryz.sizeOf3 rfl rfl rfl (by omega)) ?_
   refine VA.take (i := 7) rfl (by kernel_rfl) (by kernel_rfl) (by kernel_rfl) rfl rfl (OpV.load_at rfl hB OutW.wi0 Tryz.isAgg3 rfl rfl) ?_
   refine VA.take (i := 8) rfl (by kernel_rfl) (by kernel_rfl) (by kernel_rfl) rfl rfl (OpV.neq rfl rfl rfl) ?_
   refine VA.done (by kernel_rfl) ?_
   refine VC.cond rfl (fun aH3b => ?_) (fun aH3b => ?_)
   ·have aH3 := aH3b
    try simp only [qqT, qqF, qqN, qqM, qqL, qqE] at aH3
    refine VC.sr ?_
    refine VO.ma rfl rfl rfl rfl ?_
    refine VO.nil ?_
    refine VC.ret ?_
    exact Exists.intro _ (And.intro (RetN.one Tryz.results29 (ResN.v rfl)) (by first | rw [eqL_len (by omega)] | rw [eqL_ne (q := q) (by omega)] | rw [eqL_all (by omega) hn (by omega)]))
   ·have aH3 := aH3b
    try simp only [qqT, qqF, qqN, qqM, qqL, qqE] at aH3
    refine VC.skip ?_
    refine VC.region ?_
    refine VO.val rfl rfl (OpV.add rfl rfl rfl (by unfold fits; omega)) ?_
    refine VO.mv rfl rfl rfl rfl ?_
    refine VO.nil ?_
    exact Exists.intro (⟨q + 1, by omega, lt_succ_cases hn (by omega)⟩) (And.intro (Le.mk hB [] ⟨rfl, rfl, rfl, rfl, trivial⟩ rfl rfl (Nat.le_refl _)) (by first | omega | (show _ < _; omega) | (simp only []; omega)))
  ·have aH2 := aH2b
   try simp only [qqT, qqF, qqN, qqM, qqL, qqE] at aH2
   refine VC.exit ?_
   refine VC.sr ?_
   refine VO.ma rfl rfl rfl rfl ?_
   refine VO.nil ?_
   refine VC.ret ?_
   exact Exists.intro _ (And.intro (RetN.one Tryz.results29 (ResN.v rfl)) (by first | rw [eqL_len (by omega)] | rw [eqL_ne (q := q) (by omega)] | rw [eqL_all (by omega) hn (by omega)]))
end Go.Proofs.YtmahammdnmmmoaaGreatDoor
namespace Go.Proofs.YtmahammdnmmmoaaGreatDoor
open Go.RowKit
set_option linter.unusedVariables false
set_option linter.unusedSimpArgs false

def below (x n : Int) : Int := if n < 1 then 0 else x % n
theorem below_lo (x n : Int) : 0 ≤ below x n := by unfold below; split; omega; exact Int.emod_nonneg _ (by omega)
theorem below_lt (x n : Int) (h : 1 ≤ n) : below x n < n := by unfold below; rw [if_neg (by omega)]; exact Int.emod_lt_of_pos _ (by omega)
theorem tmod_facts (x n : Int) (h : 1 ≤ n) : x.tmod n < n ∧ -n < x.tmod n ∧ (x.tmod n < 0 → x.tmod n + n = x % n) ∧ (0 ≤ x.tmod n → x.tmod n = x % n) := by
 have hn := Int.emod_nonneg x (show n ≠ 0 by omega)
 have hl := Int.emod_lt_of_pos x (show 0 < n by omega)
 by_cases h0 : 0 ≤ x
 ·rw [Int.tmod_eq_emod_of_nonneg h0]
  exact ⟨hl, by omega, fun _ => by omega, fun _ => rfl⟩
 ·have e : x.tmod n = -((-x) % n) := by
   rw [← Int.tmod_eq_emod_of_nonneg (by omega : 0 ≤ -x), Int.neg_tmod, Int.neg_neg]
  have hn' := Int.emod_nonneg (-x) (show n ≠ 0 by omega)
  have hl' := Int.emod_lt_of_pos (-x) (show 0 < n by omega)
  have e2 := Int.neg_emod (a := x) (b := n)
  rw [e]
  split at e2
  ·have : x % n = 0 := Int.emod_eq_zero_of_dvd ‹_›
   exact ⟨by omega, by omega, fun _ => by omega, fun _ => by omega⟩
  ·have e3 : (n.natAbs : Int) = n := by omega
   rw [e3] at e2
   exact ⟨by omega, by omega, fun _ => by omega, fun _ => by omega⟩

set_option maxHeartbeats 400000 in
theorem below_any (x n : Int) (w : World) (hn : n ≤ 9223372036854775807) :
  Calls Tryz.prog 143 #[.int .i64 x, .int .i64 n] w fun e w' => e = .returned (.int .i64 (below x n)) ∧ w = w' := by
 by_cases h1 : n < 1
 ·go_enter Tryz.func143, Tryz.ntmps143
  go_wp2
  go_ret
  exact ⟨by simp [below, h1], rfl⟩
 ·obtain ⟨b1, b2, b3, b4⟩ := tmod_facts x n (by omega)
  have B3 := hid b3; clear b3
  have B4 := hid b4; clear b4
  go_enter Tryz.func143, Tryz.ntmps143
  go_wp2
  ·go_ret
   exact ⟨ret_int (by rw [below, if_neg (by omega)]; exact B3.out (by omega)), rfl⟩
  ·go_ret
   exact ⟨ret_int (by rw [below, if_neg (by omega)]; exact B4.out (by omega)), rfl⟩

def nxt (L : List Int) (k : Nat) (n : Int) : Int :=
 if L.length = 0 then below (((k : Int) + 1) * 7919) n
 else below (below (L.getD (k % L.length) 0) 1073741824 + ((k / L.length : Nat) : Int) * (7919 + ((k % L.length : Nat) : Int))) n
theorem nxt_lo (L : List Int) (k : Nat) (n : Int) : 0 ≤ nxt L k n := by unfold nxt; split <;> exact below_lo _ _
theorem nxt_lt (L : List Int) (k : Nat) (n : Int) (h : 1 ≤ n) : nxt L k n < n := by unfold nxt; split <;> exact below_lt _ _ h

def Strm (w : World) (p : Nat) (L : List Int) (k : Nat) : Prop :=
 ∃ a cap, w.heap[p]? = some (.cells #[.slice a L.length cap, .int .i64 k] 25 (0, 0)) ∧ L.length ≤ 9223372036854775807 ∧
  ∀ i, i < L.length → ∃ b o, a = some ⟨b, o, none⟩ ∧ b < p ∧ w.cell? ⟨b, o + i, none⟩ = some (.int .i64 (L.getD i 0))

theorem Strm.keep {S : Nat → Prop} {w w' : World} {p : Nat} {L : List Int} {k : Nat} (h : Strm w p L k) (c : Chg S w w') (hs : ∀ j, j ≤ p → ¬ S j) : Strm w' p L k := by
 obtain ⟨a, cap, hp, hl, hc⟩ := h
 have hlt := (Array.getElem?_eq_some_iff.1 hp).1
 refine ⟨a, cap, (c.block p hlt (hs p (Nat.le_refl _))).trans hp, hl, fun i hi => ?_⟩
 obtain ⟨b, o, ha, hb, hcell⟩ := hc i hi
 exact ⟨b, o, ha, hb, c.cell hcell (hs _ (Nat.le_of_lt hb))⟩
theorem Strm.lt {w : World} {p : Nat} {L : List Int} {k : Nat} (h : Strm w p L k) : p < w.heap.size := by
 obtain ⟨a, cap, hp, hl, hc⟩ := h
 exact (Array.getElem?_eq_some_iff.1 hp).1

theorem Strm.step {w : World} {p : Nat} {L : List Int} {k : Nat} {a : Option Addr} {cap : Nat}
  (hp : w.heap[p]? = some (.cells #[.slice a L.length cap, .int .i64 k] 25 (0, 0))) (hl : L.length ≤ 9223372036854775807)
  (hc : ∀ i, i < L.length → ∃ b o, a = some ⟨b, o, none⟩ ∧ b < p ∧ w.cell? ⟨b, o + i, none⟩ = some (.int .i64 (L.getD i 0))) :
  Strm (w.setCell ⟨p, 1, none⟩ (.int .i64 ((k : Int) + 1))) p L (k + 1) := by
 refine ⟨a, cap, ?_, hl, fun i hi => ?_⟩
 ·simp [World.setCell, Array.getElem?_modify, hp]
 ·obtain ⟨b, o, ha, hb, hcell⟩ := hc i hi
  refine ⟨b, o, ha, hb, ?_⟩
  rw [← hcell]
  exact World.cell?_of_block (Below.heap_setCell _ _ _ _ (Nat.ne_of_lt hb))

set_option maxHeartbeats 400000 in
theorem next_any (p : Nat) (L : List Int) (k : Nat) (n : Int) (w : World) (h : Strm w p L k) (hk : k ≤ 1000000) (hn : n ≤ 1000000000) :
  Calls Tryz.prog 42 #[.pointer (some ⟨p, 0, none⟩), .int .i64 n] w fun e w' => e = .returned (.int .i64 (nxt L k n)) ∧ Strm w' p L (k + 1) ∧ Chg (AtB p) w w' := by
 obtain ⟨a, cap, hp, hl, hc⟩ := h
 have c0 : w.cell? ⟨p, 0, none⟩ = some (.slice a L.length cap) := by simp [World.cell?, hp]
 have c1 : w.cell? ⟨p, 1, none⟩ = some (.int .i64 k) := by simp [World.cell?, hp]
 have f1 : w.frozen? ⟨p, 1, none⟩ = false := by simp [World.frozen?, hp]
 have HP := hid hp; clear hp
 by_cases h0 : L.length = 0
 ·have h0' : ((L.length : Int) == 0) = true := by simp [h0]
  have H0 := hid h0; clear h0
  go_enter Tryz.func42, Tryz.ntmps42
  go_wp2_with (go_at_call 143; refine (below_any _ _ _ (by omega)).mono ?_; rintro e w' ⟨rfl, rfl⟩)
  go_ret
  exact ⟨ret_int (by rw [nxt, if_pos H0.out]), Strm.step HP.out hl hc, (Chg.refl (AtB p) w).setCell (a := ⟨p, 1, none⟩) (fun _ => rfl) _⟩
 ·have h0' : ((L.length : Int) == 0) = false := beq_eq_false_iff_ne.2 (by omega)
  obtain ⟨b, o, rfl, hbp', _⟩ := hc 0 (by omega)
  have hbp : b ≠ p := by omega
  have hci := (hc (k % L.length) (Nat.mod_lt _ (by omega)))
  obtain ⟨_, _, he, _, hci⟩ := hci
  cases he
  have HC := hid hc; clear hc
  have hm := Nat.mod_lt k (show 0 < L.length by omega)
  have hmk := Nat.mod_le k L.length
  have hdk := Nat.div_le_self k L.length
  have hb := below_lo (L[k % L.length]) 1073741824
  have hb2 := below_lt (L[k % L.length]) 1073741824 (by omega)
  have em : (k : Int) % (L.length : Int) = ((k % L.length : Nat) : Int) := by simp
  have ed : (k : Int) / (L.length : Int) = ((k / L.length : Nat) : Int) := by simp
  have m1 : 0 ≤ (k : Int) % (L.length : Int) := by rw [em]; omega
  have m2 : (k : Int) % (L.length : Int) < (L.length : Int) := by rw [em]; omega
  have m3 : (k : Int) % (L.length : Int) ≤ 1000000 := by rw [em]; omega
  have d1 : 0 ≤ (k : Int) / (L.length : Int) := Int.ediv_nonneg (by omega) (by omega)
  have d2 : (k : Int) / (L.length : Int) ≤ 1000000 := by rw [ed]; omega
  clear em ed
  have q1 : 0 ≤ (k : Int) / (L.length : Int) * (7919 + (k : Int) % (L.length : Int)) := Int.mul_nonneg d1 (by omega)
  have q2 : (k : Int) / (L.length : Int) * (7919 + (k : Int) % (L.length : Int)) ≤ 1000000 * 1007919 := Int.mul_le_mul d2 (by omega) (by omega) (by omega)
  go_enter Tryz.func42, Tryz.ntmps42
  go_wp2_with fail
  go_quiet (fail)
  go_wp2_with fail
  go_quiet (fail)
  go_wp2_with (go_at_call 143; refine (below_any _ _ _ (by omega)).mono ?_; rintro e w' ⟨rfl, rfl⟩)
  go_ret
  refine ⟨ret_int ?_, (Strm.step HP.out hl HC.out).keep ((Chg.refl NoB _).drewN _) (fun _ _ x => x), ((Chg.refl (AtB p) w).setCell (a := ⟨p, 1, none⟩) (fun _ => rfl) _).drewN _⟩
  rw [nxt, if_neg h0]
  simp [hm]

def rng (L : List Int) (k : Nat) (lo hi : Int) : Int := lo + nxt L k (hi - lo + 1)
theorem rng_lo (L : List Int) (k : Nat) (lo hi : Int) : lo ≤ rng L k lo hi := by unfold rng; have := nxt_lo L k (hi - lo + 1); omega
theorem rng_hi (L : List Int) (k : Nat) (lo hi : Int) (h : lo ≤ hi) : rng L k lo hi ≤ hi := by unfold rng; have := nxt_lt L k (hi - lo + 1) (by omega); omega

set_option maxHeartbeats 400000 in
theorem range_any (p : Nat) (L : List Int) (k : Nat) (lo hi : Int) (w : World) (h : Strm w p L k) (hk : k ≤ 1000000) (h0 : 0 ≤ lo) (hl : lo ≤ hi) (hn : hi ≤ 999999999) :
  Calls Tryz.prog 40 #[.pointer (some ⟨p, 0, none⟩), .int .i64 lo, .int .i64 hi] w fun e w' => e = .returned (.int .i64 (rng L k lo hi)) ∧ Strm w' p L (k + 1) ∧ Chg (AtB p) w w' := by
 have b1 := nxt_lo L k (hi - lo + 1)
 have b2 := nxt_lt L k (hi - lo + 1) (by omega)
 have hlt := h.lt
 go_enter Tryz.func40, Tryz.ntmps40
 go_wp2_with (go_at_call 42; refine (next_any _ _ _ _ _ h (by omega) (by omega)).mono ?_; rintro e w' ⟨rfl, hs, hc⟩)
 go_ret
 exact ⟨rfl, hs, hc⟩

set_option maxHeartbeats 400000 in
theorem flip_any (p : Nat) (L : List Int) (k : Nat) (n : Int) (w : World) (h : Strm w p L k) (hk : k ≤ 1000000) (hn : n ≤ 1000000000) :
  Calls Tryz.prog 17 #[.pointer (some ⟨p, 0, none⟩), .int .i64 n] w fun e w' => e = .returned (.bool (nxt L k n == 0)) ∧ Strm w' p L (k + 1) ∧ Chg (AtB p) w w' := by
 go_enter Tryz.func17, Tryz.ntmps17
 go_wp2_with (go_at_call 42; refine (next_any _ _ _ _ _ h (by omega) (by omega)).mono ?_; rintro e w' ⟨rfl, hs, hc⟩)
 go_ret
 exact ⟨rfl, hs, hc⟩

def pick (L : List Int) (k : Nat) (xs : List Int) : Int := xs.getD (nxt L k xs.length).toNat 0

end Go.Proofs.YtmahammdnmmmoaaGreatDoor
namespace Go.Proofs.YtmahammdnmmmoaaGreatDoor
open Go.RowKit
set_option linter.unusedVariables false
set_option linter.unusedSimpArgs false

def TT (p : Nat) (L : List Int) (w : World) (k : Nat) : Prop := ∃ k', k' ≤ k ∧ Strm w p L k'
abbrev sp (p : Nat) : AV := .v (.pointer (some ⟨p, 0, none⟩))
theorem TT.ok {p : Nat} {L : List Int} {w : World} {A : Nat → Prop} {nt k : Nat} (h : TT p L w k) : (B1 w A nt (fun b => b = p) (fun b => b ≤ p) (TT p L)).Ok := by
 obtain ⟨k', hk, hs⟩ := h
 exact {
  keep := fun {S w w' k} ⟨k', hk, hs⟩ hc hS => ⟨k', hk, hs.keep hc hS⟩
  low := fun j hj => Nat.lt_of_le_of_lt hj hs.lt
  str := fun j hj => by cases hj; exact ⟨Nat.le_refl _, rfl⟩
  up := fun {w k k2} ⟨k', h1, h2⟩ h3 => ⟨k', Nat.le_trans h1 h3, h2⟩ }
theorem chgIs {p : Nat} {w w' : World} (h : Chg (AtB p) w w') : Chg (fun b => b = p) w w' := by
 have : (fun b => b = p) = AtB p := rfl
 rw [this]; exact h

theorem SpecT.of_Calls {P : Program} {F : FuncId} {xs : List AV} {us0 : Array Value} {p : Nat} {L : List Int} {G : AV → Prop}
  (hus : ∀ w A us, Args w A xs us → us = us0)
  (h : ∀ w k, k ≤ 1000000 → Strm w p L k → Calls P F us0 w fun e w' => ∃ v, e = .returned v ∧ G (.v v) ∧ Strm w' p L (k + 1) ∧ Chg (AtB p) w w') :
  SpecT P (TT p L) (fun b => b = p) F xs 1 G := by
 intro w A us k hA ⟨k', hk', hs⟩ hstr hk
 have hu := hus w A us hA
 subst hu
 refine (h w k' (by omega) hs).mono ?_
 rintro e w' ⟨v, rfl, hG, hs', hc⟩
 exact ⟨.v v, v, hG, rfl, .v v, chgIs hc, ⟨k' + 1, by omega, hs'⟩⟩
theorem args2 {p : Nat} {u : Value} {w : World} {A : Nat → Prop} {us : Array Value} (h : Args w A [sp p, .v u] us) : us = #[.pointer (some ⟨p, 0, none⟩), u] := by
 obtain ⟨h1, h2⟩ := h
 have e0 := (h2 0 (by simp)).eq_v
 have e1 := (h2 1 (by simp)).eq_v
 apply Array.ext (by simpa using h1)
 intro i hi hi'
 simp at hi'
 rw [h1] at hi
 match i, hi' with
 | 0, _ => simpa [Array.getD_eq_getD_getElem?, h1] using e0
 | 1, _ => simpa [Array.getD_eq_getD_getElem?, h1] using e1
theorem args3 {p : Nat} {u v : Value} {w : World} {A : Nat → Prop} {us : Array Value} (h : Args w A [sp p, .v u, .v v] us) : us = #[.pointer (some ⟨p, 0, none⟩), u, v] := by
 obtain ⟨h1, h2⟩ := h
 have e0 := (h2 0 (by simp)).eq_v
 have e1 := (h2 1 (by simp)).eq_v
 have e2 := (h2 2 (by simp)).eq_v
 apply Array.ext (by simpa using h1)
 intro i hi hi'
 simp at hi'
 rw [h1] at hi
 match i, hi' with
 | 0, _ => simpa [Array.getD_eq_getD_getElem?, h1] using e0
 | 1, _ => simpa [Array.getD_eq_getD_getElem?, h1] using e1
 | 2, _ => simpa [Array.getD_eq_getD_getElem?, h1] using e2

section
variable {p : Nat} {L : List Int}
theorem next_T {n : Int} (hn : n ≤ 1000000000) : SpecT Tryz.prog (TT p L) (fun b => b = p) 42 [sp p, avI n] 1 (fun y => ∃ r : Int, (0 ≤ r ∧ (1 ≤ n → r < n)) ∧ y = avI r) :=
 SpecT.of_Calls (fun w A us h => args2 h) fun w k hk hs => (next_any p L k n w hs hk hn).mono fun e w' ⟨h1, h2, h3⟩ => ⟨_, h1, ⟨_, ⟨nxt_lo L k n, nxt_lt L k n⟩, rfl⟩, h2, h3⟩
theorem range_T {lo hi : Int} (h0 : 0 ≤ lo) (hl : lo ≤ hi) (hn : hi ≤ 999999999) : SpecT Tryz.prog (TT p L) (fun b => b = p) 40 [sp p, avI lo, avI hi] 1 (fun y => ∃ r : Int, (lo ≤ r ∧ r ≤ hi) ∧ y = avI r) :=
 SpecT.of_Calls (fun w A us h => args3 h) fun w k hk hs => (range_any p L k lo hi w hs hk h0 hl hn).mono fun e w' ⟨h1, h2, h3⟩ => ⟨_, h1, ⟨_, ⟨rng_lo L k lo hi, rng_hi L k lo hi hl⟩, rfl⟩, h2, h3⟩
theorem flip_T {n : Int} (hn : n ≤ 1000000000) : SpecT Tryz.prog (TT p L) (fun b => b = p) 17 [sp p, avI n] 1 (fun y => ∃ r : Bool, y = avB r) :=
 SpecT.of_Calls (fun w A us h => args2 h) fun w k hk hs => (flip_any p L k n w hs hk hn).mono fun e w' ⟨h1, h2, h3⟩ => ⟨_, h1, ⟨_, rfl⟩, h2, h3⟩
end

def AllI (lo hi : Int) : List AV → Prop
 | [] => True
 | x :: r => (∃ i : Int, (lo ≤ i ∧ i ≤ hi) ∧ x = avI i) ∧ AllI lo hi r
theorem AllI.nil {lo hi : Int} : AllI lo hi [] := trivial
theorem AllI.cons {lo hi i : Int} {r : List AV} (h : lo ≤ i ∧ i ≤ hi) (hr : AllI lo hi r) : AllI lo hi (avI i :: r) := ⟨⟨i, h, rfl⟩, hr⟩
theorem AllI.get {lo hi : Int} : ∀ {l : List AV} {q : Nat}, AllI lo hi l → q < l.length → ∃ i : Int, (lo ≤ i ∧ i ≤ hi) ∧ l.getD q .any = avI i
 | [], q, _, h => by simp at h
 | x :: r, 0, h, _ => by simpa using h.1
 | x :: r, q + 1, h, hq => by simpa using AllI.get h.2 (by simpa using hq)
def AllX : List AV → Prop
 | [] => True
 | x :: r => (∃ i : Int, x = avI i) ∧ AllX r
theorem AllX.nil : AllX [] := trivial
theorem AllX.cons {i : Int} {r : List AV} (hr : AllX r) : AllX (avI i :: r) := ⟨⟨i, rfl⟩, hr⟩
theorem AllX.get : ∀ {l : List AV} {q : Nat}, AllX l → q < l.length → ∃ i : Int, l.getD q .any = avI i
 | [], q, _, h => by simp at h
 | x :: r, 0, h, _ => by simpa using h.1
 | x :: r, q + 1, h, hq => by simpa using AllX.get h.2 (by simpa using hq)
def AllS (m : Nat) : List AV → Prop
 | [] => True
 | x :: r => (∃ i : ByteArray, i.size ≤ m ∧ x = avS i) ∧ AllS m r
theorem AllS.nil {m : Nat} : AllS m [] := trivial
theorem AllS.cons {m : Nat} {i : ByteArray} {r : List AV} (h : i.size ≤ m) (hr : AllS m r) : AllS m (avS i :: r) := ⟨⟨i, h, rfl⟩, hr⟩
theorem AllS.get {m : Nat} : ∀ {l : List AV} {q : Nat}, AllS m l → q < l.length → ∃ i : ByteArray, i.size ≤ m ∧ l.getD q .any = avS i
 | [], q, _, h => by simp at h
 | x :: r, 0, h, _ => by simpa using h.1
 | x :: r, q + 1, h, hq => by simpa using AllS.get h.2 (by simpa using hq)



set_option maxRecDepth 100000 in
theorem pick_T {p : Nat} {L : List Int} {n : Nat} {l : List AV} (lo hi : Int) (hn : l.length = n) (h0 : 0 < n) (h1 : n ≤ 1000) (hall : AllI lo hi l) :
  SpecT Tryz.prog (TT p L) (fun b => b = p) 21 [sp p, .im n 1 fun j => l.getD j .any] 1 (fun y => ∃ r : Int, (lo ≤ r ∧ r ≤ hi) ∧ y = avI r) := by
 refine SpecT.of_VC Tryz.func21 rfl Tryz.ntmps21 (Nle rfl) (low := (fun b => b ≤ p)) (fun w A k h => h.ok) fun w A k hk hB => ?_
 have hnew : True := trivial
 refine VC.sr ?_
 refine VO.ma rfl rfl rfl rfl ?_
 refine VO.nil ?_
 refine VC.sr ?_
 refine VO.mv rfl rfl rfl rfl ?_
 refine VO.mv rfl rfl rfl rfl ?_
 refine VO.mv rfl rfl rfl rfl ?_
 refine VO.val rfl rfl (OpV.len_im rfl Tryz.underlying22 rfl) ?_
 refine VO.op rfl (OpE.callT' (k) rfl rfl hB rfl Tryz.call42 rfl ((next_T (by omega))) (by omega) ?_)
 rintro _ ⟨r9, hr9, rfl⟩
 refine VO.val rfl rfl (OpV.indexAddr_1 rfl Tryz.underlying22 Tryz.sizeOf3 rfl rfl (Int.toNat_of_nonneg (by omega)).symm (by omega)) ?_
 refine VO.val rfl rfl (OpV.load_at rfl hB OutW.no Tryz.isAgg3 rfl rfl) ?_
 refine VO.ma rfl rfl rfl rfl ?_
 refine VO.nil ?_
 refine VC.ret ?_
 exact Exists.intro _ (And.intro (RetV.one Tryz.results21 (ResV.tmp rfl)) (And.intro (hall.get (by omega)) ((show k + 1 ≤ k + 1 by omega))))
set_option maxRecDepth 100000 in
theorem pick_X {p : Nat} {L : List Int} {n : Nat} {l : List AV} (hn : l.length = n) (h0 : 0 < n) (h1 : n ≤ 1000) (hall : AllX l) :
  SpecT Tryz.prog (TT p L) (fun b => b = p) 21 [sp p, .im n 1 fun j => l.getD j .any] 1 (fun y => ∃ r : Int, y = avI r) := by
 refine SpecT.of_VC Tryz.func21 rfl Tryz.ntmps21 (Nle rfl) (low := (fun b => b ≤ p)) (fun w A k h => h.ok) fun w A k hk hB => ?_
 have hnew : True := trivial
 refine VC.sr ?_
 refine VO.ma rfl rfl rfl rfl ?_
 refine VO.nil ?_
 refine VC.sr ?_
 refine VO.mv rfl rfl rfl rfl ?_
 refine VO.mv rfl rfl rfl rfl ?_
 refine VO.mv rfl rfl rfl rfl ?_
 refine VO.val rfl rfl (OpV.len_im rfl Tryz.underlying22 rfl) ?_
 refine VO.op rfl (OpE.callT' (k) rfl rfl hB rfl Tryz.call42 rfl ((next_T (by omega))) (by omega) ?_)
 rintro _ ⟨r9, hr9, rfl⟩
 refine VO.val rfl rfl (OpV.indexAddr_1 rfl Tryz.underlying22 Tryz.sizeOf3 rfl rfl (Int.toNat_of_nonneg (by omega)).symm (by omega)) ?_
 refine VO.val rfl rfl (OpV.load_at rfl hB OutW.no Tryz.isAgg3 rfl rfl) ?_
 refine VO.ma rfl rfl rfl rfl ?_
 refine VO.nil ?_
 refine VC.ret ?_
 exact Exists.intro _ (And.intro (RetV.one Tryz.results21 (ResV.tmp rfl)) (And.intro (hall.get (by omega)) ((show k + 1 ≤ k + 1 by omega))))
set_option maxRecDepth 100000 in
theorem some_T {p : Nat} {L : List Int} {n : Nat} {l : List AV} (m : Nat) (hn : l.length = n) (h0 : 0 < n) (h1 : n ≤ 1000) (hall : AllS m l) :
  SpecT Tryz.prog (TT p L) (fun b => b = p) 32 [sp p, .im n 1 fun j => l.getD j .any] 1 (fun y => ∃ r : ByteArray, r.size ≤ m ∧ y = avS r) := by
 refine SpecT.of_VC Tryz.func32 rfl Tryz.ntmps32 (Nle rfl) (low := (fun b => b ≤ p)) (fun w A k h => h.ok) fun w A k hk hB => ?_
 have hnew : True := trivial
 refine VC.sr ?_
 refine VO.ma rfl rfl rfl rfl ?_
 refine VO.nil ?_
 refine VC.sr ?_
 refine VO.mv rfl rfl rfl rfl ?_
 refine VO.mv rfl rfl rfl rfl ?_
 refine VO.mv rfl rfl rfl rfl ?_
 refine VO.val rfl rfl (OpV.len_im rfl Tryz.underlying95 rfl) ?_
 refine VO.op rfl (OpE.callT' (k) rfl rfl hB rfl Tryz.call42 rfl ((next_T (by omega))) (by omega) ?_)
 rintro _ ⟨r9, hr9, rfl⟩
 refine VO.val rfl rfl (OpV.indexAddr_1 rfl Tryz.underlying95 Tryz.sizeOf9 rfl rfl (Int.toNat_of_nonneg (by omega)).symm (by omega)) ?_
 refine VO.val rfl rfl (OpV.load_at rfl hB OutW.no Tryz.isAgg9 rfl rfl) ?_
 refine VO.ma rfl rfl rfl rfl ?_
 refine VO.nil ?_
 refine VC.ret ?_
 exact Exists.intro _ (And.intro (RetV.one Tryz.results32 (ResV.tmp rfl)) (And.intro (hall.get (by omega)) ((show k + 1 ≤ k + 1 by omega))))


end Go.Proofs.YtmahammdnmmmoaaGreatDoor
namespace Go.Proofs.YtmahammdnmmmoaaGreatDoor
open Go.RowKit
set_option linter.unusedVariables false
set_option linter.unusedSimpArgs false

def AV.isV : AV → Bool
 | .v _ => true
 | _ => false
theorem flat_ofB {cs : List AV} (h : cs.all AV.isV = true) : FlatA cs := fun x hx => by
 have := List.all_eq_true.1 h x hx
 cases x <;> simp [AV.isV] at this
 exact ⟨_, rfl⟩
section
variable {P : Program} {s : St'}
theorem ResN.cellF {b t g j i k : Nat} {o' : Own'} {r : List AV} (hag : ∀ w, (isAgg t).run P w = .ok true w) (hsz : ∀ w, (sizeOf t).run P w = .ok k w) (hx : look s.sl b = some (.v (.pointer (some ⟨g, j, none⟩)))) (hi : s.hp[i]? = some (.box g o')) (hc : cutL o'.cs j k = some r) (hf : FlatA r) :
  ResN P s (.cell b t) (.agg r) := fun B a w hS hr => by
 obtain ⟨v, h1, h2⟩ := ResV.cellK hag hsz hx hi hc B a w hr
 refine ⟨v, h1, ?_⟩
 cases h2 with
 | agg cs us hl hr' => exact .agg _ _ hl fun j h => (hr' j h).flat (hf _ (List.getElem_mem h))
theorem ResN.rowT {α : Type} [Inhabited α] [Sxc α] {t i n : Nat} {u : Value} {xs : List α} {ty : TypeId} (h : look s.sl t = some (.v u)) (hi : s.hp[i]? = some (.row u n (Sxc.k α) (rowL xs) ty)) (hn : n = xs.length) (hf : FlatA (rowL xs)) : ResN P s (.tmp t) (avL xs) :=
 ResN.row h hi hf fun w Z u h => Rep.rowL hn h
theorem ResN.nilE {t sz : Nat} {F : Nat → AV} (h : look s.sl t = some (.v (.slice none 0 0))) : ResN P s (.tmp t) (.im 0 sz F) := fun B a w hS hr => ⟨_, rfl, by
 show Rep w (NewZ B w) _ (a.tmps.getD t undef)
 rw [(hr.slots t _ h).eq_v]; exact .nil _ _⟩
theorem flat_rowL {α : Type} [Inhabited α] [Sxc α] (h : ∀ (x : α) j, j < Sxc.k α → ∃ v, Sxc.cell x j = .v v) (xs : List α) : FlatA (rowL xs) := fun y hy => by
 simp only [rowL, List.mem_flatMap] at hy
 obtain ⟨x, _, hy⟩ := hy
 obtain ⟨j, hj, rfl⟩ := List.getElem_of_mem hy
 rw [tab_len] at hj
 obtain ⟨v, hv⟩ := h x j hj
 refine ⟨v, ?_⟩
 rw [← hv]
 have := tab_get (Sxc.k α) (Sxc.cell x) j
 have h2 : (tab (Sxc.k α) (Sxc.cell x))[j]? = some (Sxc.cell x j) := by rw [List.getElem?_eq_getElem (by rw [tab_len]; exact hj), tab_get]
 have h3 : j < (tab (Sxc.k α) (Sxc.cell x)).length := by rw [tab_len]; exact hj
 rw [List.getElem?_eq_getElem h3] at h2
 exact Option.some.inj h2
end
section
variable {P : Program} {B : Bs} {W : Nat → Prop} {s : St'} {o : Oper} {K : St' → Prop} {a : Act} {w : World}
theorem Le.freezeAt {t i m g : Nat} {o' : Own'} {f : Nat → AV} (ht : look s.sl t = some (.v (.pointer (some ⟨g, 0, none⟩)))) (hi : s.hp[i]? = some (.box g o')) (hl : 0 + m ≤ o'.cs.length) (hf : ∀ w Z u, Rep w Z (.at_ m fun j => o'.cs.getD (0 + j) .any) u → Rep w Z (.at_ m f) u) (hnew : True) (hB : B.Ok) :
  Le B s ⟨(t, .at_ m f) :: s.sl, s.hp.eraseIdx i, s.k⟩ := fun a w hr => by
 have hr' := hr.erase i
 refine hr'.over t ?_
 have hu : a.tmps.getD t undef = _ := (hr.slots t _ ht).eq_v
 rw [hu]
 refine hf _ _ _ (hr.repPtr hi hl (fun b hb => ⟨hb.1, fun p hp => hb.2.1 p ((List.eraseIdx_sublist s.hp i).subset hp), hb.2.2⟩) fun hl => ?_)
 exact hr.erased hB hi rfl
theorem apart_ne {hp : List Ent} (h : Apart hp) {i j g g' : Nat} (hi : (hp[i]?).bind Ent.blk = some g) (hj : (hp[j]?).bind Ent.blk = some g') (hij : i ≠ j) : g ≠ g' := fun e => by
 obtain ⟨p, hp1, hp2⟩ := Option.bind_eq_some_iff.1 hi
 obtain ⟨q, hq1, hq2⟩ := Option.bind_eq_some_iff.1 hj
 exact h.get hp1 hq1 hij hp2 (by rw [hq2, e])
theorem OpE.hap (h : Apart s.hp → OpE P B W s o K) : OpE P B W s o K := fun a w hr => h hr.nodup a w hr
theorem VC.hap {c : Code} {Q : Exit → St' → Prop} (h : Apart s.hp → VC P B c Q s) : VC P B c Q s := fun a w hr => h hr.nodup a w hr
theorem Wi.notD {ops : Array Oper} {i g : Nat} {js : List Nat} {X : Nat → Prop} (h : (js.all fun j => depB ops j i) = true) : ¬ Wi (fun j b => j ∈ js ∧ X b) ops i g := fun ⟨j, h1, h2, _⟩ => by
 rw [List.all_eq_true.1 h j h2] at h1; cases h1
theorem Wi.notN {ops : Array Oper} {i m m2 g : Nat} {X : Nat → Prop} (h : depB ops m i = true) : ¬ Wi (fun j b => (j = m ∧ X b) ∨ (j = m2 ∧ b ≠ g)) ops i g := fun ⟨j, h1, h2⟩ => by
 rcases h2 with ⟨h2, _⟩ | ⟨_, h2⟩
 ·subst h2; rw [h] at h1; cases h1
 ·exact h2 rfl
theorem Wi.notN2 {ops : Array Oper} {i g m m2 : Nat} {X Y : Nat → Prop} (h : depB ops m i = true) (hY : ¬ Y g) : ¬ Wi (fun j b => (j = m ∧ X b) ∨ (j = m2 ∧ Y b)) ops i g := fun ⟨j, h1, h2⟩ => by
 rcases h2 with ⟨h2, _⟩ | ⟨_, h2⟩
 ·subst h2; rw [h] at h1; cases h1
 ·exact hY h2
def lstB (n : Nat) (l : List Nat) : Array Bool := l.foldl (fun a i => a.setIfInBounds i true) (Array.replicate n false)
theorem VA.bind {V : Nat → Nat → Prop} {ops : Array Oper} {Q : Exit → St' → Prop} {n : Nat} {L : Array Bool} (h : ∀ F : Nat → Array Bool → St' → Prop, F = (fun n L s => VA P B V ops Q n L s) → F n L s) : VA P B V ops Q n L s := h _ rfl
theorem VA.to {V : Nat → Nat → Prop} {ops : Array Oper} {Q : Exit → St' → Prop} {n : Nat} {L L' : Array Bool} {s' : St'} (h : VA P B V ops Q n L' s') (hL : L = L') (hle : Le B s s') : VA P B V ops Q n L s := by
 subst hL
 exact VA.le _ hle h
theorem OpV.makeFuncF1 {F : FuncId} {c : Operand} {x : AV} (ho : o.op = .makeFunc (.func F) #[] #[c]) (hc : evO s c = some x) : OpV P B W s o (.fn F [x]) := fun a w hr => by
 refine ⟨.func (.func F) #[] #[a.eval c], fun w' _ => by simp [execOp, ho, Instr.makeFunc], .fn _ _ _ rfl fun j hj => ?_⟩
 simp at hj; subst hj
 exact hr.ev hc
theorem Rep.fn0 {w : World} {Z : Nat → Prop} {F : FuncId} {u : Value} (h : Rep w Z (.v (.func (.func F) #[] #[])) u) : Rep w Z (.fn F []) u := by
 rw [h.eq_v]; exact .fn F [] #[] rfl fun j hj => by simp at hj
end
end Go.Proofs.YtmahammdnmmmoaaGreatDoor
namespace Go.Proofs.YtmahammdnmmmoaaGreatDoor
open Go.RowKit
set_option linter.unusedVariables false
set_option linter.unusedSimpArgs false
set_option maxRecDepth 100000 in
set_option maxHeartbeats 8000000 in
theorem order_T {p : Nat} {L : List Int} {n : Nat} (hn : n ≤ 25) :
  SpecT Tryz.prog (TT p L) (fun b => b = p) 130 [sp p, avI (n : Int)] 30 (fun y => ∃ l : List Int, l.length = n ∧ y = avInts l) := by
 refine SpecT.of_VC Tryz.func130 rfl Tryz.ntmps130 (Nle rfl) (low := (fun b => b ≤ p)) (fun w A k h => h.ok) fun w A k hk hB => ?_
 have hnew : True := trivial
 refine VC.sr ?_
 refine VO.ma rfl rfl rfl rfl ?_
 refine VO.nil ?_
 refine VC.sr ?_
 refine VO.ma rfl rfl rfl rfl ?_
 refine VO.nil ?_
 refine VC.seq ?_
 refine VC.sr ?_
 refine VO.mv rfl rfl rfl rfl ?_
 refine VO.mv rfl rfl rfl rfl ?_
 refine VO.nil ?_
 refine VC.block ?_
 refine VC.le _ (Le.nilRow 1 3) ?_
 refine VC.loopK [(0, _), (1, _), (9, _)] ⟨rfl, rfl, rfl, trivial⟩ ({t : Value × List Int × Nat // t.2.2 ≤ n ∧ t.2.1.length = t.2.2}) (fun (iZ : {t : Value × List Int × Nat // t.2.2 ≤ n ∧ t.2.1.length = t.2.2}) => match iZ with | ⟨⟨u, l, q⟩, hq, hl⟩ => [(5, .v u), (10, avI (q : Int))]) (fun (iZ : {t : Value × List Int × Nat // t.2.2 ≤ n ∧ t.2.1.length = t.2.2}) => match iZ with | ⟨⟨u, l, q⟩, hq, hl⟩ => [.row u l.length 1 (intsL l) 3]) (fun (iZ : {t : Value × List Int × Nat // t.2.2 ≤ n ∧ t.2.1.length = t.2.2}) => match iZ with | ⟨⟨u, l, q⟩, hq, hl⟩ => k) (fun (iZ : {t : Value × List Int × Nat // t.2.2 ≤ n ∧ t.2.1.length = t.2.2}) => match iZ with | ⟨⟨u, l, q⟩, hq, hl⟩ => n - q) ⟨(.slice none 0 0, [], 0), Nat.zero_le _, rfl⟩ (Le.mk hB [0] ⟨rfl, rfl, rfl, rfl, rfl, trivial⟩ rfl rfl (show k ≤ k by omega)) ?_
 rintro ⟨⟨u, l, q⟩, hq, hl⟩
 show VC _ _ _ _ ⟨[(5, .v u), (10, avI (q : Int))] ++ [(0, _), (1, _), (9, _)], [.row u l.length 1 (intsL l) 3], k⟩
 simp only at hq hl
 refine VC.sr ?_
 refine VO.val rfl rfl (OpV.lss rfl rfl rfl) ?_
 refine VO.nil ?_
 refine VC.seq ?_
 refine VC.cond rfl (fun aH1b => ?_) (fun aH1b => ?_)
 ·have aH1 := aH1b
  try simp only [qqT, qqF, qqN, qqM, qqL, qqE] at aH1
  refine VC.skip ?_
  refine VC.seq ?_
  refine VC.block ?_
  refine VC.sr ?_
  refine VO.mv rfl rfl rfl rfl ?_
  refine VO.ma rfl rfl rfl rfl ?_
  refine VO.nil ?_
  refine VC.region ?_
  refine VO.mv rfl rfl rfl rfl ?_
  refine VO.mv rfl rfl rfl rfl ?_
  refine VO.op rfl (OpE.buildSlice (zc := #[.int .i64 0]) rfl hB rfl Tryz.underlying22 Tryz.sizeOf3 Tryz.zeroValue3 (by decide) (by decide) (by kernel_rfl) rfl rfl ?_)
  refine VO.op rfl (OpE.append1 (i := 0) rfl hB rfl Tryz.underlying22 (infoOf Tryz.t3 1 (by kernel_rfl) rfl rfl) rfl (by decide) (by decide) rfl rfl rfl rfl (intsL_snoc _ _) (by omega) (fun _ _ => trivial) ?_)
  intro u2
  refine VO.ma rfl rfl rfl rfl ?_
  refine VO.nil ?_
  refine VC.region ?_
  refine VO.val rfl rfl (OpV.add rfl rfl rfl (by unfold fits; omega)) ?_
  refine VO.mv rfl rfl rfl rfl ?_
  refine VO.nil ?_
  exact Exists.intro (⟨(u2, l ++ [(q : Int)], q + 1), by show q + 1 ≤ n; omega, by show (l ++ [_]).length = q + 1; simp; omega⟩) (And.intro (Le.mk hB [0] ⟨rfl, rfl, rfl, rfl, rfl, trivial⟩ rfl (by dsimp only; rw [List.length_append]; rfl) (show k ≤ k by omega)) (by first | omega | (show _ < _; omega) | (simp only []; omega)))
 ·have aH1 := aH1b
  try simp only [qqT, qqF, qqN, qqM, qqL, qqE] at aH1
  refine VC.exit ?_
  refine VC.seq ?_
  refine VC.sr ?_
  refine VO.mv rfl rfl rfl rfl ?_
  refine VO.val rfl rfl (OpV.sub rfl rfl rfl (by unfold fits; omega)) ?_
  refine VO.ma rfl rfl rfl rfl ?_
  refine VO.nil ?_
  refine VC.block ?_
  have hln : l.length = n := by omega
  clear hl hq
  refine VC.loopK [(0, _)] ⟨rfl, trivial⟩ ({t : Value × List Int × Int × Nat // t.2.2.1 = (n : Int) - 1 - t.2.2.2 ∧ t.2.2.2 ≤ n ∧ t.2.1.length = n}) (fun (iZ : {t : Value × List Int × Int × Nat // t.2.2.1 = (n : Int) - 1 - t.2.2.2 ∧ t.2.2.2 ≤ n ∧ t.2.1.length = n}) => match iZ with | ⟨⟨u, l, i, z⟩, hi, hz, hln⟩ => [(5, .v u), (7, avI i)]) (fun (iZ : {t : Value × List Int × Int × Nat // t.2.2.1 = (n : Int) - 1 - t.2.2.2 ∧ t.2.2.2 ≤ n ∧ t.2.1.length = n}) => match iZ with | ⟨⟨u, l, i, z⟩, hi, hz, hln⟩ => [.row u l.length 1 (intsL l) 3]) (fun (iZ : {t : Value × List Int × Int × Nat // t.2.2.1 = (n : Int) - 1 - t.2.2.2 ∧ t.2.2.2 ≤ n ∧ t.2.1.length = n}) => match iZ with | ⟨⟨u, l, i, z⟩, hi, hz, hln⟩ => k + z) (fun (iZ : {t : Value × List Int × Int × Nat // t.2.2.1 = (n : Int) - 1 - t.2.2.2 ∧ t.2.2.2 ≤ n ∧ t.2.1.length = n}) => match iZ with | ⟨⟨u, l, i, z⟩, hi, hz, hln⟩ => n - z) ⟨(u, l, (n : Int) - 1, 0), by show (n : Int) - 1 = (n : Int) - 1 - ((0 : Nat) : Int); omega, Nat.zero_le _, hln⟩ (Le.mk hB [0] ⟨rfl, rfl, rfl, trivial⟩ rfl rfl (show k ≤ k + 0 by omega)) ?_
  rintro ⟨⟨u, l, i, z⟩, hi, hz, hln⟩
  show VC _ _ _ _ ⟨[(5, .v u), (7, avI i)] ++ [(0, _)], [.row u l.length 1 (intsL l) 3], k + z⟩
  simp only at hi hz hln
  refine VC.seq ?_
  refine VC.sr ?_
  refine VO.mv rfl rfl rfl rfl ?_
  refine VO.val rfl rfl (OpV.gtr rfl rfl rfl) ?_
  refine VO.nil ?_
  refine VC.cond rfl (fun aH2b => ?_) (fun aH2b => ?_)
  ·have aH2 := aH2b
   try simp only [qqT, qqF, qqN, qqM, qqL, qqE] at aH2
   refine VC.skip ?_
   refine VC.seq ?_
   refine VC.block ?_
   refine VC.seq ?_
   obtain ⟨ii, rfl⟩ : ∃ ii : Nat, i = ii := ⟨i.toNat, by omega⟩
   have hii : ii < n := by omega
   refine VC.region ?_
   refine VO.mv rfl rfl rfl rfl ?_
   refine VO.mv rfl rfl rfl rfl ?_
   refine VO.val rfl rfl (OpV.add rfl rfl rfl (by unfold fits; omega)) ?_
   refine VO.op rfl (OpE.callT' (k + z) rfl rfl hB rfl Tryz.call42 rfl ((next_T (by omega))) (by omega) ?_)
   rintro _ ⟨r27, hr27, rfl⟩
   obtain ⟨kk, rfl⟩ : ∃ kk : Nat, r27 = kk := ⟨r27.toNat, by omega⟩
   have hkk : kk < n := by omega
   refine VO.ma rfl rfl rfl rfl ?_
   refine VO.nil ?_
   refine VC.asBox (i := 0) rfl (by omega) (fun g cap hu hcap hmx => ?_)
   subst hu
   refine VC.draw (fun j b => j ∈ [13, 15] ∧ b = g) hB (by kernel_rfl) ?_
   refine VA.take (i := 0) rfl (by kernel_rfl) (by kernel_rfl) (by kernel_rfl) rfl rfl (OpV.move (.inl rfl) rfl) ?_
   refine VA.take (i := 1) rfl (by kernel_rfl) (by kernel_rfl) (by kernel_rfl) rfl rfl (OpV.move (.inl rfl) rfl) ?_
   refine VA.take (i := 2) rfl (by kernel_rfl) (by kernel_rfl) (by kernel_rfl) rfl rfl (OpV.move (.inl rfl) rfl) ?_
   refine VA.take (i := 3) rfl (by kernel_rfl) (by kernel_rfl) (by kernel_rfl) rfl rfl (OpV.move (.inl rfl) rfl) ?_
   refine VA.take (i := 4) rfl (by kernel_rfl) (by kernel_rfl) (by kernel_rfl) rfl rfl (OpV.move (.inl rfl) rfl) ?_
   refine VA.take (i := 5) rfl (by kernel_rfl) (by kernel_rfl) (by kernel_rfl) rfl rfl (OpV.move (.inl rfl) rfl) ?_
   refine VA.take (i := 6) rfl (by kernel_rfl) (by kernel_rfl) (by kernel_rfl) rfl rfl (OpV.indexAddr_o rfl Tryz.underlying22 Tryz.sizeOf3 rfl rfl rfl (by omega)) ?_
   refine VA.take (i := 7) rfl (by kernel_rfl) (by kernel_rfl) (by kernel_rfl) rfl rfl (OpV.load_own (i := 0) rfl hB Tryz.isAgg3 rfl rfl (intsL_get (j := kk) (by omega)) (Wi.notD (by kernel_rfl))) ?_
   refine VA.take (i := 8) rfl (by kernel_rfl) (by kernel_rfl) (by kernel_rfl) rfl rfl (OpV.move (.inl rfl) rfl) ?_
   refine VA.take (i := 9) rfl (by kernel_rfl) (by kernel_rfl) (by kernel_rfl) rfl rfl (OpV.move (.inl rfl) rfl) ?_
   refine VA.take (i := 10) rfl (by kernel_rfl) (by kernel_rfl) (by kernel_rfl) rfl rfl (OpV.indexAddr_o rfl Tryz.underlying22 Tryz.sizeOf3 rfl rfl rfl (by omega)) ?_
   refine VA.take (i := 11) rfl (by kernel_rfl) (by kernel_rfl) (by kernel_rfl) rfl rfl (OpV.load_own (i := 0) rfl hB Tryz.isAgg3 rfl rfl (intsL_get (j := ii) (by omega)) (Wi.notD (by kernel_rfl))) ?_
   refine VA.take (i := 12) rfl (by kernel_rfl) (by kernel_rfl) (by kernel_rfl) rfl rfl (OpV.indexAddr_o rfl Tryz.underlying22 Tryz.sizeOf3 rfl rfl rfl (by omega)) ?_
   refine VA.all (rs := [13]) (by kernel_rfl) (by decide) ?_
   refine ⟨⟨_, rfl, .inl rfl, ?_⟩, trivial⟩
   refine OpE.store1 (i := 0) rfl hB rfl Tryz.sizeOf3 rfl rfl rfl rfl rfl rfl (by rw [intsL_len]; omega) (intsL_set _ _ _) (by first | exact ⟨rfl, rfl⟩ | exact .inl ⟨rfl, rfl⟩ | exact .inr ⟨rfl, rfl⟩ | exact ⟨rfl, trivial⟩ | exact .inl ⟨rfl, trivial⟩ | exact .inr ⟨rfl, trivial⟩ | exact ⟨by decide, rfl⟩) ?_
   refine VA.take (i := 14) rfl (by kernel_rfl) (by kernel_rfl) (by kernel_rfl) rfl rfl (OpV.indexAddr_o rfl Tryz.underlying22 Tryz.sizeOf3 rfl rfl rfl (by omega)) ?_
   refine VA.all (rs := [15]) (by kernel_rfl) (by decide) ?_
   refine ⟨⟨_, rfl, .inl rfl, ?_⟩, trivial⟩
   refine OpE.store1 (i := 0) rfl hB rfl Tryz.sizeOf3 rfl rfl rfl rfl rfl rfl (by rw [intsL_len, List.length_set]; omega) (intsL_set _ _ _) (by first | exact ⟨rfl, rfl⟩ | exact .inl ⟨rfl, rfl⟩ | exact .inr ⟨rfl, rfl⟩ | exact ⟨rfl, trivial⟩ | exact .inl ⟨rfl, trivial⟩ | exact .inr ⟨rfl, trivial⟩ | exact ⟨by decide, rfl⟩) ?_
   refine VA.done (by kernel_rfl) ?_
   refine VC.le _ (Le.boxRow (i := 0) (n := l.length) rfl (by rw [intsL_len, List.length_set, List.length_set]; omega) hcap hmx) ?_
   refine VC.region ?_
   refine VO.mv rfl rfl rfl rfl ?_
   refine VO.val rfl rfl (OpV.sub rfl rfl rfl (by unfold fits; omega)) ?_
   refine VO.ma rfl rfl rfl rfl ?_
   refine VO.nil ?_
   exact Exists.intro (⟨(.slice (some ⟨g, 0, none⟩) l.length cap, (l.set ii (l.getD kk 0)).set kk (l.getD ii 0), (ii : Int) - 1, z + 1), by show (ii : Int) - 1 = (n : Int) - 1 - ((z + 1 : Nat) : Int); omega, by show z + 1 ≤ n; omega, by simp; omega⟩) (And.intro (Le.mk hB [0] ⟨rfl, rfl, rfl, trivial⟩ rfl (by dsimp only; rw [List.length_set, List.length_set]; rfl) (show k + z + 1 ≤ k + (z + 1) by omega)) (by first | omega | (show _ < _; omega) | (simp only []; omega)))
  ·have aH2 := aH2b
   try simp only [qqT, qqF, qqN, qqM, qqL, qqE] at aH2
   refine VC.exit ?_
   refine VC.sr ?_
   refine VO.mv rfl rfl rfl rfl ?_
   refine VO.ma rfl rfl rfl rfl ?_
   refine VO.nil ?_
   refine VC.le _ (Le.rowI (t := 4) (i := 0) hB hnew rfl rfl rfl) ?_
   refine VC.ret ?_
   exact Exists.intro _ (And.intro (RetV.one Tryz.results130 (ResV.tmp rfl)) (And.intro (⟨l, hln, rfl⟩) ((show k + z ≤ k + 30 by omega))))
set_option maxRecDepth 100000 in
set_option maxHeartbeats 4000000 in
theorem anOrder_T {p : Nat} {L : List Int} {n : Nat} (hn : n ≤ 25) :
  SpecT Tryz.prog (TT p L) (fun b => b = p) 31 [sp p, avI (n : Int)] 40 (fun y => ∃ l : List Int, l.length ≤ n + 1 ∧ y = avInts l) := by
 refine SpecT.of_VC Tryz.func31 rfl Tryz.ntmps31 (Nle rfl) (low := (fun b => b ≤ p)) (fun w A k h => h.ok) fun w A k hk hB => ?_
 have hnew : True := trivial
 refine VC.sr ?_
 refine VO.ma rfl rfl rfl rfl ?_
 refine VO.nil ?_
 refine VC.sr ?_
 refine VO.ma rfl rfl rfl rfl ?_
 refine VO.nil ?_
 refine VC.seq ?_
 refine VC.sr ?_
 refine VO.mv rfl rfl rfl rfl ?_
 refine VO.val rfl rfl (OpV.gtr rfl rfl rfl) ?_
 refine VO.nil ?_
 refine VC.cond rfl (fun h0b => ?_) (fun h0b => ?_)
 ·have h0 := h0b
  try simp only [qqT, qqF, qqN, qqM, qqL, qqE] at h0
  refine VC.region ?_
  refine VO.mv rfl rfl rfl rfl ?_
  refine VO.mv rfl rfl rfl rfl ?_
  refine VO.op rfl (OpE.callT' (k) rfl rfl hB rfl Tryz.call130 rfl (order_T hn) (by omega) ?_)
  rintro _ ⟨l, hl, rfl⟩
  have hl1 : l.length ≤ n := Nat.le_of_eq hl
  refine VO.ma rfl rfl rfl rfl ?_
  refine VO.nil ?_
  refine VC.seq ?_
  refine VC.sr ?_
  refine VO.mv rfl rfl rfl rfl ?_
  refine VO.op rfl (OpE.callT' (k + 30) rfl rfl hB rfl Tryz.call17 rfl ((flip_T (by omega))) (by omega) ?_)
  rintro _ ⟨r12, rfl⟩
  refine VO.nil ?_
  refine VC.cond rfl (fun aH1b => ?_) (fun aH1b => ?_)
  ·have aH1 := aH1b
   try simp only [qqT, qqF, qqN, qqM, qqL, qqE] at aH1
   refine VC.region ?_
   refine VO.mv rfl rfl rfl rfl ?_
   refine VO.op rfl (OpE.callR rfl hB rfl Tryz.call120 (slices_Clone_R (by omega)) (ArgsP.cons (ArgP.ev rfl) (ArgsP.nil)) ?_)
   intro u14
   refine VO.mv rfl rfl rfl rfl ?_
   refine VO.mv rfl rfl rfl rfl ?_
   refine VO.op rfl (OpE.buildSlice (zc := #[.int .i64 0, .int .i64 0, .int .i64 0]) rfl hB rfl Tryz.underlying22 Tryz.sizeOf3 Tryz.zeroValue3 (by decide) (by decide) (by kernel_rfl) rfl rfl ?_)
   refine VO.op rfl (OpE.callT' (k + 30 + 1) rfl rfl hB rfl Tryz.call21 rfl (pick_X (by rfl) (by decide) (by decide) (by repeat (first | exact AllX.nil | refine AllX.cons ?_))) (by omega) ?_)
   rintro _ ⟨r18, rfl⟩
   refine VO.op rfl (OpE.buildSlice (zc := #[.int .i64 0]) rfl hB rfl Tryz.underlying22 Tryz.sizeOf3 Tryz.zeroValue3 (by decide) (by decide) (by kernel_rfl) rfl rfl ?_)
   refine VO.op rfl (OpE.append1 (i := 0) rfl hB rfl Tryz.underlying22 (infoOf Tryz.t3 1 (by kernel_rfl) rfl rfl) rfl (by decide) (by decide) rfl rfl rfl rfl (intsL_snoc _ _) (by omega) (fun _ _ => trivial) ?_)
   intro u20
   refine VO.ma rfl rfl rfl rfl ?_
   refine VO.nil ?_
   refine VC.sr ?_
   refine VO.mv rfl rfl rfl rfl ?_
   refine VO.ma rfl rfl rfl rfl ?_
   refine VO.nil ?_
   refine VC.le _ (Le.rowI (t := 4) (i := 0) hB hnew rfl rfl (by simp)) ?_
   refine VC.ret ?_
   exact Exists.intro _ (And.intro (RetV.one Tryz.results31 (ResV.tmp rfl)) (And.intro (by first | exact ⟨l, by omega, rfl⟩ | exact ⟨l ++ [r18], by simp; omega, rfl⟩) ((show k + 30 + 1 + 1 ≤ k + 40 by omega))))
  ·have aH1 := aH1b
   try simp only [qqT, qqF, qqN, qqM, qqL, qqE] at aH1
   refine VC.skip ?_
   refine VC.sr ?_
   refine VO.mv rfl rfl rfl rfl ?_
   refine VO.ma rfl rfl rfl rfl ?_
   refine VO.nil ?_
   skip
   refine VC.ret ?_
   exact Exists.intro _ (And.intro (RetV.one Tryz.results31 (ResV.tmp rfl)) (And.intro (by first | exact ⟨l, by omega, rfl⟩ | exact ⟨l ++ [r18], by simp; omega, rfl⟩) ((show k + 30 + 1 ≤ k + 40 by omega))))
 ·have h0 := h0b
  try simp only [qqT, qqF, qqN, qqM, qqL, qqE] at h0
  obtain ⟨l, hl1, hle⟩ : ∃ l : List Int, l.length ≤ n ∧ l = [] := ⟨[], Nat.zero_le _, rfl⟩
  refine VC.le _ (Le.recast (t := 5) (y := avInts l) rfl (fun w Z u h => by subst hle; rw [h.eq_v]; exact .nil _ _)) ?_
  refine VC.skip ?_
  refine VC.seq ?_
  refine VC.sr ?_
  refine VO.mv rfl rfl rfl rfl ?_
  refine VO.op rfl (OpE.callT' (k) rfl rfl hB rfl Tryz.call17 rfl ((flip_T (by omega))) (by omega) ?_)
  rintro _ ⟨r12, rfl⟩
  refine VO.nil ?_
  refine VC.cond rfl (fun aH2b => ?_) (fun aH2b => ?_)
  ·have aH2 := aH2b
   try simp only [qqT, qqF, qqN, qqM, qqL, qqE] at aH2
   refine VC.region ?_
   refine VO.mv rfl rfl rfl rfl ?_
   refine VO.op rfl (OpE.callR rfl hB rfl Tryz.call120 (slices_Clone_R (by omega)) (ArgsP.cons (ArgP.ev rfl) (ArgsP.nil)) ?_)
   intro u14
   refine VO.mv rfl rfl rfl rfl ?_
   refine VO.mv rfl rfl rfl rfl ?_
   refine VO.op rfl (OpE.buildSlice (zc := #[.int .i64 0, .int .i64 0, .int .i64 0]) rfl hB rfl Tryz.underlying22 Tryz.sizeOf3 Tryz.zeroValue3 (by decide) (by decide) (by kernel_rfl) rfl rfl ?_)
   refine VO.op rfl (OpE.callT' (k + 1) rfl rfl hB rfl Tryz.call21 rfl (pick_X (by rfl) (by decide) (by decide) (by repeat (first | exact AllX.nil | refine AllX.cons ?_))) (by omega) ?_)
   rintro _ ⟨r18, rfl⟩
   refine VO.op rfl (OpE.buildSlice (zc := #[.int .i64 0]) rfl hB rfl Tryz.underlying22 Tryz.sizeOf3 Tryz.zeroValue3 (by decide) (by decide) (by kernel_rfl) rfl rfl ?_)
   refine VO.op rfl (OpE.append1 (i := 0) rfl hB rfl Tryz.underlying22 (infoOf Tryz.t3 1 (by kernel_rfl) rfl rfl) rfl (by decide) (by decide) rfl rfl rfl rfl (intsL_snoc _ _) (by omega) (fun _ _ => trivial) ?_)
   intro u20
   refine VO.ma rfl rfl rfl rfl ?_
   refine VO.nil ?_
   refine VC.sr ?_
   refine VO.mv rfl rfl rfl rfl ?_
   refine VO.ma rfl rfl rfl rfl ?_
   refine VO.nil ?_
   refine VC.le _ (Le.rowI (t := 4) (i := 0) hB hnew rfl rfl (by simp)) ?_
   refine VC.ret ?_
   exact Exists.intro _ (And.intro (RetV.one Tryz.results31 (ResV.tmp rfl)) (And.intro (by first | exact ⟨l, by omega, rfl⟩ | exact ⟨l ++ [r18], by simp; omega, rfl⟩) ((show k + 1 + 1 ≤ k + 40 by omega))))
  ·have aH2 := aH2b
   try simp only [qqT, qqF, qqN, qqM, qqL, qqE] at aH2
   refine VC.skip ?_
   refine VC.sr ?_
   refine VO.mv rfl rfl rfl rfl ?_
   refine VO.ma rfl rfl rfl rfl ?_
   refine VO.nil ?_
   skip
   refine VC.ret ?_
   exact Exists.intro _ (And.intro (RetV.one Tryz.results31 (ResV.tmp rfl)) (And.intro (by first | exact ⟨l, by omega, rfl⟩ | exact ⟨l ++ [r18], by simp; omega, rfl⟩) ((show k + 1 ≤ k + 40 by omega))))
end Go.Proofs.YtmahammdnmmmoaaGreatDoor
