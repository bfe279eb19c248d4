/- The symbolic walk: rows that are made longer ahead of their cells, slices of a row that may be nil, two slices that lie apart. -/
import Derived.Test.YtgikefjbdhnffaaDoorSxMore
import Derived.Lib.AppendZerosOnto
import Derived.Lib.Overlaps
namespace Go.Proofs.YtgikefjbdhnffaaDoor
open Go.RowKit
set_option linter.unusedVariables false
set_option linter.unusedSimpArgs false

section
variable {P : Program} {B : Bs} {W : Nat → Prop} {s s' : St'} {o : Oper} {K : St' → Prop} {a : Act} {w w' : World} {Q : Exit → St' → Prop}

theorem OpV.cap_v {x : Operand} {T e n c : Nat} {ad : Option Addr} (ho : o.op = .call { callee := .builtin .cap, args := #[x], argTypes := #[T] }) (hu : P.underlying T = some (.slice e))
    (hx : evO s x = some (.v (.slice ad n c))) : OpV P B W s o (.v (.int .i64 c)) :=
  OpV.conc (fun a w hr w' hcw => by simp [execOp, ho, resolve, invoke, builtin, Builtin.cap_, run_underlying hu, hr.evv hx, goInt])

/-- A part of a row that may be nil: what it is does not matter. -/
theorem OpV.slice_rowA {t e sz i n l h : Nat} {x : Operand} {u : Value} {cs : List AV} {ty : TypeId} {lo hi : Option Operand} (ho : o.op = .slice t x lo hi none) (hu : P.underlying t = some (.slice e)) (hsz : ∀ w, (sizeOf e).run P w = .ok sz w) (hx : evO s x = some (.v u))
    (hi' : s.hp[i]? = some (.row u n sz cs ty)) (hl : BndO s lo 0 l) (hh : BndO s hi n h) (h1 : l ≤ h) (h2 : h ≤ n) : OpV P B W s o .any := fun a w hr => by
  obtain ⟨_, ⟨rfl, rfl⟩ | ⟨g, cap, c, rfl, k1, _⟩⟩ := hr.blocks _ (List.mem_of_getElem? hi')
  · have e := fun w' => sliceB_run (P := P) (isS := true) (len := 0) (cap := 0) (l := l) (h := h) (lo := lo.map a.eval) (hi := hi.map a.eval) (dl := (hl.run hr).imp (fun ⟨h1, h2⟩ => ⟨by rw [h1]; rfl, h2⟩) id) (dh := (hh.run hr).imp (fun ⟨h1, h2⟩ => ⟨by rw [h1]; rfl, h2⟩) id) h1 h2 w'
    exact ⟨_, fun w' hc => by simp [execOp, ho, Instr.sliceAt, Instr.slice, run_underlying hu, hr.evv hx, e w', hsz]; rfl, .any _⟩
  · have e := fun w' => sliceB_run (P := P) (isS := true) (len := n) (cap := cap) (l := l) (h := h) (lo := lo.map a.eval) (hi := hi.map a.eval) (dl := (hl.run hr).imp (fun ⟨h1, h2⟩ => ⟨by rw [h1]; rfl, h2⟩) id) (dh := (hh.run hr).imp (fun ⟨h1, h2⟩ => ⟨by rw [h1]; rfl, h2⟩) id) h1 (by omega) w'
    exact ⟨_, fun w' hc => by simp [execOp, ho, Instr.sliceAt, Instr.slice, run_underlying hu, hr.evv hx, e w', hsz]; rfl, .any _⟩
/-- A part of nil. -/
theorem OpV.slice_nilv {t e sz : Nat} {x : Operand} {lo hi : Option Operand} (ho : o.op = .slice t x lo hi none) (hu : P.underlying t = some (.slice e)) (hsz : ∀ w, (sizeOf e).run P w = .ok sz w) (hx : evO s x = some (.v (.slice none 0 0)))
    (hl : BndO s lo 0 0) (hh : BndO s hi 0 0) : OpV P B W s o (.v (.slice none 0 0)) := fun a w hr => by
  have e := fun w' => sliceB_run (P := P) (isS := true) (len := 0) (cap := 0) (l := 0) (h := 0) (lo := lo.map a.eval) (hi := hi.map a.eval) (dl := (hl.run hr).imp (fun ⟨h1, h2⟩ => ⟨by rw [h1]; rfl, h2⟩) id) (dh := (hh.run hr).imp (fun ⟨h1, h2⟩ => ⟨by rw [h1]; rfl, h2⟩) id) (Nat.le_refl _) (Nat.le_refl _) w'
  exact ⟨_, fun w' hc => by simp [execOp, ho, Instr.sliceAt, Instr.slice, run_underlying hu, hr.evv hx, e w', hsz], .v _⟩

/-- append(x, make(.., k)..) where x has no elements and no room: a new row of k elements. -/
theorem OpE.appendZ {x y : Operand} {T Tn e sz bytes cap k : Nat} {base : Option Addr} {z : Value} {kn kq : IntKind} {kk : Int} (ho : o.op = .call { callee := .builtin .append, args := #[x, y], argTypes := #[T, Tn] }) (hB : B.Ok) (hd : okd B.nt o.dst = true)
    (hu : P.underlying T = some (.slice e)) (hun : P.underlying Tn = some (.int kn)) (hinfo : (P.info? e).map (fun i => (i.zero, i.size, i.bytes)) = some (some z, sz, bytes)) (hz : z.cells.size = sz) (hsz : 0 < sz) (hby : bytes ≤ 4096)
    (hx : evO s x = some (.v (.slice base 0 cap))) (hy : evO s y = some (.v (.int kq kk))) (hkk : kk = k) (hk : 0 < k) (hcap : cap < k) (hlen : k ≤ 10000000000)
    (hK : ∀ u, K ((St'.mk s.sl (s.hp ++ [.row u k sz (List.replicate (k * sz) .any) e]) s.k).put o.dst (.v u))) : OpE P B W s o K := by
  subst hkk
  obtain ⟨ii, hii, hz0, hz1, hz2⟩ := info_parts hinfo
  subst hz1; subst hz2
  intro a w hr next Qx hn
  have hb47 : k * ii.bytes ≤ 140737488355328 := by
    have : k * ii.bytes ≤ 10000000000 * 4096 := Nat.mul_le_mul hlen hby
    omega
  have hrun := Lib.run_append_grow_zeros (P := P) w T Tn o.type e ii z kq kn hu hun hii hz0 base 0 cap [] (by
    cases base with
    | none => rfl
    | some x0 =>
      have := run_loadCells_list (P := P) w.drew x0 [] (fun j v hj => by simp at hj)
      simpa [Builtin.firstCells] using this) k hk hsz (by omega) (by omega) (by omega) (by rw [Nat.zero_add]; exact growslice_fits hcap hb47)
  simp only [Nat.zero_add] at hrun
  have hge := grownCap_ge w k cap e
  have hcm := grownCap_le_maxLen w k cap e (by simp only [maxLen]; omega)
  have hr' : R B ⟨s.sl, s.hp ++ [.row (.slice (some ⟨w.heap.size, 0, none⟩) k (grownCap w k cap e)) k ii.size (List.replicate (k * ii.size) .any) e], s.k⟩ a _ :=
    hr.newRow hB (((Chg.refl NoB w).drew).alloc (.cells (#[] ++ Builtin.zeroCells z.cells k ++ Builtin.zeroCells z.cells (grownCap w k cap e - k)) e)) (fun g hg => by simp [Ent.blk, Value.ownBlock] at hg; omega) ⟨by simp, .inr ⟨_, _, _, rfl, hge, hcm, heap_alloc_new _ _, by
      simp only [Array.size_append, size_zeroCells, hz, List.size_toArray, List.length_nil]
      rw [Nat.sub_mul]
      have := Nat.mul_le_mul_right ii.size hge
      omega, fun j hj => by
      simp only [List.length_replicate] at hj
      have hlt : j < (#[] ++ Builtin.zeroCells z.cells k ++ Builtin.zeroCells z.cells (grownCap w k cap e - k)).size := by
        simp only [Array.size_append, size_zeroCells, hz, List.size_toArray, List.length_nil]
        omega
      exact ⟨_, Array.getElem?_eq_getElem hlt, by simp only [List.getElem_replicate]; exact .any _⟩⟩⟩
  unfold Oper.wp
  simp only [execOp, ho, resolve, invoke, builtin, List.map_toArray, List.map_cons, List.map_nil, hr.evv hx, hr.evv hy, Sem.run_bind, Sem.run_pure, Result.andThen_ok, hrun]
  exact hn _ _ _ (hK _) (hr'.put _ hd _ _ (.v _)) (.ofN (((Chg.refl NoB w).drew).alloc _))

theorem Le.swap {i : Nat} {e e' : Ent} (hi : s.hp[i]? = some e) (hblk : e'.blk = e.blk) (hE : ∀ w Z, EntR w Z e → EntR w Z e') : Le B s ⟨s.sl, s.hp.set i e', s.k⟩ := fun a w hr => hr.swap hi hblk (hE w)
/-- The cells behind the known ones. -/
theorem Le.padBox {i g tot : Nat} {cs : List AV} {ty : TypeId} (m : Nat) (hi : s.hp[i]? = some (.box g ⟨cs, ty, tot⟩)) (hm : cs.length + m ≤ tot) : Le B s ⟨s.sl, s.hp.set i (.box g ⟨cs ++ List.replicate m .any, ty, tot⟩), s.k⟩ :=
  Le.swap hi rfl fun w Z ⟨c, h1, h2, h3, h4⟩ => ⟨c, h1, h2, by simpa using hm, fun j hj => by
    simp only at h2 h3 h4 hj ⊢
    by_cases hjl : j < cs.length
    · obtain ⟨u, k1, k2⟩ := h4 j hjl
      exact ⟨u, k1, by rw [List.getElem_append_left hjl]; exact k2⟩
    · rw [List.length_append, List.length_replicate] at hj
      have hlt : j < c.size := by rw [h2]; omega
      exact ⟨_, Array.getElem?_eq_getElem hlt, by rw [List.getElem_append_right (by omega), List.getElem_replicate]; exact .any _⟩⟩
theorem Le.cutBox {i g tot : Nat} {cs : List AV} {ty : TypeId} (m : Nat) (hi : s.hp[i]? = some (.box g ⟨cs, ty, tot⟩)) : Le B s ⟨s.sl, s.hp.set i (.box g ⟨cs.take m, ty, tot⟩), s.k⟩ :=
  Le.swap hi rfl fun w Z ⟨c, h1, h2, h3, h4⟩ => ⟨c, h1, h2, by simp only [List.length_take] at h3 ⊢; omega, fun j hj => by
    simp only [List.length_take] at hj h4 ⊢
    obtain ⟨u, k1, k2⟩ := h4 j (by omega)
    exact ⟨u, k1, by rw [List.getElem_take]; exact k2⟩⟩
theorem Le.cutBoxE {i g tot : Nat} {cs cs' : List AV} {ty : TypeId} (m : Nat) (hi : s.hp[i]? = some (.box g ⟨cs, ty, tot⟩)) (h : cs.take m = cs') : Le B s ⟨s.sl, s.hp.set i (.box g ⟨cs', ty, tot⟩), s.k⟩ := by
  subst h
  exact Le.cutBox m hi
/-- The own things with these numbers, in this order; the slots stay. -/
theorem Le.pickH {hp : List Ent} (ix : List Nat) (hix : ndB ix = true) (h3 : keepIx ix s.hp = hp) : Le B s ⟨s.sl, hp, s.k⟩ := fun a w hr => by
  subst h3
  have hm : ∀ p ∈ keepIx ix s.hp, p ∈ s.hp := fun p hp => by
    rw [keepIx_fm] at hp
    obtain ⟨i, _, hi⟩ := List.mem_filterMap.1 hp
    exact List.mem_of_getElem? hi
  have hz : ∀ b, Zn B s.hp w b → Zn B (keepIx ix s.hp) w b := fun b hb => ⟨hb.1, fun p hp' => hb.2.1 p (hm p hp'), hb.2.2⟩
  refine ⟨fun t x hx => (hr.slots t x hx).keep fun b hb _ => ⟨rfl, hz b hb⟩, hr.size, hr.defs, fun p hp' => (hr.blocks p (hm p hp')).keep (fun b hb _ => ⟨rfl, hz b hb⟩) fun _ _ => rfl, ?_, hr.chg, fun p hp' g hg => hr.own p (hm p hp') g hg, hr.res⟩
  show Apart (keepIx ix s.hp)
  unfold Apart
  rw [keepIx_fm, List.pairwise_filterMap]
  refine (ndB_spec hix).imp fun {i j} hij p hp q hq g hg => hr.nodup.get hp hq hij hg
theorem Le.drop (m : Nat) : Le B s ⟨s.sl, s.hp.drop m, s.k⟩ := fun a w hr => hr.drop (fun _ _ h => h) (List.drop_sublist m s.hp)
theorem VO.asBox {ops : Array Oper} {rest : List Oper} {i n sz : Nat} {u : Value} {cs : List AV} {ty : TypeId} (hi : s.hp[i]? = some (.row u n sz cs ty)) (hn : 0 < n)
    (h : ∀ g cap, u = .slice (some ⟨g, 0, none⟩) n cap → n ≤ cap → cap ≤ maxLen → VO P B ops rest Q ⟨s.sl, s.hp.set i (.box g ⟨cs, ty, cap * sz⟩), s.k⟩) : VO P B ops rest Q s := fun a w hr => by
  obtain ⟨g, cap, h1, h2, h3, h4⟩ := hr.rowBox hi hn
  exact h g cap h1 h2 h3 a w h4

theorem VO.rowIs {ops : Array Oper} {rest : List Oper} {i n sz : Nat} {u : Value} {cs : List AV} {ty : TypeId} (hi : s.hp[i]? = some (.row u n sz cs ty)) (h : ∀ b c, u = .slice b n c → VO P B ops rest Q s) : VO P B ops rest Q s := fun a w hr => by
  obtain ⟨_, ⟨rfl, rfl⟩ | ⟨g, cap, c, rfl, _⟩⟩ := hr.blocks _ (List.mem_of_getElem? hi)
  · exact h none 0 rfl a w hr
  · exact h _ cap rfl a w hr
theorem VC.rowIs {c0 : Code} {Qc : Exit → St' → Prop} {i n sz : Nat} {u : Value} {cs : List AV} {ty : TypeId} (hi : s.hp[i]? = some (.row u n sz cs ty)) (h : ∀ b c, u = .slice b n c → VC P B c0 Qc s) : VC P B c0 Qc s := fun a w hr => by
  obtain ⟨_, ⟨rfl, rfl⟩ | ⟨g, cap, c, rfl, _⟩⟩ := hr.blocks _ (List.mem_of_getElem? hi)
  · exact h none 0 rfl a w hr
  · exact h _ cap rfl a w hr
theorem look_k {l : List (Nat × AV)} {t : Nat} {b want : Bool} (h : look l t = some (.v (.bool b))) (hb : b = want) : look l t = some (.v (.bool want)) := hb ▸ h
theorem SpecH.args {F : FuncId} {xs xs' : List AV} {hp : List Ent} {G : AV → List Ent → Prop} (h : SpecH P F xs hp G) (hl : xs'.length = xs.length) (ha : ∀ (j : Nat) (h1 : j < xs'.length) (h2 : j < xs.length) (w : World) (Z : Nat → Prop) (u : Value), Rep w Z xs'[j] u → Rep w Z xs[j] u) : SpecH P F xs' hp G :=
  fun w A us h1 => h w A us ⟨h1.1.trans hl, fun j hj => ha j (by omega) hj _ _ _ (h1.2 j (by omega))⟩
theorem ArgP.nil {x : Operand} {sz : Nat} {F : Nat → AV} (h : evO s x = some (.v (.slice none 0 0))) : ArgP P B s x (.im 0 sz F) := fun a w hr => by
  rw [hr.evv h]
  exact .nil _ _
/-- The cells of a block of one's own, seen otherwise. -/
theorem Le.recastBox {i g tot : Nat} {cs cs' : List AV} {ty : TypeId} (hi : s.hp[i]? = some (.box g ⟨cs, ty, tot⟩)) (hl : cs'.length = cs.length) (h : ∀ (j : Nat) (h1 : j < cs.length) (h2 : j < cs'.length) (w : World) (Z : Nat → Prop) (u : Value), Rep w Z cs[j] u → Rep w Z cs'[j] u) : Le B s ⟨s.sl, s.hp.set i (.box g ⟨cs', ty, tot⟩), s.k⟩ :=
  Le.swap hi rfl fun w Z ⟨c, h1, h2, h3, h4⟩ => ⟨c, h1, h2, by simp only at h3 ⊢; omega, fun j hj => by
    obtain ⟨u, k1, k2⟩ := h4 j (by simp only at hj ⊢; omega)
    exact ⟨u, k1, h j _ _ _ _ _ k2⟩⟩
/-- A list that nobody changes and a part of one's own block lie apart. -/
theorem OpE.overlaps {x y : Operand} {ts : Array TypeId} {F : FuncId} {T Tr e sz i g off n cap m : Nat} {o' : Own'} {F0 : Nat → AV} (ho : o.op = .call { callee := .value (.func F), args := #[x, y], argTypes := ts }) (hB : B.Ok) (hd : okd B.nt o.dst = true)
    (hcall : ∀ us w, (callFunc F us).run P w = ((Extern.SlicesOverlaps.overlaps #[T, T] #[Tr] us).run P w).andThen fun v w' => .ok (.value v) w') (hu : P.underlying T = some (.slice e)) (hsz : ∀ w, (sizeOf e).run P w = .ok sz w)
    (hx : evO s x = some (.im m sz F0)) (hm : 0 < m) (hy : evO s y = some (.v (.slice (some ⟨g, off, none⟩) n cap))) (hi : s.hp[i]? = some (.box g o')) (ht : 0 < o'.tot) (hK : K (s.put o.dst (avB false))) : OpE P B W s o K := by
  intro a w hr next Qx hn
  have hex := hr.ev hx
  generalize hv : a.eval x = v at hex
  obtain ⟨c, h1, h2, h3, h4⟩ := hr.blocks _ (List.mem_of_getElem? hi)
  cases hex with
  | nil => omega
  | im m sz F b off2 cap2 c2 e2 u hZ k1 k2 hb hc hr2 =>
    have hne : b ≠ g := fun e => hZ.2.1 _ (List.mem_of_getElem? hi) (by rw [e]; rfl)
    have hov := Lib.run_overlaps_apart (P := P) w T Tr e hu sz hsz ⟨b, off2, none⟩ ⟨g, off, none⟩ m cap2 n cap hne e2 o'.ty c2.size c.size (by simp [World.shape?, hb]) (by simp [World.shape?, h1]) (by omega) (by simp [World.frozen?, hb]) (by simp [World.frozen?, hb])
    unfold Oper.wp
    simp only [execOp, ho, resolve, Act.eval, Deferred.ofValue, Sem.run_bind, Sem.run_pure, Result.andThen_ok, invoke, hcall, Array.empty_append, Array.append_empty, List.map_toArray, List.map_cons, List.map_nil]
    have hv' := hv
    simp only [Act.eval] at hv'
    have hy' := hr.evv hy
    simp only [Act.eval] at hy'
    rw [hv', hy', hov]
    exact hn _ _ _ hK (hr.put _ hd _ _ (.v _)) (Ew.rf _)
end
instance : Sx1 (List (List ByteArray)) := ⟨fun x => avM x⟩
instance : Sx1 (List (List Int)) := ⟨fun x => avM x⟩
end Go.Proofs.YtgikefjbdhnffaaDoor
