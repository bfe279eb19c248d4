/- The symbolic walk over typed lists. -/
import Derived.Test.YtgikefjbdhnffaaDoorSxJoin
namespace Go.Proofs.YtgikefjbdhnffaaDoor
open Go.RowKit
set_option linter.unusedVariables false
set_option linter.unusedSimpArgs false

/-- A struct of k cells. -/
class Sxc (α : Type) [Inhabited α] where
  k : Nat
  pos : 0 < k
  cell : α → Nat → AV
section
variable {α : Type} [Inhabited α] [Sxc α]
abbrev avL (xs : List α) : AV := imE xs.length (Sxc.k α) fun q => Sxc.cell (xs.getD q default)
abbrev avT (x : α) : AV := .agg (tab (Sxc.k α) (Sxc.cell x))
def rowL (xs : List α) : List AV := xs.flatMap fun x => tab (Sxc.k α) (Sxc.cell x)
theorem rowL_len (xs : List α) : (rowL xs).length = xs.length * Sxc.k α := by
  induction xs with
  | nil => simp [rowL]
  | cons x xs ih => simp only [rowL, List.flatMap_cons, List.length_append, tab_len, List.length_cons] at ih ⊢; rw [ih, Nat.add_mul]; omega
theorem rowL_snoc (xs : List α) (x : α) : rowL xs ++ tab (Sxc.k α) (Sxc.cell x) = rowL (xs ++ [x]) := by simp [rowL]
theorem rowL_get : ∀ (xs : List α) (q j : Nat), q < xs.length → j < Sxc.k α → (rowL xs)[q * Sxc.k α + j]? = some (Sxc.cell (xs.getD q default) j)
  | [], q, j, h, _ => by simp at h
  | x :: xs, 0, j, _, hj => by
    simp only [rowL, List.flatMap_cons, Nat.zero_mul, Nat.zero_add]
    rw [List.getElem?_append_left (by rw [tab_len]; exact hj), List.getElem?_eq_getElem (by rw [tab_len]; exact hj), tab_get]
    rfl
  | x :: xs, q + 1, j, h, hj => by
    have ih := rowL_get xs q j (by simpa using h) hj
    simp only [rowL, List.flatMap_cons] at ih ⊢
    rw [List.getElem?_append_right (by rw [tab_len, Nat.add_mul]; omega), tab_len, show (q + 1) * Sxc.k α + j - Sxc.k α = q * Sxc.k α + j by rw [Nat.add_mul]; omega, ih]
    simp
theorem Rep.rowL {w : World} {Z : Nat → Prop} {xs : List α} {n : Nat} (hn : n = xs.length) {u : Value} (h : Rep w Z (.im n (Sxc.k α) fun j => (rowL xs).getD j .any) u) : Rep w Z (avL xs) u := by
  subst hn
  refine h.im_congr fun j hj => ?_
  have hp := Sxc.pos (α := α)
  have hq : j / Sxc.k α < xs.length := (Nat.div_lt_iff_lt_mul hp).2 hj
  have := rowL_get xs (j / Sxc.k α) (j % Sxc.k α) hq (Nat.mod_lt _ hp)
  rw [Nat.div_add_mod' j (Sxc.k α)] at this
  rw [List.getD_eq_getElem?_getD, this]; rfl
end

theorem Rep.bools {w : World} {Z : Nat → Prop} {xs : List Bool} {n : Nat} (hn : n = xs.length) {u : Value} (h : Rep w Z (.im n 1 fun j => (boolsL xs).getD j .any) u) : Rep w Z (avBools xs) u := by
  subst hn
  exact h.im_congr fun j hj => by simp at hj; simp [boolsL, hj]
theorem boolsL_snoc (xs : List Bool) (n : Bool) : boolsL xs ++ [avB n] = boolsL (xs ++ [n]) := by simp [boolsL]

section
variable {P : Program} {B : Bs} {W : Nat → Prop} {s : St'} {o : Oper} {K : St' → Prop} {Q : Exit → St' → Prop}

theorem OpE.append1 {x y : Operand} {T e i n sz bytes : Nat} {u z : Value} {cs cs' : List AV} {F : Nat → AV} (ho : o.op = .call { callee := .builtin .append, args := #[x, y], argTypes := #[T, T] }) (hB : B.Ok) (hd : okd B.nt o.dst = true)
    (hu : P.underlying T = some (.slice e)) (hinfo : (P.info? e).map (fun i => (i.zero, i.size, i.bytes)) = some (some z, sz, bytes)) (hz : z.cells.size = sz) (hsz : 0 < sz) (hby : bytes ≤ 4096)
    (hx : evO s x = some (.v u)) (hi : s.hp[i]? = some (.row u n sz cs e)) (hy : evO s y = some (.im 1 sz F)) (hone : (tab sz F).all AV.one = true) (hcs : cs ++ tab sz F = cs') (hlen : n + 1 ≤ 10000000000) (hW : ∀ g, u.ownBlock = some g → W g)
    (hK : ∀ u', K ((St'.mk s.sl (s.hp.set i (.row u' (n + 1) sz cs' e)) s.k).put o.dst (.v u'))) : OpE P B W s o K := by
  refine OpE.append (m := 1) ho hB hd hu hinfo hz hsz hby hx hi hy (by omega) (fun j hj => ?_) hlen hW fun u' => ?_
  · rw [Nat.one_mul] at hj
    have := List.all_eq_true.1 hone (F j) (by
      have h : j < (tab sz F).length := by rw [tab_len]; exact hj
      exact List.mem_iff_getElem.2 ⟨j, h, tab_get _ _ _ h⟩)
    exact this
  · rw [Nat.one_mul, hcs]; exact hK u'

theorem OpE.store1 {x y : Operand} {t g j i : Nat} {o' : Own'} {v : AV} {cs' : List AV} (ho : o.op = .store t x y) (hB : B.Ok) (hd : okd B.nt o.dst = true) (hsz : ∀ w, (sizeOf t).run P w = .ok 1 w) (hx : evO s x = some (.v (.pointer (some ⟨g, j, none⟩)))) (hy : evO s y = some v)
    (hone : v.one = true) (hc1 : cellsOf v = [v]) (hk : v.known = true) (hi : s.hp[i]? = some (.box g o')) (hj : j < o'.cs.length) (hcs : o'.cs.set j v = cs') (hW : W g)
    (hK : K ((St'.mk s.sl (s.hp.set i (.box g ⟨cs', o'.ty, o'.tot⟩)) s.k).put o.dst (.v undef))) : OpE P B W s o K := by
  subst hcs
  refine OpE.store ho hB hd hsz hx hy hk (by rw [hc1]; rfl) (by rw [hc1]; simpa using hone) hi (by omega) hW ?_
  rw [hc1]; exact hK

theorem made_ints (n : Nat) : (madeCells (Value.int .i64 0).cells (n * 1)).toList.map AV.v = intsL (List.replicate n 0) := by
  show (madeCells #[Value.int .i64 0] (n * 1)).toList.map AV.v = _
  rw [Nat.mul_one, toList_madeCells_one]; simp [intsL]
theorem made_bools (n : Nat) : (madeCells (Value.bool false).cells (n * 1)).toList.map AV.v = boolsL (List.replicate n false) := by
  show (madeCells #[Value.bool false] (n * 1)).toList.map AV.v = _
  rw [Nat.mul_one, toList_madeCells_one]; simp [boolsL]
theorem made_strs (n : Nat) (e : ByteArray) : (madeCells (Value.string e).cells (n * 1)).toList.map AV.v = strsL (List.replicate n e) := by
  show (madeCells #[Value.string e] (n * 1)).toList.map AV.v = _
  rw [Nat.mul_one, toList_madeCells_one]; simp [strsL]

/-- From own to unchanging, typed. -/
theorem Le.row {t i n sz : Nat} {u : Value} {cs : List AV} {ty : TypeId} {y : AV} (hB : B.Ok) (hnew : True) (ht : look s.sl t = some (.v u)) (hi : s.hp[i]? = some (.row u n sz cs ty))
    (hy : ∀ w Z u, Rep w Z (.im n sz fun j => cs.getD j .any) u → Rep w Z y u) : Le B s ⟨(t, y) :: s.sl, s.hp.eraseIdx i, s.k⟩ :=
  (Le.freezeRow ht hi hnew hB).trans (fun a w hr => by
    have := hr.over t (hy _ _ _ (hr.slots t _ (by simp [look_put])))
    exact this.drop (fun t' x h => by rw [look_put] at h ⊢; split at h <;> rename_i e; (rw [if_pos e]; exact h); (rw [if_neg e, look_put, if_neg e]; exact h)) (List.Sublist.refl _))
theorem Le.box {t i n sz g off cap : Nat} {o' : Own'} {y : AV} (hB : B.Ok) (hnew : True) (ht : look s.sl t = some (.v (.slice (some ⟨g, off, none⟩) n cap))) (hi : s.hp[i]? = some (.box g o')) (hl : off + n * sz ≤ o'.cs.length) (hn : n ≤ cap) (hmx : cap ≤ maxLen)
    (hy : ∀ w Z u, Rep w Z (.im n sz fun j => o'.cs.getD (off + j) .any) u → Rep w Z y u) : Le B s ⟨(t, y) :: s.sl, s.hp.eraseIdx i, s.k⟩ :=
  (Le.freezeBox ht hi hl hn hmx hnew hB).trans (fun a w hr => by
    have := hr.over t (hy _ _ _ (hr.slots t _ (by simp [look_put])))
    exact this.drop (fun t' x h => by rw [look_put] at h ⊢; split at h <;> rename_i e; (rw [if_pos e]; exact h); (rw [if_neg e, look_put, if_neg e]; exact h)) (List.Sublist.refl _))

/-- Operands of a call: values that are known or lie in unchanging memory, and own things lent. -/
def ArgP (P : Program) (B : Bs) (s : St') (x : Operand) (v : AV) : Prop := ∀ a w, R B s a w → Rep w (fun b => b < w.heap.size ∧ True) v (a.eval x)
theorem ArgP.ev {x : Operand} {v : AV} (h : evO s x = some v) : ArgP P B s x v := fun a w hr => (hr.ev h).keep fun b hb _ => ⟨rfl, hb.1, trivial⟩
theorem ArgP.row {x : Operand} {i n sz : Nat} {u : Value} {cs : List AV} {ty : TypeId} {y : AV} (hx : evO s x = some (.v u)) (hi : s.hp[i]? = some (.row u n sz cs ty)) (hy : ∀ w Z u, Rep w Z (.im n sz fun j => cs.getD j .any) u → Rep w Z y u) : ArgP P B s x y := fun a w hr => by
  rw [hr.evv hx]
  exact hy _ _ _ (hr.repRow hi (fun b hb => ⟨hb.1, trivial⟩) fun g _ hl => ⟨hl, trivial⟩)
theorem ArgP.box {x : Operand} {i n sz g off cap : Nat} {o' : Own'} {y : AV} (hx : evO s x = some (.v (.slice (some ⟨g, off, none⟩) n cap))) (hi : s.hp[i]? = some (.box g o')) (hl : off + n * sz ≤ o'.cs.length) (hn : n ≤ cap) (hmx : cap ≤ maxLen)
    (hy : ∀ w Z u, Rep w Z (.im n sz fun j => o'.cs.getD (off + j) .any) u → Rep w Z y u) : ArgP P B s x y := fun a w hr => by
  rw [hr.evv hx]
  exact hy _ _ _ (hr.repBox hi hl hn hmx (fun b hb => ⟨hb.1, trivial⟩) fun hl => ⟨hl, trivial⟩)
theorem ArgP.ptr {x : Operand} {i m g off : Nat} {o' : Own'} {y : AV} (hx : evO s x = some (.v (.pointer (some ⟨g, off, none⟩)))) (hi : s.hp[i]? = some (.box g o')) (hl : off + m ≤ o'.cs.length)
    (hy : ∀ w Z u, Rep w Z (.at_ m fun j => o'.cs.getD (off + j) .any) u → Rep w Z y u) : ArgP P B s x y := fun a w hr => by
  rw [hr.evv hx]
  exact hy _ _ _ (hr.repPtr hi hl (fun b hb => ⟨hb.1, trivial⟩) fun hl => ⟨hl, trivial⟩)
def ArgsP (P : Program) (B : Bs) (s : St') : List Operand → List AV → Prop
  | [], [] => True
  | x :: r, v :: l => ArgP P B s x v ∧ ArgsP P B s r l
  | _, _ => False
theorem ArgsP.args {a : Act} {w : World} (hr : R B s a w) : ∀ {ops : List Operand} {xs : List AV}, ArgsP P B s ops xs → ops.length = xs.length ∧ ∀ j, (h : j < xs.length) → Rep w (fun b => b < w.heap.size ∧ True) xs[j] ((ops.map a.eval).getD j undef)
  | [], [], _ => ⟨rfl, fun j h => by simp at h⟩
  | [], _ :: _, h => h.elim
  | _ :: _, [], h => h.elim
  | x :: r, v :: l, h => by
    obtain ⟨k1, k2⟩ := ArgsP.args hr h.2
    refine ⟨by simp [k1], fun j hj => ?_⟩
    cases j with
    | zero => exact h.1 a w hr
    | succ j => exact k2 j (by simpa using hj)
/-- A call with own things lent. -/
theorem OpE.callL {f : FuncId} {args : Array Operand} {ts : Array TypeId} {xs : List AV} {G : AV → Prop} (ho : o.op = .call { callee := .value (.func f), args := args, argTypes := ts }) (hB : B.Ok) (hd : okd B.nt o.dst = true)
    (hcall : ∀ us w, (callFunc f us).run P w = .ok (.enter f us) w) (hspec : SpecN P f xs G) (hargs : ArgsP P B s args.toList xs) (hK : ∀ y, G y → K (s.put o.dst y)) : OpE P B W s o K :=
  OpE.callB ho hB hd hcall (fun a w hr => by
    obtain ⟨k1, k2⟩ := ArgsP.args hr hargs
    refine ⟨by simpa using k1, fun j hj => ?_⟩
    rw [show (args.map a.eval).getD j undef = (args.toList.map a.eval).getD j undef by rw [Array.getD_eq_getD_getElem?, List.getD_eq_getElem?_getD]; simp]
    exact k2 j hj) hspec hK

/-- A cond whose value is known. -/
theorem VC.condT {c : Operand} {x y : Code} {b : Bool} (hc : evO s c = some (.v (.bool b))) (hb : b = true) (h : VC P B x Q s) : VC P B (.cond c x y) Q s := VC.cond hc (fun _ => h) fun e => by rw [hb] at e; cases e
theorem VC.condF {c : Operand} {x y : Code} {b : Bool} (hc : evO s c = some (.v (.bool b))) (hb : b = false) (h : VC P B y Q s) : VC P B (.cond c x y) Q s := VC.cond hc (fun e => by rw [hb] at e; cases e) fun _ => h
theorem VO.opY {ops : Array Oper} {rest : List Oper} {o : Oper} {j : Nat} {want b : Bool} {t : Nat} (hg : o.guard = some (j, want)) (hj : (ops[j]?).bind (·.dst) = some t) (hb : look s.sl t = some (.v (.bool b))) (hd : okd B.nt o.dst = true)
    (hw : b = want) (h1 : OpE P B AllW s o (VO P B ops rest Q)) : VO P B ops (o :: rest) Q s := VO.opG hg hj hb hd (fun _ => h1) fun e => by rw [hw] at e; cases want <;> cases e
theorem VO.opX {ops : Array Oper} {rest : List Oper} {o : Oper} {j : Nat} {want b : Bool} {t : Nat} (hg : o.guard = some (j, want)) (hj : (ops[j]?).bind (·.dst) = some t) (hb : look s.sl t = some (.v (.bool b))) (hd : okd B.nt o.dst = true)
    (hw : b = !want) (h1 : VO P B ops rest Q (s.put o.dst (.v undef))) : VO P B ops (o :: rest) Q s := VO.opG hg hj hb hd (fun e => by rw [hw] at e; cases want <;> cases e) fun _ => h1
theorem VA.takeY {V : Nat → Nat → Prop} {ops : Array Oper} {n : Nat} {L : Array Bool} {i : Nat} {o : Oper} {j t : Nat} {want b : Bool} {x : AV} (hi : ops[i]? = some o) (hs : Region.noSelect ops = true) (hf : Region.free .any ops L i = true) (hr : (Region.ready .any ops L).contains i = true) (hg : o.guard = some (j, want)) (hj : (ops[j]?).bind (·.dst) = some t)
    (hb : look s.sl t = some (.v (.bool b))) (hd : okd B.nt o.dst = true) (hw : b = want) (hv : OpV P B (Wi V ops i) s o x) (h : VA P B V ops Q n (L.setIfInBounds i true) (s.put o.dst x)) : VA P B V ops Q (n + 1) L s :=
  VA.takeG hi hs hf hr hg hj hb hd (fun _ => ⟨x, hv, h⟩) fun e => by rw [hw] at e; cases want <;> cases e
theorem VA.takeX {V : Nat → Nat → Prop} {ops : Array Oper} {n : Nat} {L : Array Bool} {i : Nat} {o : Oper} {j t : Nat} {want b : Bool} (hi : ops[i]? = some o) (hs : Region.noSelect ops = true) (hf : Region.free .any ops L i = true) (hr : (Region.ready .any ops L).contains i = true) (hg : o.guard = some (j, want)) (hj : (ops[j]?).bind (·.dst) = some t)
    (hb : look s.sl t = some (.v (.bool b))) (hd : okd B.nt o.dst = true) (hw : b = !want) (h : VA P B V ops Q n (L.setIfInBounds i true) (s.put o.dst (.v undef))) : VA P B V ops Q (n + 1) L s :=
  VA.takeG hi hs hf hr hg hj hb hd (fun e => by rw [hw] at e; cases want <;> cases e) fun _ => h
theorem OpV.pickT {c x y : Operand} {b : Bool} {v1 v2 : AV} (ho : o.op = .pick c x y) (hc : evO s c = some (.v (.bool b))) (hx : evO s x = some v1) (hy : evO s y = some v2) (hb : b = true) : OpV P B W s o v1 := by
  subst hb; exact OpV.pick ho hc hx hy
theorem OpV.pickF {c x y : Operand} {b : Bool} {v1 v2 : AV} (ho : o.op = .pick c x y) (hc : evO s c = some (.v (.bool b))) (hx : evO s x = some v1) (hy : evO s y = some v2) (hb : b = false) : OpV P B W s o v2 := by
  subst hb; exact OpV.pick ho hc hx hy
end
end Go.Proofs.YtgikefjbdhnffaaDoor
