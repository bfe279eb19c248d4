/- The symbolic walk: weaker states; ways that meet again; lists as values. -/
import Derived.Test.YtgikefjbdhnffaaDoorSxDraw
namespace Go.Proofs.YtgikefjbdhnffaaDoor
open Go.RowKit
set_option linter.unusedVariables false
set_option linter.unusedSimpArgs false

/-- All slots of the list hold what it says. -/
def LeL (sl : List (Nat × AV)) : List (Nat × AV) → Prop
  | [] => True
  | (t, x) :: r => look sl t = some x ∧ LeL sl r
theorem LeL.look {sl : List (Nat × AV)} : ∀ {l : List (Nat × AV)}, LeL sl l → ∀ t x, look l t = some x → Proofs.YtgikefjbdhnffaaDoor.look sl t = some x
  | [], _, t, x, h => by simp [Proofs.YtgikefjbdhnffaaDoor.look] at h
  | (t', y) :: r, hl, t, x, h => by
    rw [look_put] at h
    split at h
    · rename_i e; subst e; cases h; exact hl.1
    · exact LeL.look hl.2 t x h

/-- The entries with these numbers. -/
def keepIx : List Nat → List Ent → List Ent
  | [], _ => []
  | i :: r, hp => match hp[i]? with
    | some e => e :: keepIx r hp
    | none => keepIx r hp
def incr : List Nat → Bool
  | [] => true
  | [_] => true
  | i :: j :: r => Nat.blt i j && incr (j :: r)
theorem incr_tail {i : Nat} {r : List Nat} (h : incr (i :: r) = true) : incr r = true := by
  cases r with
  | nil => rfl
  | cons j r => simp only [incr, Bool.and_eq_true] at h; exact h.2
theorem incr_lt : ∀ {r : List Nat} {i : Nat}, incr (i :: r) = true → ∀ j ∈ r, i < j
  | [], i, _, j, hj => by simp at hj
  | k :: r, i, h, j, hj => by
    simp only [incr, Bool.and_eq_true] at h
    have h1 : i < k := Nat.le_of_ble_eq_true h.1
    rcases List.mem_cons.1 hj with rfl | hj
    · exact h1
    · exact Nat.lt_trans h1 (incr_lt h.2 j hj)
theorem keepIx_shift : ∀ (r : List Nat) (e : Ent) (hp : List Ent), (∀ j ∈ r, 0 < j) → keepIx r (e :: hp) = keepIx (r.map (· - 1)) hp
  | [], e, hp, _ => rfl
  | i :: r, e, hp, h => by
    have hi := h i (by simp)
    obtain ⟨j, rfl⟩ : ∃ j, i = j + 1 := ⟨i - 1, by omega⟩
    simp only [keepIx, List.getElem?_cons_succ, List.map_cons, Nat.add_sub_cancel]
    rw [keepIx_shift r e hp fun q hq => h q (by simp [hq])]
theorem incr_pred : ∀ {r : List Nat}, incr r = true → (∀ j ∈ r, 0 < j) → incr (r.map (· - 1)) = true
  | [], _, _ => rfl
  | [i], _, _ => rfl
  | i :: j :: r, h, hp => by
    simp only [incr, Bool.and_eq_true, List.map_cons] at h ⊢
    have h1 : i < j := Nat.le_of_ble_eq_true h.1
    have h0 := hp i (by simp)
    refine ⟨by simp [Nat.blt]; omega, ?_⟩
    simpa using incr_pred h.2 fun q hq => hp q (by simp at hq ⊢; exact .inr hq)
theorem keepIx_sub : ∀ (hp : List Ent) (r : List Nat), incr r = true → (keepIx r hp).Sublist hp
  | [], r, _ => by
    have : keepIx r [] = [] := by
      induction r with
      | nil => rfl
      | cons i r ih => simp only [keepIx, List.getElem?_nil]; exact ih (incr_tail ‹_›)
    rw [this]; exact List.Sublist.refl _
  | e :: hp, [], _ => List.nil_sublist _
  | e :: hp, i :: r, h => by
    by_cases hi : i = 0
    · subst hi
      simp only [keepIx, List.getElem?_cons_zero]
      rw [keepIx_shift r e hp fun j hj => by have := incr_lt h j hj; omega]
      exact (keepIx_sub hp _ (incr_pred (incr_tail h) fun j hj => by have := incr_lt h j hj; omega)).cons_cons e
    · have hpos : ∀ j ∈ i :: r, 0 < j := fun j hj => by
        rcases List.mem_cons.1 hj with rfl | hj
        · omega
        · have := incr_lt h j hj; omega
      rw [keepIx_shift (i :: r) e hp hpos]
      exact (keepIx_sub hp _ (incr_pred h hpos)).cons e

section
variable {P : Program} {B : Bs} {W : Nat → Prop} {s s' : St'} {a : Act} {w w' : World} {o : Oper} {K : St' → Prop} {Q : Exit → St' → Prop}

/-- The state s' says no more than s. -/
def Le (B : Bs) (s s' : St') : Prop := ∀ a w, R B s a w → R B s' a w
theorem Le.mk {sl : List (Nat × AV)} {hp : List Ent} {k : Nat} (hB : B.Ok) (ix : List Nat) (h1 : LeL s.sl sl) (hix : incr ix = true) (h3 : keepIx ix s.hp = hp) (hk : s.k ≤ k) : Le B s ⟨sl, hp, k⟩ := fun a w hr => by
  subst h3
  have h := hr.drop (sl := sl) (fun t x hx => h1.look t x hx) (keepIx_sub s.hp ix hix)
  exact ⟨h.slots, h.size, h.defs, h.blocks, h.nodup, h.chg, h.own, hB.up h.res hk⟩
theorem Le.refl : Le B s s := fun _ _ h => h
theorem Le.trans {s'' : St'} (h : Le B s s') (k : Le B s' s'') : Le B s s'' := fun a w hr => k a w (h a w hr)

/-- Ways that meet again: behind x the state is s'. -/
theorem VC.join {x y : Code} (s' : St') (h : VC P B x (thenQ (fun s => Le B s s') Q) s) (k : VC P B y Q s') : VC P B (.seq x y) Q s :=
  VC.seq (VC.mono (fun e s h => by cases e <;> first | exact fun a w hr => k a w (h a w hr) | exact h) h)
/-- The same with a family of states. -/
theorem VC.joinI {x y : Code} (ι : Type) (T : ι → St') (h : VC P B x (thenQ (fun s => ∃ i, Le B s (T i)) Q) s) (k : ∀ i, VC P B y Q (T i)) : VC P B (.seq x y) Q s :=
  VC.seq (VC.mono (fun e s h => by cases e <;> first | exact fun a w hr => (let ⟨i, hi⟩ := h; k i a w (hi a w hr)) | exact h) h)
theorem VC.le {c : Code} (s' : St') (h : Le B s s') (k : VC P B c Q s') : VC P B c Q s := VC.conv h k
theorem VO.le {ops : Array Oper} {rest : List Oper} (s' : St') (h : Le B s s') (k : VO P B ops rest Q s') : VO P B ops rest Q s := VO.conv h k
theorem VA.le {V : Nat → Nat → Prop} {ops : Array Oper} {n : Nat} {L : Array Bool} (s' : St') (h : Le B s s') (k : VA P B V ops Q n L s') : VA P B V ops Q n L s := fun a w hr => k a w (h a w hr)
theorem VC.loop' {c : Code} (ι : Type) (T : ι → St') (μ : ι → Nat) (i0 : ι) (h0 : Le B s (T i0))
    (round : ∀ i, VC P B c (thenQ (fun s' => ∃ j, Le B s' (T j) ∧ μ j < μ i) Q) (T i)) : VC P B (.loop c) Q s := VC.loop ι T μ i0 h0 round

/-- The entries with these numbers, in this order. -/
def ndB : List Nat → Bool
  | [] => true
  | x :: r => !(r.any (Nat.beq x)) && ndB r
theorem ndB_spec : ∀ {r : List Nat}, ndB r = true → r.Pairwise (· ≠ ·)
  | [], _ => List.Pairwise.nil
  | x :: r, h => by
    simp only [ndB, Bool.and_eq_true, Bool.not_eq_true'] at h
    refine List.Pairwise.cons (fun y hy e => ?_) (ndB_spec h.2)
    subst e
    have : r.any (Nat.beq x) = true := List.any_eq_true.2 ⟨x, hy, Nat.beq_refl x⟩
    rw [h.1] at this; cases this
theorem keepIx_fm : ∀ (ix : List Nat) (hp : List Ent), keepIx ix hp = ix.filterMap (fun i => hp[i]?)
  | [], _ => rfl
  | i :: r, hp => by
    simp only [keepIx, List.filterMap_cons]
    cases hp[i]? with
    | none => exact keepIx_fm r hp
    | some e => simp only; rw [keepIx_fm r hp]
theorem Le.pick {sl : List (Nat × AV)} {hp : List Ent} {k : Nat} (hB : B.Ok) (ix : List Nat) (h1 : LeL s.sl sl) (hix : ndB ix = true) (h3 : keepIx ix s.hp = hp) (hk : s.k ≤ k) : Le B s ⟨sl, hp, k⟩ := fun a w hr => by
  subst h3
  have hm : ∀ p ∈ keepIx ix s.hp, p ∈ s.hp := fun p hp => by
    rw [keepIx_fm] at hp
    obtain ⟨i, _, hi⟩ := List.mem_filterMap.1 hp
    exact List.mem_of_getElem? hi
  have hz : ∀ b, Zn B s.hp w b → Zn B (keepIx ix s.hp) w b := fun b hb => ⟨hb.1, fun p hp' => hb.2.1 p (hm p hp'), hb.2.2⟩
  refine ⟨fun t x hx => (hr.slots t x (h1.look t x hx)).keep fun b hb _ => ⟨rfl, hz b hb⟩, hr.size, hr.defs, fun p hp' => (hr.blocks p (hm p hp')).keep (fun b hb _ => ⟨rfl, hz b hb⟩) fun _ _ => rfl, ?_, hr.chg, fun p hp' g hg => hr.own p (hm p hp') g hg, hB.up hr.res hk⟩
  show Apart (keepIx ix s.hp)
  unfold Apart
  rw [keepIx_fm, List.pairwise_filterMap]
  refine (ndB_spec hix).imp fun {i j} hij p hp q hq g hg => hr.nodup.get hp hq hij hg

/-- A loop; kept: the slots that no round changes. -/
theorem VC.loopK {c : Code} {Q : Exit → St' → Prop} (kept : List (Nat × AV)) (hk : LeL s.sl kept) (ι : Type) (vs : ι → List (Nat × AV)) (hp : ι → List Ent) (kk : ι → Nat) (μ : ι → Nat) (i0 : ι) (h0 : Le B s ⟨vs i0 ++ kept, hp i0, kk i0⟩)
    (round : ∀ i, VC P B c (thenQ (fun s' => ∃ j, Le B s' ⟨vs j ++ kept, hp j, kk j⟩ ∧ μ j < μ i) Q) ⟨vs i ++ kept, hp i, kk i⟩) : VC P B (.loop c) Q s := VC.loop' ι (fun i => ⟨vs i ++ kept, hp i, kk i⟩) μ i0 h0 round

/-- What a way has shown to be impossible. -/
theorem VC.absurd {c : Code} (h : False) : VC P B c Q s := h.elim

/-- A row is given up: its slot holds a list that nobody changes. -/
theorem Le.freezeRow {t i n sz : Nat} {u : Value} {cs : List AV} {ty : TypeId} (ht : look s.sl t = some (.v u)) (hi : s.hp[i]? = some (.row u n sz cs ty)) (hnew : True) (hB : B.Ok) :
    Le B s ⟨(t, .im n sz fun j => cs.getD j .any) :: s.sl, s.hp.eraseIdx i, s.k⟩ := fun a w hr => by
  have hm := List.mem_of_getElem? hi
  have hr' := hr.erase i
  refine hr'.over t ?_
  have hu : a.tmps.getD t undef = u := (hr.slots t _ ht).eq_v
  rw [hu]
  refine hr.repRow hi (fun b hb => ⟨hb.1, fun p hp => hb.2.1 p ((List.eraseIdx_sublist s.hp i).subset hp), hb.2.2⟩) fun g hg hl => ?_
  exact hr.erased hB hi hg
theorem Le.freezeBox {t i n sz g off cap : Nat} {o' : Own'} (ht : look s.sl t = some (.v (.slice (some ⟨g, off, none⟩) n cap))) (hi : s.hp[i]? = some (.box g o')) (hl : off + n * sz ≤ o'.cs.length) (hn : n ≤ cap) (hmx : cap ≤ maxLen) (hnew : True) (hB : B.Ok) :
    Le B s ⟨(t, .im n sz fun j => o'.cs.getD (off + j) .any) :: s.sl, s.hp.eraseIdx i, s.k⟩ := fun a w hr => by
  have hm := List.mem_of_getElem? hi
  have hr' := hr.erase i
  refine hr'.over t ?_
  have hu : a.tmps.getD t undef = _ := (hr.slots t _ ht).eq_v
  rw [hu]
  refine hr.repBox hi hl hn hmx (fun b hb => ⟨hb.1, fun p hp => hb.2.1 p ((List.eraseIdx_sublist s.hp i).subset hp), hb.2.2⟩) fun hl => ?_
  exact hr.erased hB hi rfl
/-- Another word for what a slot holds. -/
theorem Le.recast {t : Nat} {x y : AV} (ht : look s.sl t = some x) (hxy : ∀ w Z u, Rep w Z x u → Rep w Z y u) : Le B s ⟨(t, y) :: s.sl, s.hp, s.k⟩ := fun a w hr => hr.over t (hxy _ _ _ (hr.slots t x ht))
theorem Le.nilRow (sz : Nat) (ty : TypeId) : Le B s ⟨s.sl, s.hp ++ [.row (.slice none 0 0) 0 sz [] ty], s.k⟩ := fun a w hr => hr.rowNil sz ty
end

theorem Rep.im_congr {w : World} {Z : Nat → Prop} {n sz : Nat} {f g : Nat → AV} (h : ∀ j, j < n * sz → f j = g j) {u : Value} (hr : Rep w Z (.im n sz f) u) : Rep w Z (.im n sz g) u := by
  cases hr with
  | nil => exact .nil sz g
  | im n sz f b off cap c e u hZ h1 h2 hb hc hr => exact .im n sz g b off cap c e u hZ h1 h2 hb hc fun j hj => h j hj ▸ hr j hj
theorem Rep.at_congr {w : World} {Z : Nat → Prop} {m : Nat} {f g : Nat → AV} (h : ∀ j, j < m → f j = g j) {u : Value} (hr : Rep w Z (.at_ m f) u) : Rep w Z (.at_ m g) u := by
  cases hr with
  | at_ m f b off c e u hZ hb hc hr => exact .at_ m g b off c e u hZ hb hc fun j hj => h j hj ▸ hr j hj

/-- A list of elements of k cells each. -/
abbrev imE (n k : Nat) (F : Nat → Nat → AV) : AV := .im n k fun q => F (q / k) (q % k)
section
variable {P : Program} {B : Bs} {W : Nat → Prop} {s : St'} {o : Oper}
theorem OpV.indexAddr_1 {x y : Operand} {t e n q : Nat} {k : IntKind} {i : Int} {F : Nat → AV} (ho : o.op = .indexAddr t x y) (hu : P.underlying t = some (.slice e)) (hsz : ∀ w, (sizeOf e).run P w = .ok 1 w)
    (hx : evO s x = some (.im n 1 F)) (hy : evO s y = some (.v (.int k i))) (hq : i = (q : Int)) (h1 : q < n) : OpV P B W s o (.at_ 1 fun _ => F q) := fun a w hr => by
  subst hq
  obtain ⟨v, k1, k2⟩ := OpV.indexAddr_im (W := W) ho hu hsz hx hy (by omega) (by omega) a w hr
  exact ⟨v, k1, k2.at_congr fun j hj => by simp [show j = 0 by omega]⟩
theorem OpV.indexAddr_E {x y : Operand} {t e n sz q : Nat} {k : IntKind} {i : Int} {F : Nat → Nat → AV} (ho : o.op = .indexAddr t x y) (hu : P.underlying t = some (.slice e)) (hsz : ∀ w, (sizeOf e).run P w = .ok sz w)
    (hx : evO s x = some (imE n sz F)) (hy : evO s y = some (.v (.int k i))) (hq : i = (q : Int)) (h1 : q < n) : OpV P B W s o (.at_ sz (F q)) := fun a w hr => by
  subst hq
  obtain ⟨v, k1, k2⟩ := OpV.indexAddr_im (W := W) ho hu hsz hx hy (by omega) (by omega) a w hr
  refine ⟨v, k1, k2.at_congr fun j hj => ?_⟩
  simp only [Int.toNat_natCast]
  rw [Nat.add_comm, Nat.add_mul_div_right _ _ (by omega), Nat.add_mul_mod_self_right, Nat.div_eq_of_lt hj, Nat.mod_eq_of_lt hj, Nat.zero_add]
end

abbrev avI (n : Int) : AV := .v (.int .i64 n)
abbrev avB (b : Bool) : AV := .v (.bool b)
abbrev avS (p : ByteArray) : AV := .v (.string p)
abbrev avInts (xs : List Int) : AV := .im xs.length 1 fun j => avI (xs.getD j 0)
abbrev avStrs (xs : List ByteArray) : AV := .im xs.length 1 fun j => avS (xs.getD j ByteArray.empty)
abbrev avBools (xs : List Bool) : AV := .im xs.length 1 fun j => avB (xs.getD j false)
def intsL (xs : List Int) : List AV := xs.map fun n => avI n
def strsL (xs : List ByteArray) : List AV := xs.map fun n => avS n
def boolsL (xs : List Bool) : List AV := xs.map fun n => avB n
theorem intsL_len (xs : List Int) : (intsL xs).length = xs.length := by simp [intsL]
theorem strsL_len (xs : List ByteArray) : (strsL xs).length = xs.length := by simp [strsL]
theorem boolsL_len (xs : List Bool) : (boolsL xs).length = xs.length := by simp [boolsL]
theorem intsL_snoc (xs : List Int) (n : Int) : intsL xs ++ [avI n] = intsL (xs ++ [n]) := by simp [intsL]
theorem strsL_snoc (xs : List ByteArray) (n : ByteArray) : strsL xs ++ [avS n] = strsL (xs ++ [n]) := by simp [strsL]
theorem intsL_set (xs : List Int) (j : Nat) (n : Int) : (intsL xs).set j (avI n) = intsL (xs.set j n) := by simp [intsL, List.map_set]
theorem strsL_set (xs : List ByteArray) (j : Nat) (n : ByteArray) : (strsL xs).set j (avS n) = strsL (xs.set j n) := by simp [strsL, List.map_set]
theorem boolsL_set (xs : List Bool) (j : Nat) (n : Bool) : (boolsL xs).set j (avB n) = boolsL (xs.set j n) := by simp [boolsL, List.map_set]
theorem intsL_get {xs : List Int} {j : Nat} (h : j < xs.length) : (intsL xs)[j]? = some (avI (xs.getD j 0)) := by simp [intsL, h]
theorem strsL_get {xs : List ByteArray} {j : Nat} (h : j < xs.length) : (strsL xs)[j]? = some (avS (xs.getD j ByteArray.empty)) := by simp [strsL, h]
theorem boolsL_get {xs : List Bool} {j : Nat} (h : j < xs.length) : (boolsL xs)[j]? = some (avB (xs.getD j false)) := by simp [boolsL, h]
theorem Rep.ints {w : World} {Z : Nat → Prop} {xs : List Int} {n : Nat} (hn : n = xs.length) {u : Value} (h : Rep w Z (.im n 1 fun j => (intsL xs).getD j .any) u) : Rep w Z (avInts xs) u := by
  subst hn
  exact h.im_congr fun j hj => by simp at hj; simp [intsL, hj]
theorem Rep.strs {w : World} {Z : Nat → Prop} {xs : List ByteArray} {n : Nat} (hn : n = xs.length) {u : Value} (h : Rep w Z (.im n 1 fun j => (strsL xs).getD j .any) u) : Rep w Z (avStrs xs) u := by
  subst hn
  exact h.im_congr fun j hj => by simp at hj; simp [strsL, hj]
end Go.Proofs.YtgikefjbdhnffaaDoor
