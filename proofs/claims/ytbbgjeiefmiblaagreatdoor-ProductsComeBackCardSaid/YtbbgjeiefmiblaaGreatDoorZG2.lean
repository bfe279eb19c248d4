/- Part 2 of a proof: the walks and laws that it needs. -/
import Derived.MapKept
import Derived.Lib.AppendZerosOnto
import Derived.Lib.Overlaps
import Derived.Shelf.SlIter.Nil
import Derived.Shelf.SortM.Plain
import Derived.Shelf.SortM.SortNone
import Derived.Ground.GgzProg
import Derived.Ground.SlgmProg
import Derived.Test.YtbbgjeiefmiblaaGreatDoorProg
import Derived.StringKeys
import Derived.Deep.QuietTactic
import Derived.BigQuiet
import Derived.Test.YtbbgjeiefmiblaaGreatDoorZG1
namespace Go.Proofs.YtbbgjeiefmiblaaGreatDoor
open Go.RowKit
set_option linter.unusedVariables false
set_option linter.unusedSimpArgs false

def mE {κ α : Type} (kv : κ → Value) (E : α → AV) : List (κ × α) → Nat → List (Value × AV × Nat)
 | [], _ => []
 | p :: r, j => (kv p.1, E p.2, j) :: mE kv E r (j + 1)
abbrev mapE {κ α : Type} (kv : κ → Value) (g : Nat) (E : α → AV) (l : List (κ × α)) : Ent := .mp g (mE kv E l 0) l.length
def mget {κ α : Type} [DecidableEq κ] : List (κ × α) → κ → Option α
 | [], _ => none
 | p :: r, k => if k = p.1 then some p.2 else mget r k
def mput {κ α : Type} [DecidableEq κ] : List (κ × α) → κ → α → List (κ × α)
 | [], k, x => [(k, x)]
 | p :: r, k, x => if k = p.1 then (k, x) :: r else p :: mput r k x
def mpos {κ α : Type} [DecidableEq κ] : List (κ × α) → κ → Nat
 | [], _ => 0
 | p :: r, k => if k = p.1 then 0 else mpos r k + 1
section
variable {κ α : Type} {kv : κ → Value} {E : α → AV}
theorem mE_len : ∀ (l : List (κ × α)) (i : Nat), (mE kv E l i).length = l.length
 | [], _ => rfl
 | _ :: r, i => by simp [mE, mE_len r]
theorem mE_get : ∀ (l : List (κ × α)) (i j : Nat) (h : j < l.length), (mE kv E l i)[j]? = some (kv (l[j]).1, E (l[j]).2, i + j)
 | [], _, _, h => by simp at h
 | p :: r, i, 0, _ => by simp [mE]
 | p :: r, i, j + 1, h => by
  simp only [mE, List.getElem?_cons_succ, List.getElem_cons_succ]
  rw [mE_get r (i + 1) j (by simpa using h)]
  congr 3; omega
theorem mE_born : ∀ (l : List (κ × α)) (i : Nat), (mE kv E l i).map (·.2.2) = List.range' i l.length
 | [], _ => rfl
 | p :: r, i => by simp [mE, mE_born r, List.range'_succ]
variable [DecidableEq κ]
theorem mpos_le : ∀ (l : List (κ × α)) (k : κ), mpos l k ≤ l.length
 | [], _ => Nat.le_refl _
 | p :: r, k => by
  have := mpos_le r k
  simp only [mpos, List.length_cons]; split <;> omega
theorem mget_pos : ∀ (l : List (κ × α)) (k : κ), mget l k = (l[mpos l k]?).map (·.2)
 | [], _ => rfl
 | p :: r, k => by
  simp only [mget, mpos]
  split
  ·rfl
  ·rw [mget_pos r k]; simp
theorem mpos_key : ∀ (l : List (κ × α)) (k : κ) (h : mpos l k < l.length), (l[mpos l k]).1 = k
 | [], _, h => by simp at h
 | p :: r, k, h => by
  by_cases e : k = p.1
  ·simp [mpos, e]
  ·simp only [mpos, if_neg e, List.getElem_cons_succ]
   exact mpos_key r k (by simp only [mpos, if_neg e, List.length_cons] at h; omega)
theorem mpos_ne : ∀ (l : List (κ × α)) (k : κ) (j : Nat) (h : j < mpos l k), ∃ h' : j < l.length, (l[j]).1 ≠ k
 | [], _, j, h => by simp [mpos] at h
 | p :: r, k, j, h => by
  by_cases e : k = p.1
  ·simp [mpos, e] at h
  ·simp only [mpos, if_neg e] at h
   cases j with
   | zero => exact ⟨by simp, fun h' => e h'.symm⟩
   | succ j => obtain ⟨h1, h2⟩ := mpos_ne r k j (by omega); exact ⟨by simpa using h1, by simpa using h2⟩
theorem mput_new : ∀ (l : List (κ × α)) (k : κ) (x : α), mpos l k = l.length → mput l k x = l ++ [(k, x)]
 | [], _, _, _ => rfl
 | p :: r, k, x, h => by
  by_cases e : k = p.1
  ·simp [mpos, e] at h
  ·simp only [mpos, if_neg e, List.length_cons] at h
   simp only [mput, if_neg e, List.cons_append]
   rw [mput_new r k x (by omega)]
theorem mput_old : ∀ (l : List (κ × α)) (k : κ) (x : α), mpos l k < l.length → mput l k x = l.set (mpos l k) (k, x)
 | [], _, _, h => by simp at h
 | p :: r, k, x, h => by
  by_cases e : k = p.1
  ·simp [mput, mpos, e]
  ·simp only [mpos, if_neg e, List.length_cons] at h
   simp only [mput, mpos, if_neg e, List.set_cons_succ]
   rw [mput_old r k x (by omega)]
theorem mput_len (l : List (κ × α)) (k : κ) (x : α) : (mput l k x).length = if mpos l k < l.length then l.length else l.length + 1 := by
 split
 ·rename_i h; rw [mput_old l k x h]; simp
 ·rename_i h; rw [mput_new l k x (by have := mpos_le l k; omega)]; simp
end

structure KeyOk (P : Program) (kt : TypeId) {κ : Type} [DecidableEq κ] (kv : κ → Value) : Prop where
 check : ∀ (e : Bool) (k : κ) (w : World), (Instr.checkKey e 10000 kt (kv k)).run P w = .ok () w
 find : ∀ {α : Type} (l : List (κ × α)) (c : List MapEntry) (k : κ) (w : World), c.length = l.length → (∀ j (h : j < l.length), ∃ e, c[j]? = some e ∧ e.key = kv (l[j]).1) →
  (Instr.findKey kt (kv k) c).run P w = .ok (if mpos l k < l.length then (c[mpos l k]?).map fun e => (mpos l k, e.val) else none) w
 stay : ∀ (k : κ) (w : World), (Instr.keyThatStays (kv k) (kv k)).run P w = .ok (kv k) w
theorem findNow_str {α : Type} : ∀ (l : List (ByteArray × α)) (c : List MapEntry) (k : ByteArray), c.length = l.length → (∀ j (h : j < l.length), ∃ e, c[j]? = some e ∧ e.key = .string (l[j]).1) →
  ∀ i, Instr.findNow .string (.string k) c i = some (if mpos l k < l.length then (c[mpos l k]?).map fun e => (i + mpos l k, e.val) else none)
 | [], c, k, hl, h, i => by
  have : c = [] := List.eq_nil_of_length_eq_zero (by simpa using hl)
  subst this; rfl
 | p :: r, [], k, hl, h, i => by simp at hl
 | p :: r, e :: c, k, hl, h, i => by
  obtain ⟨e0, h1, h2⟩ := h 0 (by simp)
  simp at h1 h2
  subst h1
  simp only [Instr.findNow, h2, Instr.sameNow]
  by_cases ek : k = p.1
  ·have : (k == p.1) = true := by rw [bA_beq]; exact decide_eq_true ek
   rw [this]
   simp [mpos, ek]
  ·have : (k == p.1) = false := by rw [bA_beq]; exact decide_eq_false ek
   rw [this]
   simp only
   rw [findNow_str r c k (by simpa using hl) (fun j hj => h (j + 1) (Nat.succ_lt_succ hj)) (i + 1)]
   simp only [mpos, if_neg ek, List.length_cons, Nat.add_lt_add_iff_right, List.getElem?_cons_succ]
   rw [show i + 1 + mpos r k = i + (mpos r k + 1) by omega]
theorem KeyOk.str {P : Program} {kt : TypeId} (hk : P.underlying kt = some .string) : KeyOk P kt (fun k : ByteArray => Value.string k) where
 check e k w := by
  rw [show (10000 : Nat) = 9999 + 1 from rfl, Instr.checkKey]
  simp only [Sem.run_bind, run_underlying hk, Result.andThen_ok, Sem.run_pure]
 find l c k w hl h := by
  have := findNow_str l c k hl h 0
  simp only [Nat.zero_add] at this
  simp only [Instr.findKey, Sem.run_bind, run_underlying hk, Result.andThen_ok, this, Sem.run_pure]
 stay k w := by
  have : Instr.sameBits 10000 (.string k) (.string k) = true := by
   simp only [Instr.sameBits, bA_beq, decide_true]
  simp [Instr.keyThatStays, this]
end Go.Proofs.YtbbgjeiefmiblaaGreatDoor
namespace Go.Proofs.YtbbgjeiefmiblaaGreatDoor
open Go.RowKit
set_option linter.unusedVariables false
set_option linter.unusedSimpArgs false

section
variable {P : Program} {B : Bs} {W : Nat → Prop} {s s' : St'} {o : Oper} {K : St' → Prop} {a : Act} {w w' : World} {Q : Exit → St' → Prop}

theorem Le.swap {i : Nat} {e e' : Ent} (hi : s.hp[i]? = some e) (hblk : e'.blk = e.blk) (hE : ∀ w Z, EntR w Z e → EntR w Z e') : Le B s ⟨s.sl, s.hp.set i e', s.k⟩ := fun a w hr => hr.swap hi hblk (hE w)
theorem Le.pickH {hp : List Ent} (ix : List Nat) (hix : ndB ix = true) (h3 : keepIx ix s.hp = hp) : Le B s ⟨s.sl, hp, s.k⟩ := fun a w hr => by
 subst h3
 have hm : ∀ p ∈ keepIx ix s.hp, p ∈ s.hp := fun p hp => by
  rw [keepIx_fm] at hp
  obtain ⟨i, _, hi⟩ := List.mem_filterMap.1 hp
  exact List.mem_of_getElem? hi
 have hz : ∀ b, Zn B s.hp w b → Zn B (keepIx ix s.hp) w b := fun b hb => ⟨hb.1, fun p hp' => hb.2.1 p (hm p hp'), hb.2.2⟩
 refine ⟨fun t x hx => (hr.slots t x hx).keep fun b hb _ => ⟨rfl, hz b hb⟩, hr.size, hr.defs, fun p hp' => (hr.blocks p (hm p hp')).keep (fun b hb _ => ⟨rfl, hz b hb⟩) fun _ _ => rfl, ?_, hr.chg, fun p hp' g hg => hr.own p (hm p hp') g hg, hr.res⟩
 show Apart (keepIx ix s.hp)
 unfold Apart
 rw [keepIx_fm, List.pairwise_filterMap]
 refine (ndB_spec hix).imp fun {i j} hij p hp q hq g hg => hr.nodup.get hp hq hij hg
theorem Le.drop (m : Nat) : Le B s ⟨s.sl, s.hp.drop m, s.k⟩ := fun a w hr => hr.drop (fun _ _ h => h) (List.drop_sublist m s.hp)
theorem VO.asBox {ops : Array Oper} {rest : List Oper} {i n sz : Nat} {u : Value} {cs : List AV} {ty : TypeId} (hi : s.hp[i]? = some (.row u n sz cs ty)) (hn : 0 < n)
  (h : ∀ g cap, u = .slice (some ⟨g, 0, none⟩) n cap → n ≤ cap → cap ≤ maxLen → VO P B ops rest Q ⟨s.sl, s.hp.set i (.box g ⟨cs, ty, cap * sz⟩), s.k⟩) : VO P B ops rest Q s := fun a w hr => by
 obtain ⟨g, cap, h1, h2, h3, h4⟩ := hr.rowBox hi hn
 exact h g cap h1 h2 h3 a w h4

theorem VO.rowIs {ops : Array Oper} {rest : List Oper} {i n sz : Nat} {u : Value} {cs : List AV} {ty : TypeId} (hi : s.hp[i]? = some (.row u n sz cs ty)) (h : ∀ b c, u = .slice b n c → VO P B ops rest Q s) : VO P B ops rest Q s := fun a w hr => by
 obtain ⟨_, ⟨rfl, rfl⟩ | ⟨g, cap, c, rfl, _⟩⟩ := hr.blocks _ (List.mem_of_getElem? hi)
 ·exact h none 0 rfl a w hr
 ·exact h _ cap rfl a w hr
theorem VC.rowIs {c0 : Code} {Qc : Exit → St' → Prop} {i n sz : Nat} {u : Value} {cs : List AV} {ty : TypeId} (hi : s.hp[i]? = some (.row u n sz cs ty)) (h : ∀ b c, u = .slice b n c → VC P B c0 Qc s) : VC P B c0 Qc s := fun a w hr => by
 obtain ⟨_, ⟨rfl, rfl⟩ | ⟨g, cap, c, rfl, _⟩⟩ := hr.blocks _ (List.mem_of_getElem? hi)
 ·exact h none 0 rfl a w hr
 ·exact h _ cap rfl a w hr
theorem look_k {l : List (Nat × AV)} {t : Nat} {b want : Bool} (h : look l t = some (.v (.bool b))) (hb : b = want) : look l t = some (.v (.bool want)) := hb ▸ h
theorem SpecH.args {F : FuncId} {xs xs' : List AV} {hp : List Ent} {G : AV → List Ent → Prop} (h : SpecH P F xs hp G) (hl : xs'.length = xs.length) (ha : ∀ (j : Nat) (h1 : j < xs'.length) (h2 : j < xs.length) (w : World) (Z : Nat → Prop) (u : Value), Rep w Z xs'[j] u → Rep w Z xs[j] u) : SpecH P F xs' hp G :=
 fun w A us h1 => h w A us ⟨h1.1.trans hl, fun j hj => ha j (by omega) hj _ _ _ (h1.2 j (by omega))⟩
theorem ArgP.nil {x : Operand} {sz : Nat} {F : Nat → AV} (h : evO s x = some (.v (.slice none 0 0))) : ArgP P B s x (.im 0 sz F) := fun a w hr => by
 rw [hr.evv h]
 exact .nil _ _
end
instance : Sx1 (List (List ByteArray)) := ⟨fun x => avM x⟩
instance : Sx1 (List (List Int)) := ⟨fun x => avM x⟩
end Go.Proofs.YtbbgjeiefmiblaaGreatDoor
namespace Go.Proofs.YtbbgjeiefmiblaaGreatDoor
open Go.RowKit
set_option linter.unusedVariables false
set_option linter.unusedSimpArgs false

theorem getMap {P : Program} {w : World} {r : Nat} {es : Array MapEntry} {clock : Nat} (hb : w.heap[r]? = some (.map es clock)) : (getObj r).run P w = .ok (.map es clock) w := by
 simp [getObj, Sem.run, hb]
theorem putMap {P : Program} {w : World} {r : Nat} {es : Array MapEntry} {clock : Nat} (c : Array MapEntry) (clk : Nat) (hb : w.heap[r]? = some (.map es clock)) : (setObj r (.map c clk)).run P w = .ok () { w with heap := w.heap.setIfInBounds r (.map c clk) } := by
 simp [setObj, Sem.run, hb]
def _root_.Go.World.setMp (w : World) (g : Nat) (c : Array MapEntry) (clk : Nat) : World := { w with heap := w.heap.setIfInBounds g (.map c clk) }
theorem setMp_heap (w : World) (g : Nat) (c c' : Array MapEntry) (clk clk' : Nat) (h : w.heap[g]? = some (.map c clk)) : (w.setMp g c' clk').heap[g]? = some (.map c' clk') := by
 have := (Array.getElem?_eq_some_iff.1 h).1
 simp [World.setMp, this]
theorem setMp_other (w : World) (g b : Nat) (c' : Array MapEntry) (clk' : Nat) (h : b ≠ g) : (w.setMp g c' clk').heap[b]? = w.heap[b]? := by
 simp only [World.setMp]
 exact Array.getElem?_setIfInBounds_ne (fun e => h e.symm)
theorem chg_setMp (w : World) (g : Nat) (c : Array MapEntry) (clk : Nat) : Chg (fun b => some g = some b) w (w.setMp g c clk) :=
 ⟨rfl, rfl, rfl, by simp [World.setMp], fun k _ hk => setMp_other w g k c clk (fun e => hk (by rw [e]))⟩
section
variable {P : Program} {B : Bs} {W : Nat → Prop} {s s' : St'} {o : Oper} {K : St' → Prop} {a : Act} {w w' : World}
variable {κ α : Type} {kv : κ → Value} {E : α → AV}

def KeyE (B : Bs) (s : St') (x : Operand) (v : Value) : Prop := ∀ a w, R B s a w → a.eval x = v
theorem KeyE.v {x : Operand} {v : Value} (h : evO s x = some (.v v)) : KeyE B s x v := fun a w hr => hr.evv h
theorem KeyE.agg2 {x : Operand} {v1 v2 : Value} (h : evO s x = some (.agg [.v v1, .v v2])) : KeyE B s x (.agg #[v1, v2]) := fun a w hr => by
 have := hr.ev h
 generalize hv : a.eval x = u at this
 cases this with
 | agg cs us hl hr =>
  have h0 := (hr 0 (by simp)).eq_v
  have h1 := (hr 1 (by simp)).eq_v
  simp at hl
  congr 1
  apply Array.ext (by simp [hl])
  intro i hi1 hi2
  simp [hl] at hi1
  match i, hi1 with
  | 0, _ => simpa [hl] using h0
  | 1, _ => simpa [hl] using h1

theorem EntR.toMap {g : Nat} {l : List (κ × α)} {Z : Nat → Prop} (h : EntR w Z (mapE kv g E l)) : ∃ c : Array MapEntry, w.heap[g]? = some (.map c l.length) ∧ c.size = l.length ∧ ∀ j (hj : j < l.length), (c[j]!).key = kv (l[j]).1 ∧ (c[j]!).born = j ∧ Rep w Z (E (l[j]).2) (c[j]!).val := by
 obtain ⟨c, h1, h2, h3, h4⟩ := h
 rw [mE_len] at h2
 refine ⟨c, h1, h2, fun j hj => ?_⟩
 obtain ⟨k1, k2, k3, k4⟩ := h4 j (by rw [mE_len]; exact hj)
 have e := mE_get (kv := kv) (E := E) l 0 j hj
 rw [List.getElem?_eq_getElem (by rw [mE_len]; exact hj)] at e
 have e := Option.some.inj e
 rw [e] at k1 k2 k4
 exact ⟨k1, by simpa using k2, k4⟩
theorem EntR.ofMap {g : Nat} {l : List (κ × α)} {Z : Nat → Prop} {c : Array MapEntry} (h1 : w.heap[g]? = some (.map c l.length)) (h2 : c.size = l.length) (h3 : ∀ j (hj : j < l.length), (c[j]!).key = kv (l[j]).1 ∧ (c[j]!).born = j ∧ Rep w Z (E (l[j]).2) (c[j]!).val) : EntR w Z (mapE kv g E l) := by
 refine ⟨c, h1, by rw [mE_len]; exact h2, by rw [mE_born]; exact List.nodup_range', fun j hj => ?_⟩
 have hj' := hj
 rw [mE_len] at hj'
 have e := mE_get (kv := kv) (E := E) l 0 j hj'
 rw [List.getElem?_eq_getElem hj] at e
 have e := Option.some.inj e
 rw [e]
 obtain ⟨k1, k2, k3⟩ := h3 j hj'
 exact ⟨k1, by simp [k2], by simpa using hj', k3⟩
theorem map_find [DecidableEq κ] {kt : TypeId} (hk : KeyOk P kt kv) {l : List (κ × α)} {Z : Nat → Prop} {c : Array MapEntry} (h2 : c.size = l.length) (h3 : ∀ j (hj : j < l.length), (c[j]!).key = kv (l[j]).1 ∧ (c[j]!).born = j ∧ Rep w Z (E (l[j]).2) (c[j]!).val) (k : κ) (w0 : World) :
  (Instr.findKey kt (kv k) c.toList).run P w0 = .ok (if mpos l k < l.length then some (mpos l k, (c[mpos l k]!).val) else none) w0 := by
 have := hk.find l c.toList k w0 (by simpa using h2) (fun j hj => ⟨c[j]!, by rw [Array.getElem?_toList, getElem!_pos c j (by omega)]; exact Array.getElem?_eq_getElem _, (h3 j hj).1⟩)
 rw [this]
 split
 ·rename_i h
  rw [Array.getElem?_toList, getElem!_pos c _ (by omega), Array.getElem?_eq_getElem (by omega)]
  rfl
 ·rfl

theorem OpE.makeMap {t : TypeId} (kv : κ → Value) (E : α → AV) (ho : o.op = .makeMap t none) (hB : B.Ok) (hd : okd B.nt o.dst = true)
  (hK : ∀ g, K ((St'.mk s.sl (s.hp ++ [mapE kv g E []]) s.k).put o.dst (.v (.map (some g))))) : OpE P B W s o K := by
 intro a w hr next Qx hn
 have h1 := hr.new hB (.map #[] 0) (mapE kv w.heap.size E []) rfl (EntR.ofMap (l := ([] : List (κ × α))) (c := #[]) (heap_alloc_new w _) rfl fun j hj => by simp at hj)
 have hrun : (execOp a.eval o).run P w = .ok (.value (.map (some w.heap.size))) (w.alloc (.map #[] 0)) := by
  simp [execOp, ho, Instr.makeMap, run_newObj_alloc]
 unfold Oper.wp
 rw [hrun]
 exact hn _ _ _ (hK _) (h1.put _ hd _ _ (.v _)) (.ofN ((Chg.refl _ _).alloc _))

theorem OpV.lookup_own [DecidableEq κ] {x y : Operand} {T kt e g i : Nat} {k : κ} {l : List (κ × α)} {z : Value} (ho : o.op = .lookup T x y false) (hB : B.Ok) (hu : P.underlying T = some (.map kt e)) (hko : KeyOk P kt kv) (hz : ∀ w, (zeroValue e).run P w = .ok z w)
  (hx : evO s x = some (.v (.map (some g)))) (hk : KeyE B s y (kv k)) (hi : s.hp[i]? = some (mapE kv g E l)) (hW : ¬ W g) : OpV P B W s o (match mget l k with | some v => E v | none => .v z) := fun a w hr => by
 have hm := List.mem_of_getElem? hi
 obtain ⟨c, h1, h2, h3⟩ := EntR.toMap (hr.blocks _ hm)
 have hf := map_find hko h2 h3 k
 have hg := mget_pos l k
 have hle := mpos_le l k
 by_cases hp : mpos l k < l.length
 ·have e : mget l k = some (l[mpos l k]).2 := by rw [hg, List.getElem?_eq_getElem hp]; rfl
  rw [e]
  refine ⟨(c[mpos l k]!).val, fun w' hcw => ?_, (h3 _ hp).2.2⟩
  have h1' : w'.heap[g]? = some (.map c l.length) := (hcw.block g (hr.lt _ hm g rfl) fun h => h.elim (hr.notStr hB hm rfl) hW).trans h1
  simp [execOp, ho, Instr.lookup, run_underlying hu, hr.evv hx, hk a w hr, getMap h1', hko.check, hf, hp]
 ·have e : mget l k = none := by rw [hg, List.getElem?_eq_none (by omega)]; rfl
  rw [e]
  refine ⟨z, fun w' hcw => ?_, .v _⟩
  have h1' : w'.heap[g]? = some (.map c l.length) := (hcw.block g (hr.lt _ hm g rfl) fun h => h.elim (hr.notStr hB hm rfl) hW).trans h1
  simp [execOp, ho, Instr.lookup, run_underlying hu, hr.evv hx, hk a w hr, getMap h1', hko.check, hf, hp, hz]
theorem modify_at {c : Array MapEntry} {i j : Nat} {f : MapEntry → MapEntry} (h : j < c.size) : (c.modify i f)[j]! = if i = j then f (c[j]!) else c[j]! := by
 rw [getElem!_pos _ j (by simpa using h), getElem!_pos c j h, Array.getElem_modify]
theorem push_at {c : Array MapEntry} {j : Nat} {x : MapEntry} (h : j < c.size + 1) : (c.push x)[j]! = if j < c.size then c[j]! else x := by
 rw [getElem!_pos _ j (by simpa using h), Array.getElem_push]
 split
 ·rename_i h1; rw [getElem!_pos c j h1]
 ·rfl
theorem R.setMap (hB : B.Ok) (hr : R B s a w) {i g : Nat} {l l' : List (κ × α)} {c c' : Array MapEntry} (hi : s.hp[i]? = some (mapE kv g E l)) (h1 : w.heap[g]? = some (.map c l.length)) (h2' : c'.size = l'.length)
  (h3' : ∀ j (hj : j < l'.length), (c'[j]!).key = kv (l'[j]).1 ∧ (c'[j]!).born = j ∧ Rep w (Zn B s.hp w) (E (l'[j]).2) (c'[j]!).val) : R B ⟨s.sl, s.hp.set i (mapE kv g E l'), s.k⟩ a (w.setMp g c' l'.length) := by
 have hm := List.mem_of_getElem? hi
 refine hr.set hB hi (chg_setMp w g c' l'.length) (.inl rfl) (EntR.ofMap (setMp_heap w g c c' _ _ h1) h2' fun j hj => ?_)
 obtain ⟨k1, k2, k3⟩ := h3' j hj
 refine ⟨k1, k2, k3.keep fun b hb hbl => ⟨setMp_other w g b c' _ fun e => hb.2.1 _ hm (by rw [e]; rfl), by simp [World.setMp]; exact hbl, fun p hp => ?_, hb.2.2⟩⟩
 rcases List.mem_or_eq_of_mem_set hp with hp | hp
 ·exact hb.2.1 p hp
 ·subst hp; exact hb.2.1 (mapE kv g E l) hm
theorem OpE.mapUpdate [DecidableEq κ] {x y v : Operand} {T kt e g i : Nat} {k : κ} {xx : α} {l : List (κ × α)} (ho : o.op = .mapUpdate T x y v) (hB : B.Ok) (hd : okd B.nt o.dst = true) (hu : P.underlying T = some (.map kt e)) (hko : KeyOk P kt kv)
  (hx : evO s x = some (.v (.map (some g)))) (hk : KeyE B s y (kv k)) (hv : evO s v = some (E xx)) (hi : s.hp[i]? = some (mapE kv g E l)) (hW : W g)
  (hK : K ((St'.mk s.sl (s.hp.set i (mapE kv g E (mput l k xx))) s.k).put o.dst (.v undef))) : OpE P B W s o K := by
 intro a w hr next Qx hn
 have hm := List.mem_of_getElem? hi
 obtain ⟨c, h1, h2, h3⟩ := EntR.toMap (hr.blocks _ hm)
 have hf := map_find hko h2 h3 k w
 have hle := mpos_le l k
 have hvv := hr.ev hv
 generalize hu' : a.eval v = u at hvv
 by_cases hp : mpos l k < l.length
 ·have hput := mput_old l k xx hp
  have hkey : (((c[mpos l k]?).map (·.key)).getD (kv k)) = kv k := by
   rw [Array.getElem?_eq_getElem (by omega)]
   have := (h3 _ hp).1
   rw [getElem!_pos c _ (by omega)] at this
   simp only [Option.map_some, Option.getD_some, this, mpos_key l k hp]
  have hr' := hr.setMap hB (l' := mput l k xx) (c' := c.modify (mpos l k) fun e => { e with key := kv k, val := u }) hi h1 (by rw [hput]; simp [h2]) (fun j hj => by
   have hj' : j < l.length := by rw [hput] at hj; simpa using hj
   simp only [hput]
   rw [modify_at (by omega)]
   by_cases ej : mpos l k = j
   ·rw [if_pos ej]
    subst ej
    exact ⟨by simp, (h3 _ hp).2.1, by simpa using hvv⟩
   ·rw [if_neg ej, List.getElem_set_ne ej]
    exact h3 j hj')
  have hlen : (mput l k xx).length = l.length := by rw [hput]; simp
  have hrun : (execOp a.eval o).run P w = .ok .skip (w.setMp g (c.modify (mpos l k) fun e => { e with key := kv k, val := u }) (mput l k xx).length) := by
   simp [execOp, ho, Instr.mapUpdate, run_underlying hu, hr.evv hx, hk a w hr, getMap h1, hko.check, hf, hp, hkey, hko.stay, hu', putMap _ _ h1, hlen, World.setMp]
  unfold Oper.wp
  rw [hrun]
  exact hn _ _ _ hK (hr'.put _ hd _ _ (.v _)) ((chg_setMp w g _ _).mono fun b _ h => .inr (by cases h; exact hW))
 ·have hput := mput_new l k xx (by omega)
  have hr' := hr.setMap hB (l' := mput l k xx) (c' := c.push { key := kv k, val := u, born := l.length }) hi h1 (by rw [hput]; simp [h2]) (fun j hj => by
   have hj' : j < l.length + 1 := by rw [hput] at hj; simpa using hj
   simp only [hput]
   rw [push_at (by omega)]
   by_cases ej : j < l.length
   ·rw [if_pos (by omega), List.getElem_append_left ej]
    exact h3 j ej
   ·obtain rfl : j = l.length := by omega
    rw [if_neg (by omega)]
    simpa using hvv)
  have hlen : (mput l k xx).length = l.length + 1 := by rw [hput]; simp
  have hrun : (execOp a.eval o).run P w = .ok .skip (w.setMp g (c.push { key := kv k, val := u, born := l.length }) (mput l k xx).length) := by
   simp [execOp, ho, Instr.mapUpdate, run_underlying hu, hr.evv hx, hk a w hr, getMap h1, hko.check, hf, hp, hu', putMap _ _ h1, hlen, World.setMp]
  unfold Oper.wp
  rw [hrun]
  exact hn _ _ _ hK (hr'.put _ hd _ _ (.v _)) ((chg_setMp w g _ _).mono fun b _ h => .inr (by cases h; exact hW))
def mgetD [DecidableEq κ] (l : List (κ × α)) (k : κ) (z : α) : α := (mget l k).getD z
end
end Go.Proofs.YtbbgjeiefmiblaaGreatDoor
namespace Go.Proofs
open Go.Shelf
def Tryz.keys107_ren : Go.Shelf.Ren := ⟨fun | 7 => 107 | 10 => 150 | n => n, fun | 23 => 163 | 26 => 9 | 3 => 3 | 28 => 166 | 0 => 0 | 27 => 165 | 33 => 99 | 4 => 4 | n => n, fun | n => n⟩
theorem Tryz.keys107 : Go.Proofs.SlLaysZ.n7 Tryz.prog Tryz.keys107_ren := {
 mixed := by kernel_rfl
 f7 := ⟨Tryz.f107.name, by decide, Tryz.func107.trans (congrArg some (by kernel_rfl))⟩
 f10 := ⟨Tryz.f150.name, by decide, Tryz.func150.trans (congrArg some (by kernel_rfl))⟩
 t0 := Tryz.underlying0
 a0 := Tryz.isAgg0
 z0 := Tryz.sizeOf0
 v0 := Tryz.zeroValue0
 t4 := Tryz.underlying4
 a4 := Tryz.isAgg4
 z4 := Tryz.sizeOf4
 v4 := Tryz.zeroValue4
 t23 := Tryz.underlying163
 a23 := Tryz.isAgg163
 z23 := Tryz.sizeOf163
 v23 := Tryz.zeroValue163
 t26 := Tryz.underlying9
 a26 := Tryz.isAgg9
 z26 := Tryz.sizeOf9
 v26 := Tryz.zeroValue9
 t27 := Tryz.underlying165
 a27 := Tryz.isAgg165
 z27 := Tryz.sizeOf165
 v27 := Tryz.zeroValue165
 t28 := Tryz.underlying166
 a28 := Tryz.isAgg166
 z28 := Tryz.sizeOf166
 v28 := Tryz.zeroValue166
 t33 := Tryz.underlying99
 a33 := Tryz.isAgg99
 z33 := Tryz.sizeOf99
 v33 := Tryz.zeroValue99 }
def Tryz.sorted106_ren : Go.Shelf.Ren := ⟨fun | 6 => 106 | 8 => 149 | 9 => 73 | 11 => 186 | 13 => 121 | 12 => 120 | 23 => 164 | 24 => 165 | 14 => 155 | 15 => 156 | 16 => 157 | 17 => 158 | 18 => 159 | 19 => 160 | 20 => 161 | 21 => 162 | 22 => 163 | 25 => 196 | 26 => 197 | 27 => 198 | 28 => 199 | 29 => 200 | 30 => 201 | 31 => 233 | n => n, fun | 26 => 9 | 28 => 166 | 24 => 29 | 0 => 0 | 3 => 3 | 37 => 90 | 48 => 169 | 50 => 172 | 4 => 4 | 40 => 221 | 39 => 220 | 45 => 115 | 5 => 5 | 9 => 9 | 51 => 252 | 55 => 256 | 57 => 278 | 58 => 279 | 33 => 99 | n => n, fun | n => n⟩
theorem Tryz.sorted106 : Go.Proofs.SlLaysZ.n6 Tryz.prog Tryz.sorted106_ren := {
 mixed := by kernel_rfl
 f6 := ⟨Tryz.f106.name, by decide, Tryz.func106.trans (congrArg some (by kernel_rfl))⟩
 f8 := ⟨Tryz.f149.name, by decide, Tryz.func149.trans (congrArg some (by kernel_rfl))⟩
 f11 := ⟨Tryz.f186.name, by decide, Tryz.func186.trans (congrArg some (by kernel_rfl))⟩
 t0 := Tryz.underlying0
 a0 := Tryz.isAgg0
 z0 := Tryz.sizeOf0
 v0 := Tryz.zeroValue0
 t24 := Tryz.underlying29
 a24 := Tryz.isAgg29
 z24 := Tryz.sizeOf29
 v24 := Tryz.zeroValue29
 t26 := Tryz.underlying9
 a26 := Tryz.isAgg9
 z26 := Tryz.sizeOf9
 v26 := Tryz.zeroValue9
 t28 := Tryz.underlying166
 a28 := Tryz.isAgg166
 z28 := Tryz.sizeOf166
 v28 := Tryz.zeroValue166
 i26 := by kernel_rfl }
def Tryz.sort73_ren : Go.Shelf.Ren := ⟨fun | 6 => 73 | 8 => 121 | 9 => 120 | 19 => 164 | 20 => 165 | 21 => 155 | 22 => 156 | 23 => 157 | 24 => 158 | 25 => 159 | 26 => 160 | 27 => 161 | 28 => 162 | 29 => 163 | 36 => 196 | 31 => 197 | 32 => 198 | 37 => 199 | 38 => 200 | 39 => 201 | 41 => 233 | n => n, fun | 27 => 29 | 29 => 9 | 3 => 3 | 32 => 90 | 26 => 29 | 0 => 0 | 44 => 169 | 46 => 172 | 4 => 4 | 36 => 221 | 35 => 220 | 41 => 115 | 5 => 5 | 9 => 9 | 53 => 252 | 57 => 256 | 63 => 278 | 64 => 279 | n => n, fun | n => n⟩
theorem Tryz.sort73 : Go.Proofs.SlLaysM.n6 Tryz.prog Tryz.sort73_ren := {
 mixed := by kernel_rfl
 f6 := ⟨Tryz.f73.name, by decide, Tryz.func73.trans (congrArg some (by kernel_rfl))⟩
 f8 := Tryz.func121.trans (congrArg some (by kernel_rfl))
 f9 := ⟨Tryz.f120.name, by decide, Tryz.func120.trans (congrArg some (by kernel_rfl))⟩
 f19 := Tryz.func164.trans (congrArg some (by kernel_rfl))
 f20 := Tryz.func165.trans (congrArg some (by kernel_rfl))
 f21 := ⟨Tryz.f155.name, by decide, Tryz.func155.trans (congrArg some (by kernel_rfl))⟩
 f22 := ⟨Tryz.f156.name, by decide, Tryz.func156.trans (congrArg some (by kernel_rfl))⟩
 f23 := ⟨Tryz.f157.name, by decide, Tryz.func157.trans (congrArg some (by kernel_rfl))⟩
 f24 := ⟨Tryz.f158.name, by decide, Tryz.func158.trans (congrArg some (by kernel_rfl))⟩
 f25 := ⟨Tryz.f159.name, by decide, Tryz.func159.trans (congrArg some (by kernel_rfl))⟩
 f26 := ⟨Tryz.f160.name, by decide, Tryz.func160.trans (congrArg some (by kernel_rfl))⟩
 f27 := ⟨Tryz.f161.name, by decide, Tryz.func161.trans (congrArg some (by kernel_rfl))⟩
 f28 := ⟨Tryz.f162.name, by decide, Tryz.func162.trans (congrArg some (by kernel_rfl))⟩
 f29 := ⟨Tryz.f163.name, by decide, Tryz.func163.trans (congrArg some (by kernel_rfl))⟩
 f31 := Tryz.func197.trans (congrArg some (by kernel_rfl))
 f32 := Tryz.func198.trans (congrArg some (by kernel_rfl))
 f36 := ⟨Tryz.f196.name, by decide, Tryz.func196.trans (congrArg some (by kernel_rfl))⟩
 f37 := ⟨Tryz.f199.name, by decide, Tryz.func199.trans (congrArg some (by kernel_rfl))⟩
 f38 := ⟨Tryz.f200.name, by decide, Tryz.func200.trans (congrArg some (by kernel_rfl))⟩
 f39 := ⟨Tryz.f201.name, by decide, Tryz.func201.trans (congrArg some (by kernel_rfl))⟩
 f41 := ⟨Tryz.f233.name, by decide, Tryz.func233.trans (congrArg some (by kernel_rfl))⟩
 t0 := Tryz.underlying0
 a0 := Tryz.isAgg0
 z0 := Tryz.sizeOf0
 v0 := Tryz.zeroValue0
 t3 := Tryz.underlying3
 a3 := Tryz.isAgg3
 z3 := Tryz.sizeOf3
 v3 := Tryz.zeroValue3
 t4 := Tryz.underlying4
 a4 := Tryz.isAgg4
 z4 := Tryz.sizeOf4
 v4 := Tryz.zeroValue4
 t5 := Tryz.underlying5
 a5 := Tryz.isAgg5
 z5 := Tryz.sizeOf5
 v5 := Tryz.zeroValue5
 t9 := Tryz.underlying9
 a9 := Tryz.isAgg9
 z9 := Tryz.sizeOf9
 v9 := Tryz.zeroValue9
 t26 := Tryz.underlying29
 a26 := Tryz.isAgg29
 z26 := Tryz.sizeOf29
 v26 := Tryz.zeroValue29
 t27 := Tryz.underlying29
 a27 := Tryz.isAgg29
 z27 := Tryz.sizeOf29
 v27 := Tryz.zeroValue29
 t29 := Tryz.underlying9
 a29 := Tryz.isAgg9
 z29 := Tryz.sizeOf9
 v29 := Tryz.zeroValue9
 t32 := Tryz.underlying90
 a32 := Tryz.isAgg90
 z32 := Tryz.sizeOf90
 v32 := Tryz.zeroValue90
 t35 := Tryz.underlying220
 a35 := Tryz.isAgg220
 z35 := Tryz.sizeOf220
 v35 := Tryz.zeroValue220
 t36 := Tryz.underlying221
 a36 := Tryz.isAgg221
 z36 := Tryz.sizeOf221
 v36 := Tryz.zeroValue221
 t41 := Tryz.underlying115
 a41 := Tryz.isAgg115
 z41 := Tryz.sizeOf115
 v41 := Tryz.zeroValue115
 t44 := Tryz.underlying169
 a44 := Tryz.isAgg169
 z44 := Tryz.sizeOf169
 v44 := Tryz.zeroValue169
 t46 := Tryz.underlying172
 a46 := Tryz.isAgg172
 z46 := Tryz.sizeOf172
 v46 := Tryz.zeroValue172
 t53 := Tryz.underlying252
 a53 := Tryz.isAgg252
 z53 := Tryz.sizeOf252
 v53 := Tryz.zeroValue252
 t57 := Tryz.underlying256
 a57 := Tryz.isAgg256
 z57 := Tryz.sizeOf256
 v57 := Tryz.zeroValue256
 t63 := Tryz.underlying278
 a63 := Tryz.isAgg278
 z63 := Tryz.sizeOf278
 v63 := Tryz.zeroValue278
 t64 := Tryz.underlying279
 a64 := Tryz.isAgg279
 z64 := Tryz.sizeOf279
 v64 := Tryz.zeroValue279 }
end Go.Proofs
namespace Go.Proofs.YtbbgjeiefmiblaaGreatDoor
open Go.RowKit Go.Maps Go.Sort Go.Shelf
set_option linter.unusedVariables false
set_option linter.unusedSimpArgs false

def bytesOf (l : List UInt8) : ByteArray := ⟨l.toArray⟩
def sKeys {α : Type} (l : List (ByteArray × α)) : List ByteArray := ((l.map fun p => p.1.data.toList).mergeSort (fun x y => decide (x ≤ y))).map bytesOf
theorem sKeys_len {α : Type} (l : List (ByteArray × α)) : (sKeys l).length = l.length := by simp [sKeys]
theorem sKeys_mem {α : Type} {l : List (ByteArray × α)} {x : ByteArray} : x ∈ sKeys l ↔ x ∈ l.map (·.1) := by
 simp only [sKeys, List.mem_map, List.mem_mergeSort, bytesOf]
 constructor
 ·rintro ⟨_, ⟨p, hp, rfl⟩, rfl⟩; exact ⟨p, hp, by simp⟩
 ·rintro ⟨p, hp, rfl⟩; exact ⟨_, ⟨p, hp, rfl⟩, by simp⟩
theorem mput_keys {α : Type} (l : List (ByteArray × α)) (k : ByteArray) (x : α) : (mput l k x).map (·.1) = if mpos l k < l.length then l.map (·.1) else l.map (·.1) ++ [k] := by
 split
 ·rename_i h
  rw [mput_old l k x h, List.map_set]
  have := mpos_key l k h
  refine List.ext_getElem (by simp) fun i h1 h2 => ?_
  simp only [List.length_set, List.length_map] at h1
  rw [List.getElem_set]
  split
  ·rename_i e; subst e; simp [this]
  ·simp
 ·rename_i h
  rw [mput_new l k x (by have := mpos_le l k; omega)]; simp
theorem mpos_mem {α : Type} {l : List (ByteArray × α)} {k : ByteArray} : mpos l k < l.length ↔ k ∈ l.map (·.1) := by
 constructor
 ·intro h; exact List.mem_map.2 ⟨_, List.getElem_mem h, mpos_key l k h⟩
 ·intro h
  obtain ⟨p, hp, e⟩ := List.mem_map.1 h
  obtain ⟨j, hj, ej⟩ := List.getElem_of_mem hp
  by_cases h1 : mpos l k < l.length
  ·exact h1
  ·have hle := mpos_le l k
   obtain ⟨_, h2⟩ := mpos_ne l k j (by omega)
   exact absurd (by rw [ej]; exact e) h2
theorem mput_nodup {α : Type} {l : List (ByteArray × α)} (h : (l.map (·.1)).Nodup) (k : ByteArray) (x : α) : ((mput l k x).map (·.1)).Nodup := by
 rw [mput_keys]
 split
 ·exact h
 ·rename_i h1
  rw [mpos_mem] at h1
  exact List.nodup_append.2 ⟨h, by simp, fun a ha b hb => by simp at hb; subst hb; exact fun e => h1 (e ▸ ha)⟩
theorem mput_mem {α : Type} {l : List (ByteArray × α)} {k : ByteArray} {x : α} {q : ByteArray} : q ∈ (mput l k x).map (·.1) ↔ q ∈ l.map (·.1) ∨ q = k := by
 rw [mput_keys]
 split
 ·rename_i h1
  rw [mpos_mem] at h1
  exact ⟨.inl, fun h => h.elim id fun e => e ▸ h1⟩
 ·simp

section
variable {P : Program} {w : World} {kt : TypeId}
theorem own_of_mapE {α : Type} {E : α → AV} {g : Nat} {l : List (ByteArray × α)} {Z : Nat → Prop} (hk : P.underlying kt = some .string) (h : EntR w Z (mapE (fun k : ByteArray => Value.string k) g E l)) (hnd : (l.map (·.1)).Nodup) (hs : ∀ p ∈ l, p.1.size ≤ maxLen) (hl : l.length ≤ maxLen) :
  ∃ D : DataW Unit, w.ownsMap P kt (fun _ => some (.nil, [])) g l.length D ∧ Maps.size D = l.length ∧ (strKeys D).Perm (l.map fun p => p.1.data.toList) := by
 obtain ⟨c, h1, h2, h3⟩ := h.toMap
 have hmem : ∀ x ∈ c.toList, ∃ j, ∃ hj : j < l.length, x = c[j]! := fun x hx => by
  obtain ⟨j, hj, rfl⟩ := List.getElem_of_mem hx
  simp at hj
  exact ⟨j, by omega, by rw [getElem!_pos c j hj]; simp⟩
 have hrd : ∀ x ∈ c.toList, ∀ j (hj : j < l.length), x = c[j]! → WideElems.rd (H := Unit) P kt (fun _ => some (.nil, [])) x = some (.string (l[j]).1.data.toList, .nil) := fun x hx j hj e => by
  have hk1 := (h3 j hj).1
  obtain ⟨key, val, born⟩ := x
  have : key = .string (l[j]).1 := by rw [← hk1, ← e]
  subst this
  exact WideElems.rd_mk (R := fun _ => some (.nil, [])) (yv := (.nil, [])) (Go.WideMaps.keyOf_string_mk hk (hs _ (List.getElem_mem hj))) rfl
 have hF : WideElems.Fit (H := Unit) P kt (fun _ => some (.nil, [])) c l.length := ⟨by omega, (MapKept.stamped_iff _ _).2 ⟨fun x hx => by
   obtain ⟨j, hj, rfl⟩ := hmem x hx
   rw [(h3 j hj).2.1]; exact hj, by
   have : c.toList.map (·.born) = List.range' 0 l.length := by
    refine List.ext_getElem (by simp [h2]) fun i k1 k2 => ?_
    simp at k1
    have := (h3 i (by omega)).2.1
    rw [getElem!_pos c i k1] at this
    simp [this]
   rw [this]; exact List.nodup_range', by
   rw [List.pairwise_iff_getElem]
   intro i j hi hj hij e
   simp at hi hj
   have k1 := (h3 i (by omega)).1
   have k2 := (h3 j (by omega)).1
   rw [getElem!_pos c i hi] at k1
   rw [getElem!_pos c j hj] at k2
   simp only [Array.getElem_toList] at e
   rw [k1, k2] at e
   have e' : (l[i]'(by omega)).1 = (l[j]'(by omega)).1 := by injection e
   have := (List.pairwise_iff_getElem.1 hnd) i j (by simp; omega) (by simp; omega) hij
   simp at this
   exact this e'⟩, fun x hx => by
   obtain ⟨j, hj, e⟩ := hmem x hx
   exact ⟨_, hrd x hx j hj e⟩⟩
 refine ⟨_, ⟨c, l.length, h1, hF, by omega, rfl⟩, ?_, ?_⟩
 ·simp [Maps.size, (WideShapes.sorted_perm _).length_eq, h2]
 ·have hp := (WideShapes.sorted_perm (c.toList.map (WideElems.rg (H := Unit) P kt fun _ => some (.nil, []))))
  refine (hp.map (fun p => Go.strOf p.1)).trans (.of_eq ?_)
  refine List.ext_getElem (by simp [h2]) fun i k1 k2 => ?_
  simp at k1 k2
  have := hrd (c[i]!) (by rw [getElem!_pos c i (by omega)]; simp) i (by omega) rfl
  rw [getElem!_pos c i (by omega)] at this
  simp [WideElems.rg_of this]
  rfl
end

section
theorem sortsK (m : Nat) : AnyZ.SortsIn Tryz.prog Tryz.sorted106_ren Fence.wide m :=
  ⟨fun blk off cap ss W hH hblk hsz => callsIn_wide.2 (AnyM.slices_Sort_string Tryz.sort73 blk off cap ss W hH hblk hsz),
   fun p cap W => callsIn_wide.2 (AnyM.slices_Sort_string_none Tryz.sort73 p cap W)⟩
theorem maps_Keys_int (mb : Option Nat) : SpecH Tryz.prog 107 [.v (.map mb)] [] (fun y hp' => ∃ g, y = .v (.func (.func 150) #[] #[.pointer (some ⟨g, 0, none⟩)]) ∧ hp' = [.box g ⟨[.v (.map mb)], 163, 1⟩]) := fun w A us ha _ _ _ => by
 have hu : us = #[.map mb] := by
  have h0 := ha.2 0 (by simp)
  have h1 : us.size = 1 := ha.1
  have h2 := h0.eq_v
  apply Array.ext (by simp [h1])
  intro i hi1 hi2
  obtain rfl : i = 0 := by omega
  rw [Array.getD_eq_getD_getElem?, Array.getElem?_eq_getElem (by omega)] at h2
  simpa using h2
 subst hu
 refine ((callsIn_wide (n := 5)).1 (AnyZ.keys_in Tryz.keys107 Fence.wide 5 trivial rfl mb w)).mono ?_
 rintro e w' ⟨rfl, rfl⟩
 refine ⟨_, _, _, ⟨w.heap.size, rfl, rfl⟩, rfl, List.pairwise_singleton _ _, .v _, fun e he => ?_, fun b ⟨e, he, hb⟩ hl => ?_, ((Chg.refl NoB w).alloc _).any⟩
 ·simp at he; subst he
  exact ⟨_, heap_alloc_new w _, rfl, Nat.le_refl _, fun j hj => by simp at hj; subst hj; exact ⟨_, rfl, .v _⟩⟩
 ·simp at he; subst he
  simp [Ent.blk] at hb; omega
set_option maxHeartbeats 1000000 in
theorem slices_Sorted_int {α : Type} {E : α → AV} {g mg : Nat} {l : List (ByteArray × α)} (hnd : (l.map (·.1)).Nodup) (hs : ∀ p ∈ l, p.1.size ≤ maxLen) (hl : l.length ≤ 1000000) :
    SpecH Tryz.prog 106 [.v (.func (.func 150) #[] #[.pointer (some ⟨g, 0, none⟩)])] [.box g ⟨[.v (.map (some mg))], 163, 1⟩, mapE (fun k : ByteArray => Value.string k) mg E l]
      (fun y hp' => ∃ u, y = .v u ∧ hp' = [.row u l.length 1 (strsL (sKeys l)) 9, .box g ⟨[.v (.map (some mg))], 163, 1⟩, mapE (fun k : ByteArray => Value.string k) mg E l]) := fun w A us ha hap hA hE => by
  have hu : us = #[.func (.func 150) #[] #[.pointer (some ⟨g, 0, none⟩)]] := by
    have h0 := ha.2 0 (by simp)
    have h1 : us.size = 1 := ha.1
    have h2 := h0.eq_v
    apply Array.ext (by simp [h1])
    intro i hi1 hi2
    obtain rfl : i = 0 := by omega
    rw [Array.getD_eq_getD_getElem?, Array.getElem?_eq_getElem (by omega)] at h2
    simpa using h2
  subst hu
  have hB := hE _ (List.mem_cons_self ..)
  have hM := hE _ (List.mem_cons_of_mem _ (List.mem_cons_self ..))
  obtain ⟨c, b1, b2, b3, b4⟩ := hB
  have hc : c = #[.map (some mg)] := by
    obtain ⟨u, q1, q2⟩ := b4 0 (by simp)
    have := q2.eq_v
    simp at b2 this
    apply Array.ext (by simp [b2])
    intro i hi1 hi2
    obtain rfl : i = 0 := by omega
    rw [Array.getElem?_eq_getElem (by omega)] at q1
    cases q1
    simpa using this
  subst hc
  have hlen : l.length ≤ maxLen := by simp only [maxLen]; omega
  obtain ⟨D, d1, d2, d3⟩ := own_of_mapE (kt := 9) Tryz.underlying9 hM hnd hs hlen
  have hgl : g < w.heap.size := (Array.getElem?_eq_some_iff.1 b1).1
  have hcell : w.cell? ⟨g, 0, none⟩ = some (.map (some mg)) := by simp [World.cell?, b1]
  have hseq : SeqGives Fence.wide 2 Tryz.prog 150 #[.pointer (some ⟨g, 0, none⟩)] encStr (fun ss => ss.Perm (strKeys D)) (Maps.size D) w :=
    AnyZ.keys_gives (ρ := Tryz.keys107_ren) { Tryz.keys107 with } Fence.wide _ trivial rfl (by omega) g mg l.length D _ hgl hcell d1
  have hsz : Maps.size D ≤ maxLen := by rw [d2]; exact hlen
  have hby : Maps.size D * 16 ≤ 140737488355328 := by rw [d2]; omega
  refine ((callsIn_wide (n := 5)).1 (AnyZ.sorted_in Tryz.sorted106 Fence.wide 5 trivial trivial trivial trivial rfl (by omega) (sortsK _) (enters_of Tryz.func73 (by kernel_rfl) rfl) 150 #[.pointer (some ⟨g, 0, none⟩)] trivial (enters_of Tryz.func150 (by kernel_rfl) rfl) _ _ hsz hby _ hseq)).mono ?_
  rintro e w' ⟨v, ss, rfl, hS, hrow, hnil, hb⟩
  have hS' : ss.Perm (l.map fun p => p.1.data.toList) := hS.trans d3
  have hssl : ss.length = l.length := by simpa using hS'.length_eq
  have hkeys : (ss.mergeSort (fun x y => decide (x ≤ y))).map encStr = (sKeys l).map fun k => Value.string k := by
    have := mergeSort_of_perm hS'
    unfold leB at this
    rw [this, sKeys, List.map_map]
    rfl
  rw [hkeys] at hrow
  have hchg : Chg NoB w w' := (Chg.ofBelow hb).mono fun k h1 h2 => absurd h1 (Nat.not_lt.2 h2)
  obtain ⟨r1, r2⟩ := hrow
  have hZ : ∀ b, b < w.heap.size ∧ A b → Zh w A [.box g ⟨[.v (.map (some mg))], 163, 1⟩, mapE (fun k : ByteArray => Value.string k) mg E l] [.row v l.length 1 (strsL (sKeys l)) 9, .box g ⟨[.v (.map (some mg))], 163, 1⟩, mapE (fun k : ByteArray => Value.string k) mg E l] w' b := fun b ⟨hb1, hb2⟩ => by
    refine ⟨Nat.lt_of_lt_of_le hb1 hchg.size, fun ⟨e, he, heb⟩ => ?_, fun _ => .inl hb2⟩
    rcases List.mem_cons.1 he with rfl | he
    · rcases r2 with ⟨rfl, _⟩ | ⟨g2, cap, cur, rfl, hge, _⟩
      · simp [Ent.blk, Value.ownBlock] at heb
      · simp [Ent.blk, Value.ownBlock] at heb; omega
    · exact hA b ⟨e, he, heb⟩ hb2
  have hold : ∀ e ∈ [Ent.box g ⟨[.v (.map (some mg))], 163, 1⟩, mapE (fun k : ByteArray => Value.string k) mg E l], ∀ b, e.blk = some b → b < w.heap.size := fun e he b heb => by
    rcases List.mem_cons.1 he with rfl | he
    · simp [Ent.blk] at heb; omega
    · simp at he; subst he
      simp [Ent.blk] at heb
      obtain ⟨c2, k1, _⟩ := hM
      have := (Array.getElem?_eq_some_iff.1 k1).1
      omega
  refine ⟨_, _, _, ⟨v, rfl, rfl⟩, rfl, ?_, .v _, fun e he => ?_, fun b ⟨e, he, heb⟩ hl => ?_, hchg.any⟩
  · refine List.pairwise_cons.2 ⟨fun q hq b h1 h2 => ?_, hap⟩
    rcases r2 with ⟨rfl, _⟩ | ⟨g2, cap, cur, rfl, hge, _⟩
    · simp [Ent.blk, Value.ownBlock] at h1
    · simp [Ent.blk, Value.ownBlock] at h1
      have := hold q hq b h2
      omega
  · rcases List.mem_cons.1 he with rfl | he
    · refine ⟨by simp [strsL, sKeys_len], ?_⟩
      rcases r2 with ⟨rfl, hz⟩ | ⟨g2, cap, cur, rfl, hge, k1, k2, k3, k4, k5⟩
      · exact .inl ⟨rfl, by omega⟩
      · refine .inr ⟨g2, cap, cur, by rw [hssl], by omega, k3, k1, k4, fun j hj => ?_⟩
        have hj' : j < (sKeys l).length := by simpa [strsL] using hj
        have hcur : cur[j]? = some (.string ((sKeys l)[j])) := by
          have := congrArg (fun z => z[j]?) k5
          simp only [List.getElem?_map, List.getElem?_eq_getElem hj', Option.map_some] at this
          rw [List.getElem?_take] at this
          split at this
          · simpa using this
          · cases this
        exact ⟨_, hcur, by simp only [strsL, List.getElem_map]; exact .v _⟩
    · exact (hE e he).keep (fun b hb _ => ⟨hchg.block b hb.1 (fun h => h), hZ b hb⟩) fun b hb => hchg.block b (hold e he b hb) (fun h => h)
  · rcases List.mem_cons.1 he with rfl | he
    · rcases r2 with ⟨rfl, _⟩ | ⟨g2, cap, cur, rfl, hge, _⟩
      · simp [Ent.blk, Value.ownBlock] at heb
      · simp [Ent.blk, Value.ownBlock] at heb; omega
    · exact ⟨e, he, heb⟩
end
end Go.Proofs.YtbbgjeiefmiblaaGreatDoor
namespace Go.Proofs.YtbbgjeiefmiblaaGreatDoor
open Go.RowKit
set_option linter.unusedVariables false
set_option linter.unusedSimpArgs false

structure PlaceS where
 name : ByteArray
 part : ByteArray
 x : Int
 y : Int
 quarter : Int
instance : Inhabited PlaceS := ⟨⟨ByteArray.empty, ByteArray.empty, 0, 0, 0⟩⟩
instance : Sxc PlaceS where
 k := 5
 pos := by decide
 cell m j := match j with
  | 0 => avS m.name
  | 1 => avS m.part
  | 2 => avI m.x
  | 3 => avI m.y
  | 4 => avI m.quarter
  | _ => .any
structure ProdS where
 key : ByteArray
 wide : Int
 high : Int
 places : List PlaceS
instance : Inhabited ProdS := ⟨⟨ByteArray.empty, 0, 0, []⟩⟩
abbrev avProd (p : ProdS) : AV := .agg [avS p.key, avI p.wide, avI p.high, avL p.places]
abbrev boxProd (g : Nat) (p : ProdS) (ty : TypeId) : Ent := .box g ⟨[avS p.key, avI p.wide, avI p.high, avL p.places], ty, 4⟩
structure SmP (p : ProdS) : Prop where
 key : p.key.size ≤ 1000000
 len : p.places.length ≤ 1000000
 name : ∀ i, (p.places.getD i default).name.size ≤ 1000000
 part : ∀ i, (p.places.getD i default).part.size ≤ 1000000
def placeE (p : ProdS) (i : Nat) : Int :=
 if (keyF (p.places.getD i default).name && keyF (p.places.getD i default).part) = false then 5
 else if (decide (0 < i) && sLe (p.places.getD i default).name (p.places.getD (i - 1) default).name) = true then 7
 else if (outR (p.places.getD i default).x 0 p.wide || (outR (p.places.getD i default).y 0 p.high || outR (p.places.getD i default).quarter 0 3)) = true then 1
 else 0
def prodF (p : ProdS) : Int :=
 if keyF p.key = false then 5
 else if (outR p.wide 1 500000 || outR p.high 1 500000) = true then 1
 else if 1000 < p.places.length then 2
 else firstE (placeE p) p.places.length
section
variable {p : ProdS} {i : Nat}
theorem placeE_5a (h : keyF (p.places.getD i default).name = false) : placeE p i = 5 := by rw [placeE, if_pos (by rw [h]; rfl)]
theorem placeE_5b (h : keyF (p.places.getD i default).part = false) : placeE p i = 5 := by rw [placeE, if_pos (by rw [h, Bool.and_false])]
theorem placeE_7 (h1 : keyF (p.places.getD i default).name = true) (h2 : keyF (p.places.getD i default).part = true) (hi : 0 < i) (hs : sLe (p.places.getD i default).name (p.places.getD (i - 1) default).name = true) : placeE p i = 7 := by
 rw [placeE, if_neg (by rw [h1, h2]; simp), if_pos (by rw [hs, decide_eq_true hi]; rfl)]
theorem placeE_x (h1 : keyF (p.places.getD i default).name = true) (h2 : keyF (p.places.getD i default).part = true) (hs : i = 0 ∨ sLe (p.places.getD i default).name (p.places.getD (i - 1) default).name = false) :
  placeE p i = if (outR (p.places.getD i default).x 0 p.wide || (outR (p.places.getD i default).y 0 p.high || outR (p.places.getD i default).quarter 0 3)) = true then 1 else 0 := by
 rw [placeE, if_neg (by rw [h1, h2]; simp), if_neg]
 rcases hs with rfl | hs
 ·simp
 ·rw [hs]; simp
theorem placeE_1 (h1 : keyF (p.places.getD i default).name = true) (h2 : keyF (p.places.getD i default).part = true) (hs : i = 0 ∨ sLe (p.places.getD i default).name (p.places.getD (i - 1) default).name = false)
  (ho : (outR (p.places.getD i default).x 0 p.wide || (outR (p.places.getD i default).y 0 p.high || outR (p.places.getD i default).quarter 0 3)) = true) : placeE p i = 1 := by rw [placeE_x h1 h2 hs, if_pos ho]
theorem placeE_0 (h1 : keyF (p.places.getD i default).name = true) (h2 : keyF (p.places.getD i default).part = true) (hs : i = 0 ∨ sLe (p.places.getD i default).name (p.places.getD (i - 1) default).name = false)
  (ho : (outR (p.places.getD i default).x 0 p.wide || (outR (p.places.getD i default).y 0 p.high || outR (p.places.getD i default).quarter 0 3)) = false) : placeE p i = 0 := by rw [placeE_x h1 h2 hs, if_neg (by rw [ho]; simp)]
theorem prodF_5 (h : keyF p.key = false) : prodF p = 5 := by rw [prodF, if_pos h]
theorem prodF_1 (h : keyF p.key = true) (h1 : (outR p.wide 1 500000 || outR p.high 1 500000) = true) : prodF p = 1 := by rw [prodF, if_neg (by rw [h]; simp), if_pos h1]
theorem prodF_2 (h : keyF p.key = true) (h1 : (outR p.wide 1 500000 || outR p.high 1 500000) = false) (h2 : 1000 < p.places.length) : prodF p = 2 := by rw [prodF, if_neg (by rw [h]; simp), if_neg (by rw [h1]; simp), if_pos h2]
theorem prodF_x (h : keyF p.key = true) (h1 : (outR p.wide 1 500000 || outR p.high 1 500000) = false) (h2 : p.places.length ≤ 1000) : prodF p = firstE (placeE p) p.places.length := by rw [prodF, if_neg (by rw [h]; simp), if_neg (by rw [h1]; simp), if_neg (by omega)]
theorem prodF_at (h : keyF p.key = true) (h1 : (outR p.wide 1 500000 || outR p.high 1 500000) = false) (h2 : p.places.length ≤ 1000) {q : Nat} (hq : q < p.places.length) (hn : ∀ j, j < q → placeE p j = 0) {e : Int} (he : placeE p q = e) (h0 : e ≠ 0) : prodF p = e := by
 rw [prodF_x h h1 h2, firstE_found hn (by rw [he]; exact h0) hq, he]
theorem prodF_ok (h : keyF p.key = true) (h1 : (outR p.wide 1 500000 || outR p.high 1 500000) = false) (h2 : p.places.length ≤ 1000) (hn : ∀ j, j < p.places.length → placeE p j = 0) : prodF p = 0 := by
 rw [prodF_x h h1 h2, firstE_none hn]
end
structure ProdOk (p : ProdS) : Prop where
 key : keyF p.key = true
 wide : 1 ≤ p.wide ∧ p.wide ≤ 500000
 high : 1 ≤ p.high ∧ p.high ≤ 500000
 len : p.places.length ≤ 1000
 all : ∀ j, j < p.places.length → placeE p j = 0
theorem prodOk {p : ProdS} (h : prodF p = 0) : ProdOk p := by
 unfold prodF at h
 split at h
 ·cases h
 ·rename_i h1
  split at h
  ·cases h
  ·rename_i h2
   split at h
   ·cases h
   ·rename_i h3
    have h2' : (outR p.wide 1 500000 || outR p.high 1 500000) = false := by simpa using h2
    simp only [outR, Bool.or_eq_false_iff, decide_eq_false_iff_not] at h2'
    exact ⟨by simpa using h1, by omega, by omega, by omega, firstE_zero h⟩
def cntP (l : List PlaceS) : List (ByteArray × Int) := l.foldl (fun m x => mput m x.part (mgetD m x.part 0 + 1)) []
theorem cntP_snoc (l : List PlaceS) (x : PlaceS) : cntP (l ++ [x]) = mput (cntP l) x.part (mgetD (cntP l) x.part 0 + 1) := by simp [cntP]
theorem take_snocD {α : Type} {l : List α} {q : Nat} (h : q < l.length) (d : α) : l.take (q + 1) = l.take q ++ [l.getD q d] := by
 rw [List.take_add_one, List.getD_eq_getElem?_getD, List.getElem?_eq_getElem h]; rfl
theorem cntP_take {l : List PlaceS} {q : Nat} (h : q < l.length) : cntP (l.take (q + 1)) = mput (cntP (l.take q)) (l.getD q default).part (mgetD (cntP (l.take q)) (l.getD q default).part 0 + 1) := by
 rw [take_snocD h default, cntP_snoc]
theorem mget_mput {α : Type} : ∀ (l : List (ByteArray × α)) (k k' : ByteArray) (x : α), mget (mput l k x) k' = if k' = k then some x else mget l k'
 | [], k, k', x => by simp [mput, mget]
 | p :: r, k, k', x => by
  by_cases e : k = p.1
  ·subst e
   simp only [mput, if_true, mget]
   by_cases e2 : k' = p.1
   ·simp [e2]
   ·simp [e2]
  ·simp only [mput, if_neg e, mget]
   by_cases e2 : k' = p.1
   ·rw [if_pos e2, if_neg (fun h => e (h.symm.trans e2))]; simp [e2]
   ·rw [if_neg e2, mget_mput r k k' x]; simp [e2]
theorem mgetD_mput {α : Type} (l : List (ByteArray × α)) (k k' : ByteArray) (x z : α) : mgetD (mput l k x) k' z = if k' = k then x else mgetD l k' z := by
 unfold mgetD; rw [mget_mput]; split <;> rfl
theorem cntP_count : ∀ (l : List PlaceS) (m : List (ByteArray × Int)) (k : ByteArray), mgetD (l.foldl (fun m x => mput m x.part (mgetD m x.part 0 + 1)) m) k 0 = mgetD m k 0 + (l.filter fun x => decide (x.part = k)).length
 | [], m, k => by simp
 | x :: l, m, k => by
  rw [List.foldl_cons, cntP_count l, mgetD_mput]
  by_cases e : k = x.part
  ·subst e; simp; omega
  ·rw [if_neg e, List.filter_cons_of_neg (by simp; exact fun h => e h.symm)]
theorem cntP_get (l : List PlaceS) (k : ByteArray) : mgetD (cntP l) k 0 = (l.filter fun x => decide (x.part = k)).length := by
 rw [cntP, cntP_count]; simp [mgetD, mget]
theorem cntP_bd (l : List PlaceS) (k : ByteArray) : 0 ≤ mgetD (cntP l) k 0 ∧ mgetD (cntP l) k 0 ≤ l.length := by
 rw [cntP_get]
 have := List.length_filter_le (fun x : PlaceS => decide (x.part = k)) l
 omega
theorem cntP_nodup' : ∀ (l : List PlaceS) (m : List (ByteArray × Int)), (m.map (·.1)).Nodup → ((l.foldl (fun m x => mput m x.part (mgetD m x.part 0 + 1)) m).map (·.1)).Nodup
 | [], m, h => h
 | x :: l, m, h => cntP_nodup' l _ (mput_nodup h _ _)
theorem cntP_nodup (l : List PlaceS) : ((cntP l).map (·.1)).Nodup := cntP_nodup' l [] List.nodup_nil
theorem cntP_mem' : ∀ (l : List PlaceS) (m : List (ByteArray × Int)) (k : ByteArray), k ∈ (l.foldl (fun m x => mput m x.part (mgetD m x.part 0 + 1)) m).map (·.1) ↔ k ∈ m.map (·.1) ∨ ∃ x ∈ l, x.part = k
 | [], m, k => by simp
 | x :: l, m, k => by
  rw [List.foldl_cons, cntP_mem' l, mput_mem, or_assoc]
  simp only [List.mem_cons, exists_eq_or_imp]
  exact ⟨fun h => h.elim .inl fun h => h.elim (fun h => .inr (.inl h.symm)) fun h => .inr (.inr h), fun h => h.elim .inl fun h => h.elim (fun h => .inr (.inl h.symm)) fun h => .inr (.inr h)⟩
theorem cntP_mem {l : List PlaceS} {k : ByteArray} : k ∈ (cntP l).map (·.1) ↔ ∃ x ∈ l, x.part = k := by rw [cntP, cntP_mem']; simp
theorem cntP_len (l : List PlaceS) : (cntP l).length ≤ l.length := by
 unfold cntP
 have : ∀ (l : List PlaceS) (m : List (ByteArray × Int)), (l.foldl (fun m x => mput m x.part (mgetD m x.part 0 + 1)) m).length ≤ m.length + l.length := by
  intro l
  induction l with
  | nil => intro m; simp
  | cons x l ih =>
   intro m
   have := ih (mput m x.part (mgetD m x.part 0 + 1))
   have h2 := mput_len m x.part (mgetD m x.part 0 + 1)
   simp only [List.foldl_cons, List.length_cons]
   split at h2 <;> omega
 simpa using this l []
def needsL (p : ProdS) : List NeedS := (sKeys (cntP p.places)).map fun k => ⟨k, mgetD (cntP p.places) k 0⟩
def needsR (p : ProdS) : List NeedS := if prodF p = 0 then needsL p else []
theorem needsL_len (p : ProdS) : (needsL p).length = (cntP p.places).length := by simp [needsL, sKeys_len]
end Go.Proofs.YtbbgjeiefmiblaaGreatDoor
namespace Go.Proofs.YtbbgjeiefmiblaaGreatDoor
open Go.RowKit
set_option linter.unusedVariables false
set_option linter.unusedSimpArgs false

structure BodyS where
 part : ByteArray
 wide : Int
 high : Int
instance : Inhabited BodyS := ⟨⟨ByteArray.empty, 0, 0⟩⟩
instance : Sxc BodyS where
 k := 3
 pos := by decide
 cell m j := match j with
  | 0 => avS m.part
  | 1 => avI m.wide
  | 2 => avI m.high
  | _ => .any
section
variable {l : List BodyS} {i : Nat}
end
theorem placeE_zero {p : ProdS} {i : Nat} (h : placeE p i = 0) : (0 ≤ (p.places.getD i default).x ∧ (p.places.getD i default).x ≤ p.wide) ∧ (0 ≤ (p.places.getD i default).y ∧ (p.places.getD i default).y ≤ p.high) ∧ (0 ≤ (p.places.getD i default).quarter ∧ (p.places.getD i default).quarter ≤ 3) := by
 unfold placeE at h
 split at h
 ·cases h
 ·split at h
  ·cases h
  ·split at h
   ·cases h
   ·rename_i h1
    have h1' := Bool.not_eq_true _ ▸ h1
    simp only [outR, Bool.or_eq_true, decide_eq_true_eq, not_or] at h1
    omega
end Go.Proofs.YtbbgjeiefmiblaaGreatDoor
namespace Go.Proofs.YtbbgjeiefmiblaaGreatDoor
open Go.RowKit
set_option linter.unusedVariables false
set_option linter.unusedSimpArgs false

structure SlotS where
 x : Int
 y : Int
 quarter : Int
 skip : Bool
instance : Inhabited SlotS := ⟨⟨0, 0, 0, false⟩⟩
instance : Sxc SlotS where
 k := 4
 pos := by decide
 cell m j := match j with
  | 0 => avI m.x
  | 1 => avI m.y
  | 2 => avI m.quarter
  | 3 => avB m.skip
  | _ => .any
structure PanS where
 wide : Int
 high : Int
 slots : List SlotS
section
variable {n : PanS}
end
end Go.Proofs.YtbbgjeiefmiblaaGreatDoor
namespace Go.Proofs.YtbbgjeiefmiblaaGreatDoor
open Go.RowKit
set_option linter.unusedVariables false
set_option linter.unusedSimpArgs false

def AV.isV : AV → Bool
 | .v _ => true
 | _ => false
theorem flat_ofB {cs : List AV} (h : cs.all AV.isV = true) : FlatA cs := fun x hx => by
 have := List.all_eq_true.1 h x hx
 cases x <;> simp [AV.isV] at this
 exact ⟨_, rfl⟩
section
variable {P : Program} {s : St'}
theorem ResN.cellF {b t g j i k : Nat} {o' : Own'} {r : List AV} (hag : ∀ w, (isAgg t).run P w = .ok true w) (hsz : ∀ w, (sizeOf t).run P w = .ok k w) (hx : look s.sl b = some (.v (.pointer (some ⟨g, j, none⟩)))) (hi : s.hp[i]? = some (.box g o')) (hc : cutL o'.cs j k = some r) (hf : FlatA r) :
  ResN P s (.cell b t) (.agg r) := fun B a w hS hr => by
 obtain ⟨v, h1, h2⟩ := ResV.cellK hag hsz hx hi hc B a w hr
 refine ⟨v, h1, ?_⟩
 cases h2 with
 | agg cs us hl hr' => exact .agg _ _ hl fun j h => (hr' j h).flat (hf _ (List.getElem_mem h))
theorem ResN.rowT {α : Type} [Inhabited α] [Sxc α] {t i n : Nat} {u : Value} {xs : List α} {ty : TypeId} (h : look s.sl t = some (.v u)) (hi : s.hp[i]? = some (.row u n (Sxc.k α) (rowL xs) ty)) (hn : n = xs.length) (hf : FlatA (rowL xs)) : ResN P s (.tmp t) (avL xs) :=
 ResN.row h hi hf fun w Z u h => Rep.rowL hn h
theorem ResN.nilE {t sz : Nat} {F : Nat → AV} (h : look s.sl t = some (.v (.slice none 0 0))) : ResN P s (.tmp t) (.im 0 sz F) := fun B a w hS hr => ⟨_, rfl, by
 show Rep w (NewZ B w) _ (a.tmps.getD t undef)
 rw [(hr.slots t _ h).eq_v]; exact .nil _ _⟩
theorem flat_rowL {α : Type} [Inhabited α] [Sxc α] (h : ∀ (x : α) j, j < Sxc.k α → ∃ v, Sxc.cell x j = .v v) (xs : List α) : FlatA (rowL xs) := fun y hy => by
 simp only [rowL, List.mem_flatMap] at hy
 obtain ⟨x, _, hy⟩ := hy
 obtain ⟨j, hj, rfl⟩ := List.getElem_of_mem hy
 rw [tab_len] at hj
 obtain ⟨v, hv⟩ := h x j hj
 refine ⟨v, ?_⟩
 rw [← hv]
 have := tab_get (Sxc.k α) (Sxc.cell x) j
 have h2 : (tab (Sxc.k α) (Sxc.cell x))[j]? = some (Sxc.cell x j) := by rw [List.getElem?_eq_getElem (by rw [tab_len]; exact hj), tab_get]
 have h3 : j < (tab (Sxc.k α) (Sxc.cell x)).length := by rw [tab_len]; exact hj
 rw [List.getElem?_eq_getElem h3] at h2
 exact Option.some.inj h2
end
section
variable {P : Program} {B : Bs} {W : Nat → Prop} {s : St'} {o : Oper} {K : St' → Prop} {a : Act} {w : World}
theorem Le.freezeAt {t i m g : Nat} {o' : Own'} {f : Nat → AV} (ht : look s.sl t = some (.v (.pointer (some ⟨g, 0, none⟩)))) (hi : s.hp[i]? = some (.box g o')) (hl : 0 + m ≤ o'.cs.length) (hf : ∀ w Z u, Rep w Z (.at_ m fun j => o'.cs.getD (0 + j) .any) u → Rep w Z (.at_ m f) u) (hnew : True) (hB : B.Ok) :
  Le B s ⟨(t, .at_ m f) :: s.sl, s.hp.eraseIdx i, s.k⟩ := fun a w hr => by
 have hr' := hr.erase i
 refine hr'.over t ?_
 have hu : a.tmps.getD t undef = _ := (hr.slots t _ ht).eq_v
 rw [hu]
 refine hf _ _ _ (hr.repPtr hi hl (fun b hb => ⟨hb.1, fun p hp => hb.2.1 p ((List.eraseIdx_sublist s.hp i).subset hp), hb.2.2⟩) fun hl => ?_)
 exact hr.erased hB hi rfl
theorem apart_ne {hp : List Ent} (h : Apart hp) {i j g g' : Nat} (hi : (hp[i]?).bind Ent.blk = some g) (hj : (hp[j]?).bind Ent.blk = some g') (hij : i ≠ j) : g ≠ g' := fun e => by
 obtain ⟨p, hp1, hp2⟩ := Option.bind_eq_some_iff.1 hi
 obtain ⟨q, hq1, hq2⟩ := Option.bind_eq_some_iff.1 hj
 exact h.get hp1 hq1 hij hp2 (by rw [hq2, e])
theorem OpE.hap (h : Apart s.hp → OpE P B W s o K) : OpE P B W s o K := fun a w hr => h hr.nodup a w hr
theorem VC.hap {c : Code} {Q : Exit → St' → Prop} (h : Apart s.hp → VC P B c Q s) : VC P B c Q s := fun a w hr => h hr.nodup a w hr
theorem Wi.notD {ops : Array Oper} {i g : Nat} {js : List Nat} {X : Nat → Prop} (h : (js.all fun j => depB ops j i) = true) : ¬ Wi (fun j b => j ∈ js ∧ X b) ops i g := fun ⟨j, h1, h2, _⟩ => by
 rw [List.all_eq_true.1 h j h2] at h1; cases h1
theorem Wi.notN {ops : Array Oper} {i m m2 g : Nat} {X : Nat → Prop} (h : depB ops m i = true) : ¬ Wi (fun j b => (j = m ∧ X b) ∨ (j = m2 ∧ b ≠ g)) ops i g := fun ⟨j, h1, h2⟩ => by
 rcases h2 with ⟨h2, _⟩ | ⟨_, h2⟩
 ·subst h2; rw [h] at h1; cases h1
 ·exact h2 rfl
theorem Wi.notN2 {ops : Array Oper} {i g m m2 : Nat} {X Y : Nat → Prop} (h : depB ops m i = true) (hY : ¬ Y g) : ¬ Wi (fun j b => (j = m ∧ X b) ∨ (j = m2 ∧ Y b)) ops i g := fun ⟨j, h1, h2⟩ => by
 rcases h2 with ⟨h2, _⟩ | ⟨_, h2⟩
 ·subst h2; rw [h] at h1; cases h1
 ·exact hY h2
def lstB (n : Nat) (l : List Nat) : Array Bool := l.foldl (fun a i => a.setIfInBounds i true) (Array.replicate n false)
theorem VA.bind {V : Nat → Nat → Prop} {ops : Array Oper} {Q : Exit → St' → Prop} {n : Nat} {L : Array Bool} (h : ∀ F : Nat → Array Bool → St' → Prop, F = (fun n L s => VA P B V ops Q n L s) → F n L s) : VA P B V ops Q n L s := h _ rfl
theorem VA.to {V : Nat → Nat → Prop} {ops : Array Oper} {Q : Exit → St' → Prop} {n : Nat} {L L' : Array Bool} {s' : St'} (h : VA P B V ops Q n L' s') (hL : L = L') (hle : Le B s s') : VA P B V ops Q n L s := by
 subst hL
 exact VA.le _ hle h
theorem Le.aggRow {t i j n sz : Nat} {u : Value} {cs csA : List AV} {ty : TypeId} {y : AV} (hB : B.Ok) (hnew : True) (ht : look s.sl t = some (.agg csA)) (hj : csA[j]? = some (.v u)) (hi : s.hp[i]? = some (.row u n sz cs ty)) (hy : ∀ w Z u, Rep w Z (.im n sz fun j => cs.getD j .any) u → Rep w Z y u) :
  Le B s ⟨(t, .agg (csA.set j y)) :: s.sl, s.hp.eraseIdx i, s.k⟩ := fun a w hr => by
 have hm := List.mem_of_getElem? hi
 have hr' := hr.erase i
 refine hr'.over t ?_
 have hz : ∀ b, Zn B s.hp w b → Zn B (s.hp.eraseIdx i) w b := fun b hb => ⟨hb.1, fun p hp => hb.2.1 p ((List.eraseIdx_sublist s.hp i).subset hp), hb.2.2⟩
 have h0 := hr.slots t _ ht
 generalize a.tmps.getD t undef = v at h0
 cases h0 with
 | agg cs' us hl hrr =>
  refine .agg _ us (by simpa using hl) fun q hq => ?_
  have hq' : q < csA.length := by simpa using hq
  obtain ⟨hjl, hje⟩ := List.getElem?_eq_some_iff.1 hj
  rw [List.getElem_set]
  split
  ·rename_i e
   subst e
   have h1 := hrr j hjl
   rw [hje] at h1
   rw [h1.eq_v]
   exact hy _ _ _ (hr.repRow hi hz fun g hg hl => hr.erased hB hi hg)
  ·exact (hrr q hq').keep fun b hb _ => ⟨rfl, hz b hb⟩
theorem Rep.fn0 {w : World} {Z : Nat → Prop} {F : FuncId} {u : Value} (h : Rep w Z (.v (.func (.func F) #[] #[])) u) : Rep w Z (.fn F []) u := by
 rw [h.eq_v]; exact .fn F [] #[] rfl fun j hj => by simp at hj
end
end Go.Proofs.YtbbgjeiefmiblaaGreatDoor
namespace Go.Proofs.YtbbgjeiefmiblaaGreatDoor
open Go.RowKit
set_option linter.unusedVariables false
set_option linter.unusedSimpArgs false

def below (x n : Int) : Int := if n < 1 then 0 else x % n
theorem below_lo (x n : Int) : 0 ≤ below x n := by unfold below; split; omega; exact Int.emod_nonneg _ (by omega)
theorem below_lt (x n : Int) (h : 1 ≤ n) : below x n < n := by unfold below; rw [if_neg (by omega)]; exact Int.emod_lt_of_pos _ (by omega)
theorem tmod_facts (x n : Int) (h : 1 ≤ n) : x.tmod n < n ∧ -n < x.tmod n ∧ (x.tmod n < 0 → x.tmod n + n = x % n) ∧ (0 ≤ x.tmod n → x.tmod n = x % n) := by
 have hn := Int.emod_nonneg x (show n ≠ 0 by omega)
 have hl := Int.emod_lt_of_pos x (show 0 < n by omega)
 by_cases h0 : 0 ≤ x
 ·rw [Int.tmod_eq_emod_of_nonneg h0]
  exact ⟨hl, by omega, fun _ => by omega, fun _ => rfl⟩
 ·have e : x.tmod n = -((-x) % n) := by
   rw [← Int.tmod_eq_emod_of_nonneg (by omega : 0 ≤ -x), Int.neg_tmod, Int.neg_neg]
  have hn' := Int.emod_nonneg (-x) (show n ≠ 0 by omega)
  have hl' := Int.emod_lt_of_pos (-x) (show 0 < n by omega)
  have e2 := Int.neg_emod (a := x) (b := n)
  rw [e]
  split at e2
  ·have : x % n = 0 := Int.emod_eq_zero_of_dvd ‹_›
   exact ⟨by omega, by omega, fun _ => by omega, fun _ => by omega⟩
  ·have e3 : (n.natAbs : Int) = n := by omega
   rw [e3] at e2
   exact ⟨by omega, by omega, fun _ => by omega, fun _ => by omega⟩

set_option maxHeartbeats 400000 in
theorem below_any (x n : Int) (w : World) (hn : n ≤ 9223372036854775807) :
  Calls Tryz.prog 108 #[.int .i64 x, .int .i64 n] w fun e w' => e = .returned (.int .i64 (below x n)) ∧ w = w' := by
 by_cases h1 : n < 1
 ·go_enter Tryz.func108, Tryz.ntmps108
  go_wp2
  go_ret
  exact ⟨by simp [below, h1], rfl⟩
 ·obtain ⟨b1, b2, b3, b4⟩ := tmod_facts x n (by omega)
  have B3 := hid b3; clear b3
  have B4 := hid b4; clear b4
  go_enter Tryz.func108, Tryz.ntmps108
  go_wp2
  ·go_ret
   exact ⟨ret_int (by rw [below, if_neg (by omega)]; exact B3.out (by omega)), rfl⟩
  ·go_ret
   exact ⟨ret_int (by rw [below, if_neg (by omega)]; exact B4.out (by omega)), rfl⟩

def nxt (L : List Int) (k : Nat) (n : Int) : Int :=
 if L.length = 0 then below (((k : Int) + 1) * 7919) n
 else below (below (L.getD (k % L.length) 0) 1073741824 + ((k / L.length : Nat) : Int) * (7919 + ((k % L.length : Nat) : Int))) n
theorem nxt_lo (L : List Int) (k : Nat) (n : Int) : 0 ≤ nxt L k n := by unfold nxt; split <;> exact below_lo _ _
theorem nxt_lt (L : List Int) (k : Nat) (n : Int) (h : 1 ≤ n) : nxt L k n < n := by unfold nxt; split <;> exact below_lt _ _ h

def Strm (w : World) (p : Nat) (L : List Int) (k : Nat) : Prop :=
 ∃ a cap, w.heap[p]? = some (.cells #[.slice a L.length cap, .int .i64 k] 25 (0, 0)) ∧ L.length ≤ 9223372036854775807 ∧
  ∀ i, i < L.length → ∃ b o, a = some ⟨b, o, none⟩ ∧ b < p ∧ w.cell? ⟨b, o + i, none⟩ = some (.int .i64 (L.getD i 0))

theorem Strm.keep {S : Nat → Prop} {w w' : World} {p : Nat} {L : List Int} {k : Nat} (h : Strm w p L k) (c : Chg S w w') (hs : ∀ j, j ≤ p → ¬ S j) : Strm w' p L k := by
 obtain ⟨a, cap, hp, hl, hc⟩ := h
 have hlt := (Array.getElem?_eq_some_iff.1 hp).1
 refine ⟨a, cap, (c.block p hlt (hs p (Nat.le_refl _))).trans hp, hl, fun i hi => ?_⟩
 obtain ⟨b, o, ha, hb, hcell⟩ := hc i hi
 exact ⟨b, o, ha, hb, c.cell hcell (hs _ (Nat.le_of_lt hb))⟩
theorem Strm.lt {w : World} {p : Nat} {L : List Int} {k : Nat} (h : Strm w p L k) : p < w.heap.size := by
 obtain ⟨a, cap, hp, hl, hc⟩ := h
 exact (Array.getElem?_eq_some_iff.1 hp).1

theorem Strm.step {w : World} {p : Nat} {L : List Int} {k : Nat} {a : Option Addr} {cap : Nat}
  (hp : w.heap[p]? = some (.cells #[.slice a L.length cap, .int .i64 k] 25 (0, 0))) (hl : L.length ≤ 9223372036854775807)
  (hc : ∀ i, i < L.length → ∃ b o, a = some ⟨b, o, none⟩ ∧ b < p ∧ w.cell? ⟨b, o + i, none⟩ = some (.int .i64 (L.getD i 0))) :
  Strm (w.setCell ⟨p, 1, none⟩ (.int .i64 ((k : Int) + 1))) p L (k + 1) := by
 refine ⟨a, cap, ?_, hl, fun i hi => ?_⟩
 ·simp [World.setCell, Array.getElem?_modify, hp]
 ·obtain ⟨b, o, ha, hb, hcell⟩ := hc i hi
  refine ⟨b, o, ha, hb, ?_⟩
  rw [← hcell]
  exact World.cell?_of_block (Below.heap_setCell _ _ _ _ (Nat.ne_of_lt hb))

set_option maxHeartbeats 400000 in
theorem next_any (p : Nat) (L : List Int) (k : Nat) (n : Int) (w : World) (h : Strm w p L k) (hk : k ≤ 1000000) (hn : n ≤ 1000000000) :
  Calls Tryz.prog 51 #[.pointer (some ⟨p, 0, none⟩), .int .i64 n] w fun e w' => e = .returned (.int .i64 (nxt L k n)) ∧ Strm w' p L (k + 1) ∧ Chg (AtB p) w w' := by
 obtain ⟨a, cap, hp, hl, hc⟩ := h
 have c0 : w.cell? ⟨p, 0, none⟩ = some (.slice a L.length cap) := by simp [World.cell?, hp]
 have c1 : w.cell? ⟨p, 1, none⟩ = some (.int .i64 k) := by simp [World.cell?, hp]
 have f1 : w.frozen? ⟨p, 1, none⟩ = false := by simp [World.frozen?, hp]
 have HP := hid hp; clear hp
 by_cases h0 : L.length = 0
 ·have h0' : ((L.length : Int) == 0) = true := by simp [h0]
  have H0 := hid h0; clear h0
  go_enter Tryz.func51, Tryz.ntmps51
  go_wp2_with (go_at_call 108; refine (below_any _ _ _ (by omega)).mono ?_; rintro e w' ⟨rfl, rfl⟩)
  go_ret
  exact ⟨ret_int (by rw [nxt, if_pos H0.out]), Strm.step HP.out hl hc, (Chg.refl (AtB p) w).setCell (a := ⟨p, 1, none⟩) (fun _ => rfl) _⟩
 ·have h0' : ((L.length : Int) == 0) = false := beq_eq_false_iff_ne.2 (by omega)
  obtain ⟨b, o, rfl, hbp', _⟩ := hc 0 (by omega)
  have hbp : b ≠ p := by omega
  have hci := (hc (k % L.length) (Nat.mod_lt _ (by omega)))
  obtain ⟨_, _, he, _, hci⟩ := hci
  cases he
  have HC := hid hc; clear hc
  have hm := Nat.mod_lt k (show 0 < L.length by omega)
  have hmk := Nat.mod_le k L.length
  have hdk := Nat.div_le_self k L.length
  have hb := below_lo (L[k % L.length]) 1073741824
  have hb2 := below_lt (L[k % L.length]) 1073741824 (by omega)
  have em : (k : Int) % (L.length : Int) = ((k % L.length : Nat) : Int) := by simp
  have ed : (k : Int) / (L.length : Int) = ((k / L.length : Nat) : Int) := by simp
  have m1 : 0 ≤ (k : Int) % (L.length : Int) := by rw [em]; omega
  have m2 : (k : Int) % (L.length : Int) < (L.length : Int) := by rw [em]; omega
  have m3 : (k : Int) % (L.length : Int) ≤ 1000000 := by rw [em]; omega
  have d1 : 0 ≤ (k : Int) / (L.length : Int) := Int.ediv_nonneg (by omega) (by omega)
  have d2 : (k : Int) / (L.length : Int) ≤ 1000000 := by rw [ed]; omega
  clear em ed
  have q1 : 0 ≤ (k : Int) / (L.length : Int) * (7919 + (k : Int) % (L.length : Int)) := Int.mul_nonneg d1 (by omega)
  have q2 : (k : Int) / (L.length : Int) * (7919 + (k : Int) % (L.length : Int)) ≤ 1000000 * 1007919 := Int.mul_le_mul d2 (by omega) (by omega) (by omega)
  go_enter Tryz.func51, Tryz.ntmps51
  go_wp2_with fail
  go_quiet (fail)
  go_wp2_with fail
  go_quiet (fail)
  go_wp2_with (go_at_call 108; refine (below_any _ _ _ (by omega)).mono ?_; rintro e w' ⟨rfl, rfl⟩)
  go_ret
  refine ⟨ret_int ?_, (Strm.step HP.out hl HC.out).keep ((Chg.refl NoB _).drewN _) (fun _ _ x => x), ((Chg.refl (AtB p) w).setCell (a := ⟨p, 1, none⟩) (fun _ => rfl) _).drewN _⟩
  rw [nxt, if_neg h0]
  simp [hm]

def rng (L : List Int) (k : Nat) (lo hi : Int) : Int := lo + nxt L k (hi - lo + 1)
theorem rng_lo (L : List Int) (k : Nat) (lo hi : Int) : lo ≤ rng L k lo hi := by unfold rng; have := nxt_lo L k (hi - lo + 1); omega
theorem rng_hi (L : List Int) (k : Nat) (lo hi : Int) (h : lo ≤ hi) : rng L k lo hi ≤ hi := by unfold rng; have := nxt_lt L k (hi - lo + 1) (by omega); omega

set_option maxHeartbeats 400000 in
theorem range_any (p : Nat) (L : List Int) (k : Nat) (lo hi : Int) (w : World) (h : Strm w p L k) (hk : k ≤ 1000000) (h0 : 0 ≤ lo) (hl : lo ≤ hi) (hn : hi ≤ 999999999) :
  Calls Tryz.prog 7 #[.pointer (some ⟨p, 0, none⟩), .int .i64 lo, .int .i64 hi] w fun e w' => e = .returned (.int .i64 (rng L k lo hi)) ∧ Strm w' p L (k + 1) ∧ Chg (AtB p) w w' := by
 have b1 := nxt_lo L k (hi - lo + 1)
 have b2 := nxt_lt L k (hi - lo + 1) (by omega)
 have hlt := h.lt
 go_enter Tryz.func7, Tryz.ntmps7
 go_wp2_with (go_at_call 51; refine (next_any _ _ _ _ _ h (by omega) (by omega)).mono ?_; rintro e w' ⟨rfl, hs, hc⟩)
 go_ret
 exact ⟨rfl, hs, hc⟩

set_option maxHeartbeats 400000 in
theorem flip_any (p : Nat) (L : List Int) (k : Nat) (n : Int) (w : World) (h : Strm w p L k) (hk : k ≤ 1000000) (hn : n ≤ 1000000000) :
  Calls Tryz.prog 12 #[.pointer (some ⟨p, 0, none⟩), .int .i64 n] w fun e w' => e = .returned (.bool (nxt L k n == 0)) ∧ Strm w' p L (k + 1) ∧ Chg (AtB p) w w' := by
 go_enter Tryz.func12, Tryz.ntmps12
 go_wp2_with (go_at_call 51; refine (next_any _ _ _ _ _ h (by omega) (by omega)).mono ?_; rintro e w' ⟨rfl, hs, hc⟩)
 go_ret
 exact ⟨rfl, hs, hc⟩

def pick (L : List Int) (k : Nat) (xs : List Int) : Int := xs.getD (nxt L k xs.length).toNat 0

end Go.Proofs.YtbbgjeiefmiblaaGreatDoor
namespace Go.Proofs.YtbbgjeiefmiblaaGreatDoor
open Go.RowKit
set_option linter.unusedVariables false
set_option linter.unusedSimpArgs false

def TT (p : Nat) (L : List Int) (w : World) (k : Nat) : Prop := ∃ k', k' ≤ k ∧ Strm w p L k'
abbrev sp (p : Nat) : AV := .v (.pointer (some ⟨p, 0, none⟩))
theorem TT.ok {p : Nat} {L : List Int} {w : World} {A : Nat → Prop} {nt k : Nat} (h : TT p L w k) : (B1 w A nt (fun b => b = p) (fun b => b ≤ p) (TT p L)).Ok := by
 obtain ⟨k', hk, hs⟩ := h
 exact {
  keep := fun {S w w' k} ⟨k', hk, hs⟩ hc hS => ⟨k', hk, hs.keep hc hS⟩
  low := fun j hj => Nat.lt_of_le_of_lt hj hs.lt
  str := fun j hj => by cases hj; exact ⟨Nat.le_refl _, rfl⟩
  up := fun {w k k2} ⟨k', h1, h2⟩ h3 => ⟨k', Nat.le_trans h1 h3, h2⟩ }
theorem chgIs {p : Nat} {w w' : World} (h : Chg (AtB p) w w') : Chg (fun b => b = p) w w' := by
 have : (fun b => b = p) = AtB p := rfl
 rw [this]; exact h

theorem SpecT.of_Calls {P : Program} {F : FuncId} {xs : List AV} {us0 : Array Value} {p : Nat} {L : List Int} {G : AV → Prop}
  (hus : ∀ w A us, Args w A xs us → us = us0)
  (h : ∀ w k, k ≤ 1000000 → Strm w p L k → Calls P F us0 w fun e w' => ∃ v, e = .returned v ∧ G (.v v) ∧ Strm w' p L (k + 1) ∧ Chg (AtB p) w w') :
  SpecT P (TT p L) (fun b => b = p) F xs 1 G := by
 intro w A us k hA ⟨k', hk', hs⟩ hstr hk
 have hu := hus w A us hA
 subst hu
 refine (h w k' (by omega) hs).mono ?_
 rintro e w' ⟨v, rfl, hG, hs', hc⟩
 exact ⟨.v v, v, hG, rfl, .v v, chgIs hc, ⟨k' + 1, by omega, hs'⟩⟩
theorem args2 {p : Nat} {u : Value} {w : World} {A : Nat → Prop} {us : Array Value} (h : Args w A [sp p, .v u] us) : us = #[.pointer (some ⟨p, 0, none⟩), u] := by
 obtain ⟨h1, h2⟩ := h
 have e0 := (h2 0 (by simp)).eq_v
 have e1 := (h2 1 (by simp)).eq_v
 apply Array.ext (by simpa using h1)
 intro i hi hi'
 simp at hi'
 rw [h1] at hi
 match i, hi' with
 | 0, _ => simpa [Array.getD_eq_getD_getElem?, h1] using e0
 | 1, _ => simpa [Array.getD_eq_getD_getElem?, h1] using e1
theorem args3 {p : Nat} {u v : Value} {w : World} {A : Nat → Prop} {us : Array Value} (h : Args w A [sp p, .v u, .v v] us) : us = #[.pointer (some ⟨p, 0, none⟩), u, v] := by
 obtain ⟨h1, h2⟩ := h
 have e0 := (h2 0 (by simp)).eq_v
 have e1 := (h2 1 (by simp)).eq_v
 have e2 := (h2 2 (by simp)).eq_v
 apply Array.ext (by simpa using h1)
 intro i hi hi'
 simp at hi'
 rw [h1] at hi
 match i, hi' with
 | 0, _ => simpa [Array.getD_eq_getD_getElem?, h1] using e0
 | 1, _ => simpa [Array.getD_eq_getD_getElem?, h1] using e1
 | 2, _ => simpa [Array.getD_eq_getD_getElem?, h1] using e2

section
variable {p : Nat} {L : List Int}
theorem next_T {n : Int} (hn : n ≤ 1000000000) : SpecT Tryz.prog (TT p L) (fun b => b = p) 51 [sp p, avI n] 1 (fun y => ∃ r : Int, (0 ≤ r ∧ (1 ≤ n → r < n)) ∧ y = avI r) :=
 SpecT.of_Calls (fun w A us h => args2 h) fun w k hk hs => (next_any p L k n w hs hk hn).mono fun e w' ⟨h1, h2, h3⟩ => ⟨_, h1, ⟨_, ⟨nxt_lo L k n, nxt_lt L k n⟩, rfl⟩, h2, h3⟩
theorem range_T {lo hi : Int} (h0 : 0 ≤ lo) (hl : lo ≤ hi) (hn : hi ≤ 999999999) : SpecT Tryz.prog (TT p L) (fun b => b = p) 7 [sp p, avI lo, avI hi] 1 (fun y => ∃ r : Int, (lo ≤ r ∧ r ≤ hi) ∧ y = avI r) :=
 SpecT.of_Calls (fun w A us h => args3 h) fun w k hk hs => (range_any p L k lo hi w hs hk h0 hl hn).mono fun e w' ⟨h1, h2, h3⟩ => ⟨_, h1, ⟨_, ⟨rng_lo L k lo hi, rng_hi L k lo hi hl⟩, rfl⟩, h2, h3⟩
theorem flip_T {n : Int} (hn : n ≤ 1000000000) : SpecT Tryz.prog (TT p L) (fun b => b = p) 12 [sp p, avI n] 1 (fun y => ∃ r : Bool, y = avB r) :=
 SpecT.of_Calls (fun w A us h => args2 h) fun w k hk hs => (flip_any p L k n w hs hk hn).mono fun e w' ⟨h1, h2, h3⟩ => ⟨_, h1, ⟨_, rfl⟩, h2, h3⟩
end

def AllI (lo hi : Int) : List AV → Prop
 | [] => True
 | x :: r => (∃ i : Int, (lo ≤ i ∧ i ≤ hi) ∧ x = avI i) ∧ AllI lo hi r
theorem AllI.nil {lo hi : Int} : AllI lo hi [] := trivial
theorem AllI.cons {lo hi i : Int} {r : List AV} (h : lo ≤ i ∧ i ≤ hi) (hr : AllI lo hi r) : AllI lo hi (avI i :: r) := ⟨⟨i, h, rfl⟩, hr⟩
theorem AllI.get {lo hi : Int} : ∀ {l : List AV} {q : Nat}, AllI lo hi l → q < l.length → ∃ i : Int, (lo ≤ i ∧ i ≤ hi) ∧ l.getD q .any = avI i
 | [], q, _, h => by simp at h
 | x :: r, 0, h, _ => by simpa using h.1
 | x :: r, q + 1, h, hq => by simpa using AllI.get h.2 (by simpa using hq)
def AllX : List AV → Prop
 | [] => True
 | x :: r => (∃ i : Int, x = avI i) ∧ AllX r
theorem AllX.nil : AllX [] := trivial
theorem AllX.cons {i : Int} {r : List AV} (hr : AllX r) : AllX (avI i :: r) := ⟨⟨i, rfl⟩, hr⟩
theorem AllX.get : ∀ {l : List AV} {q : Nat}, AllX l → q < l.length → ∃ i : Int, l.getD q .any = avI i
 | [], q, _, h => by simp at h
 | x :: r, 0, h, _ => by simpa using h.1
 | x :: r, q + 1, h, hq => by simpa using AllX.get h.2 (by simpa using hq)
def AllS (m : Nat) : List AV → Prop
 | [] => True
 | x :: r => (∃ i : ByteArray, i.size ≤ m ∧ x = avS i) ∧ AllS m r
theorem AllS.nil {m : Nat} : AllS m [] := trivial
theorem AllS.cons {m : Nat} {i : ByteArray} {r : List AV} (h : i.size ≤ m) (hr : AllS m r) : AllS m (avS i :: r) := ⟨⟨i, h, rfl⟩, hr⟩
theorem AllS.get {m : Nat} : ∀ {l : List AV} {q : Nat}, AllS m l → q < l.length → ∃ i : ByteArray, i.size ≤ m ∧ l.getD q .any = avS i
 | [], q, _, h => by simp at h
 | x :: r, 0, h, _ => by simpa using h.1
 | x :: r, q + 1, h, hq => by simpa using AllS.get h.2 (by simpa using hq)



set_option maxRecDepth 100000 in
theorem pick_T {p : Nat} {L : List Int} {n : Nat} {l : List AV} (lo hi : Int) (hn : l.length = n) (h0 : 0 < n) (h1 : n ≤ 1000) (hall : AllI lo hi l) :
  SpecT Tryz.prog (TT p L) (fun b => b = p) 11 [sp p, .im n 1 fun j => l.getD j .any] 1 (fun y => ∃ r : Int, (lo ≤ r ∧ r ≤ hi) ∧ y = avI r) := by
 refine SpecT.of_VC Tryz.func11 rfl Tryz.ntmps11 (Nle rfl) (low := (fun b => b ≤ p)) (fun w A k h => h.ok) fun w A k hk hB => ?_
 have hnew : True := trivial
 refine VC.sr ?_
 refine VO.ma rfl rfl rfl rfl ?_
 refine VO.nil ?_
 refine VC.sr ?_
 refine VO.mv rfl rfl rfl rfl ?_
 refine VO.mv rfl rfl rfl rfl ?_
 refine VO.mv rfl rfl rfl rfl ?_
 refine VO.val rfl rfl (OpV.len_im rfl Tryz.underlying22 rfl) ?_
 refine VO.op rfl (OpE.callT' (k) rfl rfl hB rfl Tryz.call51 rfl ((next_T (by omega))) (by omega) ?_)
 rintro _ ⟨r9, hr9, rfl⟩
 refine VO.val rfl rfl (OpV.indexAddr_1 rfl Tryz.underlying22 Tryz.sizeOf3 rfl rfl (Int.toNat_of_nonneg (by omega)).symm (by omega)) ?_
 refine VO.val rfl rfl (OpV.load_at rfl hB OutW.no Tryz.isAgg3 rfl rfl) ?_
 refine VO.ma rfl rfl rfl rfl ?_
 refine VO.nil ?_
 refine VC.ret ?_
 exact Exists.intro _ (And.intro (RetV.one Tryz.results11 (ResV.tmp rfl)) (And.intro (hall.get (by omega)) ((show k + 1 ≤ k + 1 by omega))))
set_option maxRecDepth 100000 in
theorem pick_X {p : Nat} {L : List Int} {n : Nat} {l : List AV} (hn : l.length = n) (h0 : 0 < n) (h1 : n ≤ 1000) (hall : AllX l) :
  SpecT Tryz.prog (TT p L) (fun b => b = p) 11 [sp p, .im n 1 fun j => l.getD j .any] 1 (fun y => ∃ r : Int, y = avI r) := by
 refine SpecT.of_VC Tryz.func11 rfl Tryz.ntmps11 (Nle rfl) (low := (fun b => b ≤ p)) (fun w A k h => h.ok) fun w A k hk hB => ?_
 have hnew : True := trivial
 refine VC.sr ?_
 refine VO.ma rfl rfl rfl rfl ?_
 refine VO.nil ?_
 refine VC.sr ?_
 refine VO.mv rfl rfl rfl rfl ?_
 refine VO.mv rfl rfl rfl rfl ?_
 refine VO.mv rfl rfl rfl rfl ?_
 refine VO.val rfl rfl (OpV.len_im rfl Tryz.underlying22 rfl) ?_
 refine VO.op rfl (OpE.callT' (k) rfl rfl hB rfl Tryz.call51 rfl ((next_T (by omega))) (by omega) ?_)
 rintro _ ⟨r9, hr9, rfl⟩
 refine VO.val rfl rfl (OpV.indexAddr_1 rfl Tryz.underlying22 Tryz.sizeOf3 rfl rfl (Int.toNat_of_nonneg (by omega)).symm (by omega)) ?_
 refine VO.val rfl rfl (OpV.load_at rfl hB OutW.no Tryz.isAgg3 rfl rfl) ?_
 refine VO.ma rfl rfl rfl rfl ?_
 refine VO.nil ?_
 refine VC.ret ?_
 exact Exists.intro _ (And.intro (RetV.one Tryz.results11 (ResV.tmp rfl)) (And.intro (hall.get (by omega)) ((show k + 1 ≤ k + 1 by omega))))
set_option maxRecDepth 100000 in
theorem some_T {p : Nat} {L : List Int} {n : Nat} {l : List AV} (m : Nat) (hn : l.length = n) (h0 : 0 < n) (h1 : n ≤ 1000) (hall : AllS m l) :
  SpecT Tryz.prog (TT p L) (fun b => b = p) 53 [sp p, .im n 1 fun j => l.getD j .any] 1 (fun y => ∃ r : ByteArray, r.size ≤ m ∧ y = avS r) := by
 refine SpecT.of_VC Tryz.func53 rfl Tryz.ntmps53 (Nle rfl) (low := (fun b => b ≤ p)) (fun w A k h => h.ok) fun w A k hk hB => ?_
 have hnew : True := trivial
 refine VC.sr ?_
 refine VO.ma rfl rfl rfl rfl ?_
 refine VO.nil ?_
 refine VC.sr ?_
 refine VO.mv rfl rfl rfl rfl ?_
 refine VO.mv rfl rfl rfl rfl ?_
 refine VO.mv rfl rfl rfl rfl ?_
 refine VO.val rfl rfl (OpV.len_im rfl Tryz.underlying29 rfl) ?_
 refine VO.op rfl (OpE.callT' (k) rfl rfl hB rfl Tryz.call51 rfl ((next_T (by omega))) (by omega) ?_)
 rintro _ ⟨r9, hr9, rfl⟩
 refine VO.val rfl rfl (OpV.indexAddr_1 rfl Tryz.underlying29 Tryz.sizeOf9 rfl rfl (Int.toNat_of_nonneg (by omega)).symm (by omega)) ?_
 refine VO.val rfl rfl (OpV.load_at rfl hB OutW.no Tryz.isAgg9 rfl rfl) ?_
 refine VO.ma rfl rfl rfl rfl ?_
 refine VO.nil ?_
 refine VC.ret ?_
 exact Exists.intro _ (And.intro (RetV.one Tryz.results53 (ResV.tmp rfl)) (And.intro (hall.get (by omega)) ((show k + 1 ≤ k + 1 by omega))))


end Go.Proofs.YtbbgjeiefmiblaaGreatDoor
