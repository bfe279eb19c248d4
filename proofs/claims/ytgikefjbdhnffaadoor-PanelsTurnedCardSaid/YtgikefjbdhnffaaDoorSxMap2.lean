/- The symbolic walk: maps of the function's own: made, read, written. -/
import Derived.Test.YtgikefjbdhnffaaDoorSxMap
import Derived.Test.YtgikefjbdhnffaaDoorSxGrow
namespace Go.Proofs.YtgikefjbdhnffaaDoor
open Go.RowKit
set_option linter.unusedVariables false
set_option linter.unusedSimpArgs false

theorem getMap {P : Program} {w : World} {r : Nat} {es : Array MapEntry} {clock : Nat} (hb : w.heap[r]? = some (.map es clock)) : (getObj r).run P w = .ok (.map es clock) w := by
  simp [getObj, Sem.run, hb]
theorem putMap {P : Program} {w : World} {r : Nat} {es : Array MapEntry} {clock : Nat} (c : Array MapEntry) (clk : Nat) (hb : w.heap[r]? = some (.map es clock)) : (setObj r (.map c clk)).run P w = .ok () { w with heap := w.heap.setIfInBounds r (.map c clk) } := by
  simp [setObj, Sem.run, hb]
def _root_.Go.World.setMp (w : World) (g : Nat) (c : Array MapEntry) (clk : Nat) : World := { w with heap := w.heap.setIfInBounds g (.map c clk) }
theorem setMp_heap (w : World) (g : Nat) (c c' : Array MapEntry) (clk clk' : Nat) (h : w.heap[g]? = some (.map c clk)) : (w.setMp g c' clk').heap[g]? = some (.map c' clk') := by
  have := (Array.getElem?_eq_some_iff.1 h).1
  simp [World.setMp, this]
theorem setMp_other (w : World) (g b : Nat) (c' : Array MapEntry) (clk' : Nat) (h : b ≠ g) : (w.setMp g c' clk').heap[b]? = w.heap[b]? := by
  simp only [World.setMp]
  exact Array.getElem?_setIfInBounds_ne (fun e => h e.symm)
theorem chg_setMp (w : World) (g : Nat) (c : Array MapEntry) (clk : Nat) : Chg (fun b => some g = some b) w (w.setMp g c clk) :=
  ⟨rfl, rfl, rfl, by simp [World.setMp], fun k _ hk => setMp_other w g k c clk (fun e => hk (by rw [e]))⟩
section
variable {P : Program} {B : Bs} {W : Nat → Prop} {s s' : St'} {o : Oper} {K : St' → Prop} {a : Act} {w w' : World}
variable {κ α : Type} {kv : κ → Value} {E : α → AV}

/-- An operand that is a key. -/
def KeyE (B : Bs) (s : St') (x : Operand) (v : Value) : Prop := ∀ a w, R B s a w → a.eval x = v
theorem KeyE.v {x : Operand} {v : Value} (h : evO s x = some (.v v)) : KeyE B s x v := fun a w hr => hr.evv h
theorem KeyE.agg2 {x : Operand} {v1 v2 : Value} (h : evO s x = some (.agg [.v v1, .v v2])) : KeyE B s x (.agg #[v1, v2]) := fun a w hr => by
  have := hr.ev h
  generalize hv : a.eval x = u at this
  cases this with
  | agg cs us hl hr =>
    have h0 := (hr 0 (by simp)).eq_v
    have h1 := (hr 1 (by simp)).eq_v
    simp at hl
    congr 1
    apply Array.ext (by simp [hl])
    intro i hi1 hi2
    simp [hl] at hi1
    match i, hi1 with
    | 0, _ => simpa [hl] using h0
    | 1, _ => simpa [hl] using h1

/-- What a map of one's own holds. -/
theorem EntR.toMap {g : Nat} {l : List (κ × α)} {Z : Nat → Prop} (h : EntR w Z (mapE kv g E l)) : ∃ c : Array MapEntry, w.heap[g]? = some (.map c l.length) ∧ c.size = l.length ∧ ∀ j (hj : j < l.length), (c[j]!).key = kv (l[j]).1 ∧ (c[j]!).born = j ∧ Rep w Z (E (l[j]).2) (c[j]!).val := by
  obtain ⟨c, h1, h2, h3, h4⟩ := h
  rw [mE_len] at h2
  refine ⟨c, h1, h2, fun j hj => ?_⟩
  obtain ⟨k1, k2, k3, k4⟩ := h4 j (by rw [mE_len]; exact hj)
  have e := mE_get (kv := kv) (E := E) l 0 j hj
  rw [List.getElem?_eq_getElem (by rw [mE_len]; exact hj)] at e
  have e := Option.some.inj e
  rw [e] at k1 k2 k4
  exact ⟨k1, by simpa using k2, k4⟩
theorem EntR.ofMap {g : Nat} {l : List (κ × α)} {Z : Nat → Prop} {c : Array MapEntry} (h1 : w.heap[g]? = some (.map c l.length)) (h2 : c.size = l.length) (h3 : ∀ j (hj : j < l.length), (c[j]!).key = kv (l[j]).1 ∧ (c[j]!).born = j ∧ Rep w Z (E (l[j]).2) (c[j]!).val) : EntR w Z (mapE kv g E l) := by
  refine ⟨c, h1, by rw [mE_len]; exact h2, by rw [mE_born]; exact List.nodup_range', fun j hj => ?_⟩
  have hj' := hj
  rw [mE_len] at hj'
  have e := mE_get (kv := kv) (E := E) l 0 j hj'
  rw [List.getElem?_eq_getElem hj] at e
  have e := Option.some.inj e
  rw [e]
  obtain ⟨k1, k2, k3⟩ := h3 j hj'
  exact ⟨k1, by simp [k2], by simpa using hj', k3⟩
theorem map_find [DecidableEq κ] {kt : TypeId} (hk : KeyOk P kt kv) {l : List (κ × α)} {Z : Nat → Prop} {c : Array MapEntry} (h2 : c.size = l.length) (h3 : ∀ j (hj : j < l.length), (c[j]!).key = kv (l[j]).1 ∧ (c[j]!).born = j ∧ Rep w Z (E (l[j]).2) (c[j]!).val) (k : κ) (w0 : World) :
    (Instr.findKey kt (kv k) c.toList).run P w0 = .ok (if mpos l k < l.length then some (mpos l k, (c[mpos l k]!).val) else none) w0 := by
  have := hk.find l c.toList k w0 (by simpa using h2) (fun j hj => ⟨c[j]!, by rw [Array.getElem?_toList, getElem!_pos c j (by omega)]; exact Array.getElem?_eq_getElem _, (h3 j hj).1⟩)
  rw [this]
  split
  · rename_i h
    rw [Array.getElem?_toList, getElem!_pos c _ (by omega), Array.getElem?_eq_getElem (by omega)]
    rfl
  · rfl

theorem OpE.makeMap {t : TypeId} (kv : κ → Value) (E : α → AV) (ho : o.op = .makeMap t none) (hB : B.Ok) (hd : okd B.nt o.dst = true)
    (hK : ∀ g, K ((St'.mk s.sl (s.hp ++ [mapE kv g E []]) s.k).put o.dst (.v (.map (some g))))) : OpE P B W s o K := by
  intro a w hr next Qx hn
  have h1 := hr.new hB (.map #[] 0) (mapE kv w.heap.size E []) rfl (EntR.ofMap (l := ([] : List (κ × α))) (c := #[]) (heap_alloc_new w _) rfl fun j hj => by simp at hj)
  have hrun : (execOp a.eval o).run P w = .ok (.value (.map (some w.heap.size))) (w.alloc (.map #[] 0)) := by
    simp [execOp, ho, Instr.makeMap, run_newObj_alloc]
  unfold Oper.wp
  rw [hrun]
  exact hn _ _ _ (hK _) (h1.put _ hd _ _ (.v _)) (.ofN ((Chg.refl _ _).alloc _))

/-- m[k] of a map of one's own. -/
theorem OpV.lookup_own [DecidableEq κ] {x y : Operand} {T kt e g i : Nat} {k : κ} {l : List (κ × α)} {z : Value} (ho : o.op = .lookup T x y false) (hB : B.Ok) (hu : P.underlying T = some (.map kt e)) (hko : KeyOk P kt kv) (hz : ∀ w, (zeroValue e).run P w = .ok z w)
    (hx : evO s x = some (.v (.map (some g)))) (hk : KeyE B s y (kv k)) (hi : s.hp[i]? = some (mapE kv g E l)) (hW : ¬ W g) : OpV P B W s o (match mget l k with | some v => E v | none => .v z) := fun a w hr => by
  have hm := List.mem_of_getElem? hi
  obtain ⟨c, h1, h2, h3⟩ := EntR.toMap (hr.blocks _ hm)
  have hf := map_find hko h2 h3 k
  have hg := mget_pos l k
  have hle := mpos_le l k
  by_cases hp : mpos l k < l.length
  · have e : mget l k = some (l[mpos l k]).2 := by rw [hg, List.getElem?_eq_getElem hp]; rfl
    rw [e]
    refine ⟨(c[mpos l k]!).val, fun w' hcw => ?_, (h3 _ hp).2.2⟩
    have h1' : w'.heap[g]? = some (.map c l.length) := (hcw.block g (hr.lt _ hm g rfl) fun h => h.elim (hr.notStr hB hm rfl) hW).trans h1
    simp [execOp, ho, Instr.lookup, run_underlying hu, hr.evv hx, hk a w hr, getMap h1', hko.check, hf, hp]
  · have e : mget l k = none := by rw [hg, List.getElem?_eq_none (by omega)]; rfl
    rw [e]
    refine ⟨z, fun w' hcw => ?_, .v _⟩
    have h1' : w'.heap[g]? = some (.map c l.length) := (hcw.block g (hr.lt _ hm g rfl) fun h => h.elim (hr.notStr hB hm rfl) hW).trans h1
    simp [execOp, ho, Instr.lookup, run_underlying hu, hr.evv hx, hk a w hr, getMap h1', hko.check, hf, hp, hz]
/-- m[k] of a map of one's own, and whether it is there. -/
theorem OpV.lookup_ok [DecidableEq κ] {x y : Operand} {T kt e g i : Nat} {k : κ} {l : List (κ × α)} {z : Value} (ho : o.op = .lookup T x y true) (hB : B.Ok) (hu : P.underlying T = some (.map kt e)) (hko : KeyOk P kt kv) (hz : ∀ w, (zeroValue e).run P w = .ok z w)
    (hx : evO s x = some (.v (.map (some g)))) (hk : KeyE B s y (kv k)) (hi : s.hp[i]? = some (mapE kv g E l)) (hW : ¬ W g) : OpV P B W s o (.tup [match mget l k with | some v => E v | none => .v z, avB (mget l k).isSome]) := fun a w hr => by
  have hm := List.mem_of_getElem? hi
  obtain ⟨c, h1, h2, h3⟩ := EntR.toMap (hr.blocks _ hm)
  have hf := map_find hko h2 h3 k
  have hg := mget_pos l k
  have hle := mpos_le l k
  by_cases hp : mpos l k < l.length
  · have e : mget l k = some (l[mpos l k]).2 := by rw [hg, List.getElem?_eq_getElem hp]; rfl
    rw [e]
    refine ⟨.tuple #[(c[mpos l k]!).val, .bool true], fun w' hcw => ?_, .tup _ _ rfl fun j hj => ?_⟩
    · have h1' : w'.heap[g]? = some (.map c l.length) := (hcw.block g (hr.lt _ hm g rfl) fun h => h.elim (hr.notStr hB hm rfl) hW).trans h1
      simp [execOp, ho, Instr.lookup, run_underlying hu, hr.evv hx, hk a w hr, getMap h1', hko.check, hf, hp]
    · match j, hj with
      | 0, _ => exact (h3 _ hp).2.2
      | 1, _ => exact .v _
  · have e : mget l k = none := by rw [hg, List.getElem?_eq_none (by omega)]; rfl
    rw [e]
    refine ⟨.tuple #[z, .bool false], fun w' hcw => ?_, .tup _ _ rfl fun j hj => ?_⟩
    · have h1' : w'.heap[g]? = some (.map c l.length) := (hcw.block g (hr.lt _ hm g rfl) fun h => h.elim (hr.notStr hB hm rfl) hW).trans h1
      simp [execOp, ho, Instr.lookup, run_underlying hu, hr.evv hx, hk a w hr, getMap h1', hko.check, hf, hp, hz]
    · match j, hj with
      | 0, _ => exact .v _
      | 1, _ => exact .v _
theorem OpV.len_map {x : Operand} {T kt e g i : Nat} {l : List (κ × α)} (ho : o.op = .call { callee := .builtin .len, args := #[x], argTypes := #[T] }) (hB : B.Ok) (hu : P.underlying T = some (.map kt e)) (hx : evO s x = some (.v (.map (some g)))) (hi : s.hp[i]? = some (mapE kv g E l)) (hW : ¬ W g) : OpV P B W s o (avI (l.length : Int)) :=
  OpV.conc (fun a w hr w' hcw => by
    have hm := List.mem_of_getElem? hi
    obtain ⟨c, h1, h2, h3⟩ := EntR.toMap (hr.blocks _ hm)
    have h1' : w'.heap[g]? = some (.map c l.length) := (hcw.block g (hr.lt _ hm g rfl) fun h => h.elim (hr.notStr hB hm rfl) hW).trans h1
    simp [execOp, ho, resolve, invoke, builtin, Builtin.len_, run_underlying hu, hr.evv hx, getMap h1', h2, goInt])
theorem modify_at {c : Array MapEntry} {i j : Nat} {f : MapEntry → MapEntry} (h : j < c.size) : (c.modify i f)[j]! = if i = j then f (c[j]!) else c[j]! := by
  rw [getElem!_pos _ j (by simpa using h), getElem!_pos c j h, Array.getElem_modify]
theorem push_at {c : Array MapEntry} {j : Nat} {x : MapEntry} (h : j < c.size + 1) : (c.push x)[j]! = if j < c.size then c[j]! else x := by
  rw [getElem!_pos _ j (by simpa using h), Array.getElem_push]
  split
  · rename_i h1; rw [getElem!_pos c j h1]
  · rfl
/-- The state behind a change of a map of one's own. -/
theorem R.setMap (hB : B.Ok) (hr : R B s a w) {i g : Nat} {l l' : List (κ × α)} {c c' : Array MapEntry} (hi : s.hp[i]? = some (mapE kv g E l)) (h1 : w.heap[g]? = some (.map c l.length)) (h2' : c'.size = l'.length)
    (h3' : ∀ j (hj : j < l'.length), (c'[j]!).key = kv (l'[j]).1 ∧ (c'[j]!).born = j ∧ Rep w (Zn B s.hp w) (E (l'[j]).2) (c'[j]!).val) : R B ⟨s.sl, s.hp.set i (mapE kv g E l'), s.k⟩ a (w.setMp g c' l'.length) := by
  have hm := List.mem_of_getElem? hi
  refine hr.set hB hi (chg_setMp w g c' l'.length) (.inl rfl) (EntR.ofMap (setMp_heap w g c c' _ _ h1) h2' fun j hj => ?_)
  obtain ⟨k1, k2, k3⟩ := h3' j hj
  refine ⟨k1, k2, k3.keep fun b hb hbl => ⟨setMp_other w g b c' _ fun e => hb.2.1 _ hm (by rw [e]; rfl), by simp [World.setMp]; exact hbl, fun p hp => ?_, hb.2.2⟩⟩
  rcases List.mem_or_eq_of_mem_set hp with hp | hp
  · exact hb.2.1 p hp
  · subst hp; exact hb.2.1 (mapE kv g E l) hm
/-- m[k] = x. -/
theorem OpE.mapUpdate [DecidableEq κ] {x y v : Operand} {T kt e g i : Nat} {k : κ} {xx : α} {l : List (κ × α)} (ho : o.op = .mapUpdate T x y v) (hB : B.Ok) (hd : okd B.nt o.dst = true) (hu : P.underlying T = some (.map kt e)) (hko : KeyOk P kt kv)
    (hx : evO s x = some (.v (.map (some g)))) (hk : KeyE B s y (kv k)) (hv : evO s v = some (E xx)) (hi : s.hp[i]? = some (mapE kv g E l)) (hW : W g)
    (hK : K ((St'.mk s.sl (s.hp.set i (mapE kv g E (mput l k xx))) s.k).put o.dst (.v undef))) : OpE P B W s o K := by
  intro a w hr next Qx hn
  have hm := List.mem_of_getElem? hi
  obtain ⟨c, h1, h2, h3⟩ := EntR.toMap (hr.blocks _ hm)
  have hf := map_find hko h2 h3 k w
  have hle := mpos_le l k
  have hvv := hr.ev hv
  generalize hu' : a.eval v = u at hvv
  by_cases hp : mpos l k < l.length
  · have hput := mput_old l k xx hp
    have hkey : (((c[mpos l k]?).map (·.key)).getD (kv k)) = kv k := by
      rw [Array.getElem?_eq_getElem (by omega)]
      have := (h3 _ hp).1
      rw [getElem!_pos c _ (by omega)] at this
      simp only [Option.map_some, Option.getD_some, this, mpos_key l k hp]
    have hr' := hr.setMap hB (l' := mput l k xx) (c' := c.modify (mpos l k) fun e => { e with key := kv k, val := u }) hi h1 (by rw [hput]; simp [h2]) (fun j hj => by
      have hj' : j < l.length := by rw [hput] at hj; simpa using hj
      simp only [hput]
      rw [modify_at (by omega)]
      by_cases ej : mpos l k = j
      · rw [if_pos ej]
        subst ej
        exact ⟨by simp, (h3 _ hp).2.1, by simpa using hvv⟩
      · rw [if_neg ej, List.getElem_set_ne ej]
        exact h3 j hj')
    have hlen : (mput l k xx).length = l.length := by rw [hput]; simp
    have hrun : (execOp a.eval o).run P w = .ok .skip (w.setMp g (c.modify (mpos l k) fun e => { e with key := kv k, val := u }) (mput l k xx).length) := by
      simp [execOp, ho, Instr.mapUpdate, run_underlying hu, hr.evv hx, hk a w hr, getMap h1, hko.check, hf, hp, hkey, hko.stay, hu', putMap _ _ h1, hlen, World.setMp]
    unfold Oper.wp
    rw [hrun]
    exact hn _ _ _ hK (hr'.put _ hd _ _ (.v _)) ((chg_setMp w g _ _).mono fun b _ h => .inr (by cases h; exact hW))
  · have hput := mput_new l k xx (by omega)
    have hr' := hr.setMap hB (l' := mput l k xx) (c' := c.push { key := kv k, val := u, born := l.length }) hi h1 (by rw [hput]; simp [h2]) (fun j hj => by
      have hj' : j < l.length + 1 := by rw [hput] at hj; simpa using hj
      simp only [hput]
      rw [push_at (by omega)]
      by_cases ej : j < l.length
      · rw [if_pos (by omega), List.getElem_append_left ej]
        exact h3 j ej
      · obtain rfl : j = l.length := by omega
        rw [if_neg (by omega)]
        simpa using hvv)
    have hlen : (mput l k xx).length = l.length + 1 := by rw [hput]; simp
    have hrun : (execOp a.eval o).run P w = .ok .skip (w.setMp g (c.push { key := kv k, val := u, born := l.length }) (mput l k xx).length) := by
      simp [execOp, ho, Instr.mapUpdate, run_underlying hu, hr.evv hx, hk a w hr, getMap h1, hko.check, hf, hp, hu', putMap _ _ h1, hlen, World.setMp]
    unfold Oper.wp
    rw [hrun]
    exact hn _ _ _ hK (hr'.put _ hd _ _ (.v _)) ((chg_setMp w g _ _).mono fun b _ h => .inr (by cases h; exact hW))
/-- The map behind 'the entry of k': k is there. -/
def ment [DecidableEq κ] (l : List (κ × α)) (k : κ) (z : α) : List (κ × α) := if mpos l k < l.length then l else l ++ [(k, z)]
def mgetD [DecidableEq κ] (l : List (κ × α)) (k : κ) (z : α) : α := (mget l k).getD z
theorem ment_pos [DecidableEq κ] {l : List (κ × α)} {k : κ} {z : α} : mpos l k < (ment l k z).length := by
  have := mpos_le l k
  unfold ment
  split
  · assumption
  · simp; omega
theorem mput_ment [DecidableEq κ] {l : List (κ × α)} {k : κ} {z x : α} : (ment l k z).set (mpos l k) (k, x) = mput l k x := by
  have := mpos_le l k
  unfold ment
  split
  · rename_i h; rw [mput_old l k x h]
  · rename_i h
    have e : mpos l k = l.length := by omega
    rw [mput_new l k x e, e, List.set_append_right _ _ (Nat.le_refl _)]
    simp
theorem ment_key [DecidableEq κ] {l : List (κ × α)} {k : κ} {z : α} : ((ment l k z)[mpos l k]'ment_pos).1 = k := by
  have hle := mpos_le l k
  by_cases h : mpos l k < l.length
  · have e : ment l k z = l := by rw [ment, if_pos h]
    simp only [e]
    exact mpos_key l k h
  · have e : ment l k z = l ++ [(k, z)] := by rw [ment, if_neg h]
    simp only [e]
    rw [List.getElem_append_right (by omega)]
    simp
/-- The entry of k, to be written: its value and its stamp. -/
theorem OpE.mapEntry [DecidableEq κ] {x y : Operand} {T kt e g i : Nat} {k : κ} {l : List (κ × α)} {z : Value} (zz : α) (ho : o.op = .mapEntry T x y) (hB : B.Ok) (hd : okd B.nt o.dst = true) (hu : P.underlying T = some (.map kt e)) (hko : KeyOk P kt kv)
    (hz : ∀ w, (zeroValue e).run P w = .ok z w) (hzz : E zz = .v z) (hx : evO s x = some (.v (.map (some g)))) (hk : KeyE B s y (kv k)) (hi : s.hp[i]? = some (mapE kv g E l)) (hW : W g)
    (hK : K ((St'.mk s.sl (s.hp.set i (mapE kv g E (ment l k zz))) s.k).put o.dst (.tup [E (mgetD l k zz), avI (mpos l k : Int)]))) : OpE P B W s o K := by
  intro a w hr next Qx hn
  have hm := List.mem_of_getElem? hi
  obtain ⟨c, h1, h2, h3⟩ := EntR.toMap (hr.blocks _ hm)
  have hf := map_find hko h2 h3 k w
  have hle := mpos_le l k
  have hgp := mget_pos l k
  by_cases hp : mpos l k < l.length
  · have hl' : ment l k zz = l := by rw [ment, if_pos hp]
    have hgd : mgetD l k zz = (l[mpos l k]).2 := by rw [mgetD, hgp, List.getElem?_eq_getElem hp]; rfl
    rw [hl', hgd] at hK
    have hkey : (((c[mpos l k]?).map (·.key)).getD (kv k)) = kv k := by
      rw [Array.getElem?_eq_getElem (by omega)]
      have := (h3 _ hp).1
      rw [getElem!_pos c _ (by omega)] at this
      simp only [Option.map_some, Option.getD_some, this, mpos_key l k hp]
    have hborn : ((c[mpos l k]?).map fun x => (x.born : Int)).getD 0 = (mpos l k : Int) := by
      rw [Array.getElem?_eq_getElem (by omega)]
      have := (h3 _ hp).2.1
      rw [getElem!_pos c _ (by omega)] at this
      simp only [Option.map_some, Option.getD_some, this]
    have hr' := hr.setMap hB (l' := l) (c' := c.modify (mpos l k) fun e => { e with key := kv k }) hi h1 (by simp [h2]) (fun j hj => by
      rw [modify_at (by omega)]
      by_cases ej : mpos l k = j
      · rw [if_pos ej]
        subst ej
        exact ⟨by simp [mpos_key l k hp], (h3 _ hp).2.1, (h3 _ hp).2.2⟩
      · rw [if_neg ej]
        exact h3 j hj)
    have hrun : (execOp a.eval o).run P w = .ok (.value (.tuple #[(c[mpos l k]!).val, goInt (mpos l k)])) (w.setMp g (c.modify (mpos l k) fun e => { e with key := kv k }) l.length) := by
      simp [execOp, ho, Instr.mapEntry, run_underlying hu, hr.evv hx, hk a w hr, getMap h1, hko.check, hf, hp, hkey, hborn, hko.stay, putMap _ _ h1, World.setMp]
    unfold Oper.wp
    rw [hrun]
    have hz' : ∀ b, Zn B s.hp w b → b < w.heap.size → (w.setMp g (c.modify (mpos l k) fun e => { e with key := kv k }) l.length).heap[b]? = w.heap[b]? ∧ Zn B (s.hp.set i (mapE kv g E l)) (w.setMp g (c.modify (mpos l k) fun e => { e with key := kv k }) l.length) b := fun b hb hbl =>
      ⟨setMp_other w g b _ _ fun e => hb.2.1 _ hm (by rw [e]; rfl), by simp [World.setMp]; exact hbl, fun p hp => by
        rcases List.mem_or_eq_of_mem_set hp with hp | hp
        · exact hb.2.1 p hp
        · subst hp; exact hb.2.1 (mapE kv g E l) hm, hb.2.2⟩
    refine hn _ _ _ hK (hr'.put _ hd _ _ (.tup _ _ rfl fun j hj => ?_)) ((chg_setMp w g _ _).mono fun b _ h => .inr (by cases h; exact hW))
    match j, hj with
    | 0, _ => exact (h3 _ hp).2.2.keep hz'
    | 1, _ => exact .v _
  · have hl' : ment l k zz = l ++ [(k, zz)] := by rw [ment, if_neg hp]
    have hgd : mgetD l k zz = zz := by rw [mgetD, hgp, List.getElem?_eq_none (by omega)]; rfl
    have hpe : mpos l k = l.length := by omega
    rw [hl', hgd, hzz, hpe] at hK
    have hr' := hr.setMap hB (l' := l ++ [(k, zz)]) (c' := c.push { key := kv k, val := z, born := l.length }) hi h1 (by simp [h2]) (fun j hj => by
      have hj' : j < l.length + 1 := by simpa using hj
      rw [push_at (by omega)]
      by_cases ej : j < l.length
      · rw [if_pos (by omega), List.getElem_append_left ej]
        exact h3 j ej
      · obtain rfl : j = l.length := by omega
        rw [if_neg (by omega)]
        simp only [List.getElem_append_right (Nat.le_refl _), Nat.sub_self, List.getElem_cons_zero, hzz, true_and]
        exact .v _)
    have hrun : (execOp a.eval o).run P w = .ok (.value (.tuple #[z, goInt l.length])) (w.setMp g (c.push { key := kv k, val := z, born := l.length }) (l ++ [(k, zz)]).length) := by
      simp [execOp, ho, Instr.mapEntry, run_underlying hu, hr.evv hx, hk a w hr, getMap h1, hko.check, hf, hp, hz, putMap _ _ h1, World.setMp]
    unfold Oper.wp
    rw [hrun]
    refine hn _ _ _ hK (hr'.put _ hd _ _ (.tup _ _ rfl fun j hj => ?_)) ((chg_setMp w g _ _).mono fun b _ h => .inr (by cases h; exact hW))
    match j, hj with
    | 0, _ => exact .v _
    | 1, _ => exact .v _
/-- The entry of k is written. -/
theorem OpE.entryStore [DecidableEq κ] {x y v : Operand} {T g i : Nat} {k : κ} {zz xx : α} {l : List (κ × α)} (ho : o.op = .entryStore T x y v) (hB : B.Ok) (hd : okd B.nt o.dst = true)
    (hx : evO s x = some (.v (.map (some g)))) (hy : evO s y = some (avI (mpos l k : Int))) (hv : evO s v = some (E xx)) (hi : s.hp[i]? = some (mapE kv g E (ment l k zz))) (hW : W g)
    (hK : K ((St'.mk s.sl (s.hp.set i (mapE kv g E (mput l k xx))) s.k).put o.dst (.v undef))) : OpE P B W s o K := by
  intro a w hr next Qx hn
  have hm := List.mem_of_getElem? hi
  obtain ⟨c, h1, h2, h3⟩ := EntR.toMap (hr.blocks _ hm)
  have hvv := hr.ev hv
  generalize hu' : a.eval v = u at hvv
  have hp := ment_pos (l := l) (k := k) (z := zz)
  have hput := mput_ment (l := l) (k := k) (z := zz) (x := xx)
  have hidx : c.findIdx? (fun e => (e.born : Int) == (mpos l k : Int)) = some (mpos l k) := by
    rw [Array.findIdx?_eq_some_iff_getElem]
    refine ⟨by omega, ?_, fun j hj => ?_⟩
    · have := (h3 _ hp).2.1
      rw [getElem!_pos c _ (by omega)] at this
      simp [this]
    · have := (h3 j (by omega)).2.1
      rw [getElem!_pos c _ (by omega)] at this
      simp [this]; omega
  have hlen : (mput l k xx).length = (ment l k zz).length := by rw [← hput]; simp
  have hr' := hr.setMap hB (l' := mput l k xx) (c' := c.modify (mpos l k) fun e => { e with val := u }) hi h1 (by rw [hlen]; simp [h2]) (fun j hj => by
    have hj' : j < (ment l k zz).length := by rw [← hlen]; exact hj
    simp only [← hput]
    rw [modify_at (by omega)]
    by_cases ej : mpos l k = j
    · rw [if_pos ej]
      subst ej
      refine ⟨?_, (h3 _ hp).2.1, by simpa using hvv⟩
      rw [List.getElem_set_self]
      show (c[mpos l k]!).key = kv k
      rw [(h3 _ hp).1, ment_key]
    · rw [if_neg ej, List.getElem_set_ne ej]
      exact h3 j hj')
  have hrun : (execOp a.eval o).run P w = .ok .skip (w.setMp g (c.modify (mpos l k) fun e => { e with val := u }) (mput l k xx).length) := by
    simp [execOp, ho, Instr.entryStore, hr.evv hx, hr.evv hy, getMap h1, hu', asInt, asIntOf, hidx, putMap _ _ h1, hlen, World.setMp]
  unfold Oper.wp
  rw [hrun]
  exact hn _ _ _ hK (hr'.put _ hd _ _ (.v _)) ((chg_setMp w g _ _).mono fun b _ h => .inr (by cases h; exact hW))
end
end Go.Proofs.YtgikefjbdhnffaaDoor
