/- The symbolic walk: results of struct type that stand in a cell of the function's own. -/
import Derived.Test.YtgikefjbdhnffaaDoorSxGrow
import Derived.Test.YtgikefjbdhnffaaDoorSxOwn
namespace Go.Proofs.YtgikefjbdhnffaaDoor
open Go.RowKit
set_option linter.unusedVariables false
set_option linter.unusedSimpArgs false

def AV.isV : AV → Bool
  | .v _ => true
  | _ => false
theorem flat_ofB {cs : List AV} (h : cs.all AV.isV = true) : FlatA cs := fun x hx => by
  have := List.all_eq_true.1 h x hx
  cases x <;> simp [AV.isV] at this
  exact ⟨_, rfl⟩
section
variable {P : Program} {s : St'}
theorem ResN.cellF {b t g j i k : Nat} {o' : Own'} {r : List AV} (hag : ∀ w, (isAgg t).run P w = .ok true w) (hsz : ∀ w, (sizeOf t).run P w = .ok k w) (hx : look s.sl b = some (.v (.pointer (some ⟨g, j, none⟩)))) (hi : s.hp[i]? = some (.box g o')) (hc : cutL o'.cs j k = some r) (hf : FlatA r) :
    ResN P s (.cell b t) (.agg r) := fun B a w hS hr => by
  obtain ⟨v, h1, h2⟩ := ResV.cellK hag hsz hx hi hc B a w hr
  refine ⟨v, h1, ?_⟩
  cases h2 with
  | agg cs us hl hr' => exact .agg _ _ hl fun j h => (hr' j h).flat (hf _ (List.getElem_mem h))
theorem ResN.rowT {α : Type} [Inhabited α] [Sxc α] {t i n : Nat} {u : Value} {xs : List α} {ty : TypeId} (h : look s.sl t = some (.v u)) (hi : s.hp[i]? = some (.row u n (Sxc.k α) (rowL xs) ty)) (hn : n = xs.length) (hf : FlatA (rowL xs)) : ResN P s (.tmp t) (avL xs) :=
  ResN.row h hi hf fun w Z u h => Rep.rowL hn h
theorem ResN.nilE {t sz : Nat} {F : Nat → AV} (h : look s.sl t = some (.v (.slice none 0 0))) : ResN P s (.tmp t) (.im 0 sz F) := fun B a w hS hr => ⟨_, rfl, by
  show Rep w (NewZ B w) _ (a.tmps.getD t undef)
  rw [(hr.slots t _ h).eq_v]; exact .nil _ _⟩
theorem flat_rowL {α : Type} [Inhabited α] [Sxc α] (h : ∀ (x : α) j, j < Sxc.k α → ∃ v, Sxc.cell x j = .v v) (xs : List α) : FlatA (rowL xs) := fun y hy => by
  simp only [rowL, List.mem_flatMap] at hy
  obtain ⟨x, _, hy⟩ := hy
  obtain ⟨j, hj, rfl⟩ := List.getElem_of_mem hy
  rw [tab_len] at hj
  obtain ⟨v, hv⟩ := h x j hj
  refine ⟨v, ?_⟩
  rw [← hv]
  have := tab_get (Sxc.k α) (Sxc.cell x) j
  have h2 : (tab (Sxc.k α) (Sxc.cell x))[j]? = some (Sxc.cell x j) := by rw [List.getElem?_eq_getElem (by rw [tab_len]; exact hj), tab_get]
  have h3 : j < (tab (Sxc.k α) (Sxc.cell x)).length := by rw [tab_len]; exact hj
  rw [List.getElem?_eq_getElem h3] at h2
  exact Option.some.inj h2
end
section
variable {P : Program} {B : Bs} {W : Nat → Prop} {s : St'} {o : Oper} {K : St' → Prop} {a : Act} {w : World}
/-- A literal slice, as a box of one's own. -/
theorem OpE.buildSliceO {t e : TypeId} {n sz : Nat} {zc : Array Value} {parts : Array (Nat × Operand)} {ps : List (Nat × AV)} {r : List AV} (ho : o.op = .buildSlice t n parts) (hB : B.Ok) (hd : okd B.nt o.dst = true) (hu : P.underlying t = some (.slice e))
    (hsz : ∀ w, (sizeOf e).run P w = .ok sz w) {z : Value} (hz : ∀ w, (zeroValue e).run P w = .ok z w) (hn : n * sz ≤ 65536) (h0 : n ≠ 0 ∧ sz ≠ 0) (hzc : (Array.range (n * sz)).map (fun j => z.cells[j % z.cells.size]!) = zc)
    (hps : evPs s parts.toList = some ps) (hf : fillA (fun i => some (i * sz, sz)) (zc.toList.map .v) ps = some r)
    (hK : ∀ g, K ((St'.mk s.sl (s.hp ++ [.box g ⟨r, e, r.length⟩]) s.k).put o.dst (.v (.slice (some ⟨g, 0, none⟩) n n)))) : OpE P B W s o K := by
  intro a w hr next Qx hn'
  obtain ⟨k1, k2⟩ := hr.evPs hps
  have hz0 : Reps w (Zn B s.hp w) (zc.toList.map .v) zc := (Rep.cells (.v (.agg zc)) rfl : Reps w _ (cellsOf (.v (.agg zc))) (Value.agg zc).cells)
  obtain ⟨c', h1, h2⟩ := fill_rep (Z := Zn B s.hp w) (w := w) (c := zc) hz0 hf (qs := parts.toList.map fun (i, x) => (i, a.eval x)) (by simp [k1]) k2
  have hr' := hr.newBox hB c' e r h2
  unfold Oper.wp
  have hne : ¬ (n * sz = 0) := Nat.mul_ne_zero h0.1 h0.2
  have hzc' : (Array.map (fun x => z.cells[x % z.cells.size]!) (Array.range (n * sz))) = zc := hzc
  have h24 : ¬ (n * sz > 2 ^ 24) := by omega
  simp only [execOp, ho, Instr.buildSlice, newRow, Sem.run_bind, run_underlying hu, hsz, hz, run_newObj_alloc, Result.andThen_ok, Sem.run_pure, hne, h24, if_false]
  have h1' : Instr.fill (fun i => some (i * sz, sz)) zc (Array.map (fun p => (p.1, a.eval p.2)) parts).toList = some c' := by simpa using h1
  rw [hzc']
  have h1'' : Instr.fill (fun i => some (i * sz, sz)) zc (Array.map (fun x => (x.fst, a.eval x.snd)) parts).toList = some c' := h1'
  rw [h1'']
  simp only [Sem.run_bind, run_newObj_alloc, Result.andThen_ok, Sem.run_pure]
  exact hn' _ _ _ (hK _) (hr'.put _ hd _ _ (.v _)) (.ofN ((Chg.refl _ _).alloc _))
theorem OpV.buildArr {t e n sz : Nat} {z : Value} {parts : Array (Nat × Operand)} {ps : List (Nat × AV)} {r : List AV} (ho : o.op = .build t parts) (hz : ∀ w, (zeroValue t).run P w = .ok z w) (hu : P.underlying t = some (.array n e)) (hsz : ∀ w, (sizeOf e).run P w = .ok sz w)
    (hps : evPs s parts.toList = some ps) (hf : fillA (fun i => some (i * sz, sz)) (cellsOf (.v z)) ps = some r) : OpV P B W s o (.agg r) := by
  intro a w hr
  obtain ⟨k1, k2⟩ := hr.evPs hps
  obtain ⟨c', h1, h2⟩ := fill_rep (Z := Zn B s.hp w) (w := w) (c := z.cells) (Rep.cells (.v z) rfl) hf (qs := parts.toList.map fun (i, x) => (i, a.eval x)) (by simp [k1]) k2
  refine ⟨.agg c', fun w' _ => ?_, .agg _ _ h2.1 h2.2⟩
  have h1' : Instr.fill (fun i => some (i * sz, sz)) z.cells (Array.map (fun p => (p.1, a.eval p.2)) parts).toList = some c' := by simpa using h1
  simp only [execOp, ho, Instr.build, Sem.run_bind, hz, run_underlying hu, hsz, Result.andThen_ok]
  have h1'' : Instr.fill (fun i => some (i * sz, sz)) z.cells (Array.map (fun x => match x with | (i, x) => (i, a.eval x)) parts).toList = some c' := h1'
  simp only [h1'', Sem.run_pure, Result.andThen_ok]
/-- A box is given up: its slot points to cells that nobody changes. -/
theorem Le.freezeAt {t i m g : Nat} {o' : Own'} {f : Nat → AV} (ht : look s.sl t = some (.v (.pointer (some ⟨g, 0, none⟩)))) (hi : s.hp[i]? = some (.box g o')) (hl : 0 + m ≤ o'.cs.length) (hf : ∀ w Z u, Rep w Z (.at_ m fun j => o'.cs.getD (0 + j) .any) u → Rep w Z (.at_ m f) u) (hnew : True) (hB : B.Ok) :
    Le B s ⟨(t, .at_ m f) :: s.sl, s.hp.eraseIdx i, s.k⟩ := fun a w hr => by
  have hr' := hr.erase i
  refine hr'.over t ?_
  have hu : a.tmps.getD t undef = _ := (hr.slots t _ ht).eq_v
  rw [hu]
  refine hf _ _ _ (hr.repPtr hi hl (fun b hb => ⟨hb.1, fun p hp => hb.2.1 p ((List.eraseIdx_sublist s.hp i).subset hp), hb.2.2⟩) fun hl => ?_)
  exact hr.erased hB hi rfl
theorem apart_ne {hp : List Ent} (h : Apart hp) {i j g g' : Nat} (hi : (hp[i]?).bind Ent.blk = some g) (hj : (hp[j]?).bind Ent.blk = some g') (hij : i ≠ j) : g ≠ g' := fun e => by
  obtain ⟨p, hp1, hp2⟩ := Option.bind_eq_some_iff.1 hi
  obtain ⟨q, hq1, hq2⟩ := Option.bind_eq_some_iff.1 hj
  exact h.get hp1 hq1 hij hp2 (by rw [hq2, e])
/-- One's own things lie apart. -/
theorem OpE.hap (h : Apart s.hp → OpE P B W s o K) : OpE P B W s o K := fun a w hr => h hr.nodup a w hr
theorem VC.hap {c : Code} {Q : Exit → St' → Prop} (h : Apart s.hp → VC P B c Q s) : VC P B c Q s := fun a w hr => h hr.nodup a w hr
/-- Where the orders of a drawn region meet. -/
theorem VC.joinK {x y : Code} {Q : Exit → St' → Prop} (kept : List (Nat × AV)) (hk : LeL s.sl kept) (ι : Type) (vs : ι → List (Nat × AV)) (hn : ι → List Ent)
    (h : VC P B x (thenQ (fun s1 => ∃ i, Le B s1 ⟨vs i ++ kept, s.hp ++ hn i, s.k⟩) Q) s) (k : ∀ i, VC P B y Q ⟨vs i ++ kept, s.hp ++ hn i, s.k⟩) : VC P B (.seq x y) Q s :=
  VC.joinI ι (fun i => ⟨vs i ++ kept, s.hp ++ hn i, s.k⟩) h k
theorem Wi.notD {ops : Array Oper} {i g : Nat} {js : List Nat} {X : Nat → Prop} (h : (js.all fun j => depB ops j i) = true) : ¬ Wi (fun j b => j ∈ js ∧ X b) ops i g := fun ⟨j, h1, h2, _⟩ => by
  rw [List.all_eq_true.1 h j h2] at h1; cases h1
theorem Wi.notN {ops : Array Oper} {i m m2 g : Nat} {X : Nat → Prop} (h : depB ops m i = true) : ¬ Wi (fun j b => (j = m ∧ X b) ∨ (j = m2 ∧ b ≠ g)) ops i g := fun ⟨j, h1, h2⟩ => by
  rcases h2 with ⟨h2, _⟩ | ⟨_, h2⟩
  · subst h2; rw [h] at h1; cases h1
  · exact h2 rfl
/-- A drawn region whose effects may come in many orders. -/
def lstB (n : Nat) (l : List Nat) : Array Bool := l.foldl (fun a i => a.setIfInBounds i true) (Array.replicate n false)
theorem VA.bind {V : Nat → Nat → Prop} {ops : Array Oper} {Q : Exit → St' → Prop} {n : Nat} {L : Array Bool} (h : ∀ F : Nat → Array Bool → St' → Prop, F = (fun n L s => VA P B V ops Q n L s) → F n L s) : VA P B V ops Q n L s := h _ rfl
theorem VA.to {V : Nat → Nat → Prop} {ops : Array Oper} {Q : Exit → St' → Prop} {n : Nat} {L L' : Array Bool} {s' : St'} (h : VA P B V ops Q n L' s') (hL : L = L') (hle : Le B s s') : VA P B V ops Q n L s := by
  subst hL
  exact VA.le _ hle h
/-- A row is given up that stands in a cell of an aggregate. -/
theorem Le.aggRow {t i j n sz : Nat} {u : Value} {cs csA : List AV} {ty : TypeId} {y : AV} (hB : B.Ok) (hnew : True) (ht : look s.sl t = some (.agg csA)) (hj : csA[j]? = some (.v u)) (hi : s.hp[i]? = some (.row u n sz cs ty)) (hy : ∀ w Z u, Rep w Z (.im n sz fun j => cs.getD j .any) u → Rep w Z y u) :
    Le B s ⟨(t, .agg (csA.set j y)) :: s.sl, s.hp.eraseIdx i, s.k⟩ := fun a w hr => by
  have hm := List.mem_of_getElem? hi
  have hr' := hr.erase i
  refine hr'.over t ?_
  have hz : ∀ b, Zn B s.hp w b → Zn B (s.hp.eraseIdx i) w b := fun b hb => ⟨hb.1, fun p hp => hb.2.1 p ((List.eraseIdx_sublist s.hp i).subset hp), hb.2.2⟩
  have h0 := hr.slots t _ ht
  generalize a.tmps.getD t undef = v at h0
  cases h0 with
  | agg cs' us hl hrr =>
    refine .agg _ us (by simpa using hl) fun q hq => ?_
    have hq' : q < csA.length := by simpa using hq
    obtain ⟨hjl, hje⟩ := List.getElem?_eq_some_iff.1 hj
    rw [List.getElem_set]
    split
    · rename_i e
      subst e
      have h1 := hrr j hjl
      rw [hje] at h1
      rw [h1.eq_v]
      exact hy _ _ _ (hr.repRow hi hz fun g hg hl => hr.erased hB hi hg)
    · exact (hrr q hq').keep fun b hb _ => ⟨rfl, hz b hb⟩
/-- A closure over what nobody changes. -/
theorem OpV.makeFuncF1 {F : FuncId} {c : Operand} {x : AV} (ho : o.op = .makeFunc (.func F) #[] #[c]) (hc : evO s c = some x) : OpV P B W s o (.fn F [x]) := fun a w hr => by
  refine ⟨.func (.func F) #[] #[a.eval c], fun w' _ => by simp [execOp, ho, Instr.makeFunc], .fn _ _ _ rfl fun j hj => ?_⟩
  simp at hj; subst hj
  exact hr.ev hc
theorem Rep.fn0 {w : World} {Z : Nat → Prop} {F : FuncId} {u : Value} (h : Rep w Z (.v (.func (.func F) #[] #[])) u) : Rep w Z (.fn F []) u := by
  rw [h.eq_v]; exact .fn F [] #[] rfl fun j hj => by simp at hj
end
end Go.Proofs.YtgikefjbdhnffaaDoor
