/- The symbolic walk's rules for a region whose order is open: what hangs on nothing that the region writes is taken first; of the rest, each that may come up. -/
import Derived.Test.YtgikefjbdhnffaaDoorSxCall
import Derived.OrdersHeld
import Derived.RegionTactic
namespace Go.Proofs.YtgikefjbdhnffaaDoor
open Go.RowKit
set_option linter.unusedVariables false
set_option linter.unusedSimpArgs false

section
variable {P : Program} {ops : Array Oper} {Q : Act → World → Prop} {md : Region.Mode} {E : Nat → World → World → Prop}

def onlyN (Q : Act → World → Prop) : Exit → Act → World → Prop
  | .normal, a, w => Q a w
  | _, _, _ => False

def YieldsE (P : Program) (ops : Array Oper) (E : World → World → Prop) (o : Oper) (v : Value) (a : Act) (w : World) : Prop :=
  (Region.wanted o (yielded ops a.tmps) = true ∧ ∀ w', E w w' → (execOp a.eval o).run P w' = .ok (.value v) w') ∨ (Region.wanted o (yielded ops a.tmps) = false ∧ v = undef)

theorem YieldsE.iff {E : World → World → Prop} {o : Oper} {v : Value} {a : Act} {w : World} (h : YieldsE P ops E o v a w) : YieldsIf P ops (E w) o v a := h

/-- Whatever order is picked from here on; each step leads from a world to one that E lets by. -/
def wpAnyE (P : Program) (md : Region.Mode) (ops : Array Oper) (Q : Act → World → Prop) (E : Nat → World → World → Prop) : Nat → Array Bool → Act → World → Prop
  | 0, listed, a, w => Region.ready md ops listed = [] ∧ Q a w
  | fuel + 1, listed, a, w => (Region.ready md ops listed = [] → Q a w) ∧
    ∀ i ∈ Region.ready md ops listed, wpOp P ops (onlyN Q) i (fun a' w' => E i w w' ∧ wpAnyE P md ops Q E fuel (listed.setIfInBounds i true) a' w') a w

theorem wpAny_of_E : ∀ (fuel : Nat) (listed : Array Bool) (a : Act) (w : World), wpAnyE P md ops Q E fuel listed a w → wpAny P md ops (onlyN Q) fuel listed a w
  | 0, _, _, _, h => h
  | fuel + 1, _, _, _, h => ⟨h.1, fun i hi => wpOp_mono (fun a' w' h' => wpAny_of_E fuel _ a' w' h'.2) (h.2 i hi)⟩

theorem wpAnyE_first {F : World → World → Prop} (htr : ∀ x y z, F x y → F y z → F x z) (hrf : ∀ x, F x x) {i : Nat} (hEr : ∀ x, E i x x)
    (hEF : ∀ j oj, ops[j]? = some oj → (∀ e ∈ oj.after, Region.binds md e = true → e.on ≠ i) → ∀ w w', E j w w' → F w w') {oi : Oper} {v : Value} (hi : ops[i]? = some oi) (hsel : ∀ (j : Nat) (o : Oper) cs b, ops[j]? = some o → o.op ≠ .select cs b) :
    ∀ (fuel : Nat) (listed : Array Bool) (a : Act) (w : World),
      (∀ j oj, ops[j]? = some oj → j ≠ i → listed.getD j true = false → (∀ e ∈ oj.after, Region.binds md e = true → e.on ≠ i) → oi.apart ops oj = true) →
      i ∈ Region.ready md ops listed → YieldsE P ops F oi v a w →
      wpAnyE P md ops Q E fuel (listed.setIfInBounds i true) (a.put oi.dst v) w → wpAnyE P md ops Q E (fuel + 1) listed a w := by
  intro fuel
  induction fuel with
  | zero =>
    intro listed a w _ hr hy H
    refine ⟨fun h => (by rw [h] at hr; cases hr), fun j hj => ?_⟩
    by_cases hji : j = i
    · subst hji; exact YieldsIf.wpOp hi hy.iff (hrf w) ⟨hEr w, H⟩
    · have := ready_mono hj hji
      rw [H.1] at this
      cases this
  | succ fuel ih =>
    intro listed a w hfree hr hy H
    refine ⟨fun h => (by rw [h] at hr; cases hr), fun j hj => ?_⟩
    by_cases hji : j = i
    · subst hji; exact YieldsIf.wpOp hi hy.iff (hrf w) ⟨hEr w, H⟩
    · have h1 := H.2 j (ready_mono hj hji)
      obtain ⟨hjun, oj, hoj, hall⟩ := mem_ready.1 hj
      have hnot : ∀ e ∈ oj.after, Region.binds md e = true → e.on ≠ i := fun e he hb heq => by
        have h1 := hall e he hb
        have h0 := (mem_ready.1 hr).1
        rw [heq] at h1
        rcases Nat.lt_or_ge i listed.size with h' | h'
        · simp [h'] at h0 h1; rw [h0] at h1; cases h1
        · simp [Array.getElem?_eq_none h'] at h1
      have h2 := wpOp_putIf (S := F w) hoj (hfree j oj hoj hji hjun hnot) (fun cs b => hsel i oi cs b hi) (fun cs b => hsel j oj cs b hoj) (fun c a w h => h.elim) hy.iff h1
      have hfree' : ∀ k ok, ops[k]? = some ok → k ≠ i → (listed.setIfInBounds j true).getD k true = false →
          (∀ e ∈ ok.after, Region.binds md e = true → e.on ≠ i) → oi.apart ops ok = true := fun k ok hk hki hun hno => by
        refine hfree k ok hk hki ?_ hno
        by_cases hjk : j = k
        · subst hjk; exact hjun
        · rw [getD_set_ne true hjk] at hun; exact hun
      refine wpOp_mono (fun a' w' h3 => ⟨h3.2.1, ih (listed.setIfInBounds j true) a' w' hfree' (ready_mono hr (Ne.symm hji)) ?_ ?_⟩) h2
      · rcases h3.1 with ⟨k1, k2⟩ | k
        · exact .inl ⟨k1, fun w'' hw'' => k2 w'' (htr _ _ _ (hEF j oj hoj hnot _ _ h3.2.1) hw'')⟩
        · exact .inr k
      rw [Array.setIfInBounds_comm _ _ hji]
      exact h3.2.2
end

section
variable {P : Program} {B : Bs} {V : Nat → Nat → Prop} {ops : Array Oper} {s : St'} {Q : Exit → St' → Prop} {n : Nat} {L : Array Bool}

/-- Operation j is carried out behind i. -/
def depB (ops : Array Oper) (j i : Nat) : Bool := match ops[j]? with
  | some o => o.after.any fun e => Region.binds .any e && e.on == i
  | none => true
/-- The blocks that may change while operation i is still to come. -/
def Wi (V : Nat → Nat → Prop) (ops : Array Oper) (i : Nat) : Nat → Prop := fun b => ∃ j, depB ops j i = false ∧ V j b
theorem Wi.of {i : Nat} : ∀ j oj, ops[j]? = some oj → (∀ e ∈ oj.after, Region.binds .any e = true → e.on ≠ i) → ∀ w w', Ew B (V j) w w' → Ew B (Wi V ops i) w w' := fun j oj hj hno w w' h =>
  h.mono fun b _ hb => hb.imp id fun hv => ⟨j, by
    unfold depB
    rw [hj]
    simp only
    apply Bool.eq_false_iff.2
    intro hc
    obtain ⟨e, he, h2⟩ := Array.any_eq_true'.1 hc
    simp only [Bool.and_eq_true, beq_iff_eq] at h2
    exact hno e he h2.1 h2.2, hv⟩
theorem OutW.wi0 {B : Bs} {s : St'} {i : Nat} : OutW B (Wi (fun _ => NoB) ops i) s := fun b ⟨j, _, h⟩ => h.elim
theorem OutW.wi1 {B : Bs} {s : St'} {i m g : Nat} {e : Ent} {k : Nat} (hi : s.hp[k]? = some e) (hg : e.blk = some g) : OutW B (Wi (fun j b => j = m ∧ b = g) ops i) s := fun b ⟨j, _, _, h⟩ => ⟨e, List.mem_of_getElem? hi, by rw [h]; exact hg⟩
/-- All the changes are in blocks of one's own. -/
theorem OutW.wi {B : Bs} {s : St'} {i : Nat} (h : ∀ j b, V j b → ∃ e ∈ s.hp, e.blk = some b) : OutW B (Wi V ops i) s := fun b ⟨j, _, hv⟩ => h j b hv
theorem OutW.wiU {B : Bs} {s : St'} {i m n sz : Nat} {u : Value} {cs : List AV} {ty : TypeId} {k : Nat} (hi : s.hp[k]? = some (.row u n sz cs ty)) : OutW B (Wi (fun j b => j = m ∧ u.ownBlock = some b) ops i) s := fun b ⟨j, _, _, h⟩ => ⟨_, List.mem_of_getElem? hi, h⟩
theorem Wi.notX {i m g : Nat} {X : Nat → Prop} (h : depB ops m i = true) : ¬ Wi (fun j b => j = m ∧ X b) ops i g := fun ⟨j, h1, h2, _⟩ => by subst h2; rw [h] at h1; cases h1
theorem Wi.not0 {i g : Nat} : ¬ Wi (fun _ => NoB) ops i g := fun ⟨j, _, h⟩ => h
theorem Wi.not1 {i m g g' : Nat} (h : depB ops m i = true) : ¬ Wi (fun j b => j = m ∧ b = g') ops i g := fun ⟨j, h1, h2, _⟩ => by subst h2; rw [h] at h1; cases h1
theorem Wi.not2 {i m m2 g : Nat} {X Y : Nat → Prop} (h : depB ops m i = true) (h' : depB ops m2 i = true) : ¬ Wi (fun j b => (j = m ∧ X b) ∨ (j = m2 ∧ Y b)) ops i g := fun ⟨j, h1, h2⟩ => by
  rcases h2 with ⟨h2, _⟩ | ⟨h2, _⟩
  · subst h2; rw [h] at h1; cases h1
  · subst h2; rw [h'] at h1; cases h1

/-- The region from here on: L is listed, n operations are still to come. -/
def VA (P : Program) (B : Bs) (V : Nat → Nat → Prop) (ops : Array Oper) (Q : Exit → St' → Prop) (n : Nat) (L : Array Bool) (s : St') : Prop :=
  ∀ a w, R B s a w → wpAnyE P .any ops (fun a w => ∃ s, Q .normal s ∧ R B s a w) (fun j => Ew B (V j)) n L a w

theorem VC.draw (V : Nat → Nat → Prop) {id : Nat} {l : List Oper} (hB : B.Ok) (hm : P.follows .mixedOrders = true) (h : VA P B V l.toArray Q l.length (Array.replicate l.length false) s) : VC P B (.region id l.toArray true) Q s := fun a w hr => by
  have hr' : R B s a w.drew := hr.stepN hB (Chg.refl NoB w).drew
  have h1 := wpAny_of_E _ _ _ _ (h a _ hr')
  refine Code.wp_mono (Q := onlyN fun a w => ∃ s, Q .normal s ∧ R B s a w) (fun e a w q => ?_) (wp_region_any hm (by simpa using h1))
  cases e with
  | normal => exact q
  | _ => exact q.elim

theorem VA.done (hr : Region.ready .any ops L = []) (h : Q .normal s) : VA P B V ops Q n L s := fun a w hR => by
  cases n with
  | zero => exact ⟨hr, s, h, hR⟩
  | succ n => exact ⟨fun _ => ⟨s, h, hR⟩, by rw [hr]; simp⟩

/-- Number i is taken first. -/
theorem VA.take {i : Nat} {o : Oper} {x : AV} (hi : ops[i]? = some o) (hs : Region.noSelect ops = true) (hf : Region.free .any ops L i = true) (hr : (Region.ready .any ops L).contains i = true) (hg : o.guard = none) (hd : okd B.nt o.dst = true)
    (hv : OpV P B (Wi V ops i) s o x) (h : VA P B V ops Q n (L.setIfInBounds i true) (s.put o.dst x)) : VA P B V ops Q (n + 1) L s := fun a w hR => by
  obtain ⟨v, h1, h2⟩ := hv a w hR
  exact wpAnyE_first (F := Ew B (Wi V ops i)) Ew.tr Ew.rf (fun x => Ew.rf x) Wi.of hi (Region.noSelect_spec hs) n L a w (Region.free_spec hi hf) (by simpa using hr) (.inl ⟨by simp [Region.wanted, hg], h1⟩) (h _ _ (hR.put _ hd _ _ h2))
/-- Number i has a guard. -/
theorem VA.takeG {i : Nat} {o : Oper} {j t : Nat} {want b : Bool} (hi : ops[i]? = some o) (hs : Region.noSelect ops = true) (hf : Region.free .any ops L i = true) (hr : (Region.ready .any ops L).contains i = true) (hg : o.guard = some (j, want)) (hj : (ops[j]?).bind (·.dst) = some t)
    (hb : look s.sl t = some (.v (.bool b))) (hd : okd B.nt o.dst = true)
    (h1 : b = want → ∃ x, OpV P B (Wi V ops i) s o x ∧ VA P B V ops Q n (L.setIfInBounds i true) (s.put o.dst x)) (h2 : b = (!want) → VA P B V ops Q n (L.setIfInBounds i true) (s.put o.dst (.v undef))) : VA P B V ops Q (n + 1) L s := fun a w hR => by
  have hv : a.tmps.getD t undef = .bool b := (hR.slots t _ hb).eq_v
  have hy : yielded ops a.tmps j = some b := by
    cases ho : ops[j]? with
    | none => rw [ho] at hj; simp at hj
    | some oo =>
      rw [ho] at hj
      simp only [Option.bind_some] at hj
      have hv' : a.tmps[t]? = some (.bool b) := by
        rw [Array.getD_eq_getD_getElem?] at hv
        cases ht : a.tmps[t]? with
        | none => rw [ht] at hv; simp [undef] at hv
        | some x => rw [ht] at hv; simpa using hv
      simp [yielded, ho, hj, hv']
  by_cases hw : b = want
  · obtain ⟨x, hx, h⟩ := h1 hw
    obtain ⟨v, k1, k2⟩ := hx a w hR
    exact wpAnyE_first (F := Ew B (Wi V ops i)) Ew.tr Ew.rf (fun x => Ew.rf x) Wi.of hi (Region.noSelect_spec hs) n L a w (Region.free_spec hi hf) (by simpa using hr) (.inl ⟨by simp [Region.wanted, hg, hy, hw], k1⟩) (h _ _ (hR.put _ hd _ _ k2))
  · exact wpAnyE_first (F := Ew B (Wi V ops i)) Ew.tr Ew.rf (fun x => Ew.rf x) Wi.of hi (Region.noSelect_spec hs) n L a w (Region.free_spec hi hf) (by simpa using hr) (.inr ⟨by simp [Region.wanted, hg, hy, hw], rfl⟩) (h2 (by cases b <;> cases want <;> simp_all) _ _ (hR.put _ hd _ _ (.v _)))

/-- All that may come up now; each in its turn. -/
def Each (P : Program) (B : Bs) (V : Nat → Nat → Prop) (ops : Array Oper) (Q : Exit → St' → Prop) (n : Nat) (L : Array Bool) (s : St') : List Nat → Prop
  | [] => True
  | i :: r => (∃ o, ops[i]? = some o ∧ (o.guard = none ∨ ∃ j want t, o.guard = some (j, want) ∧ (ops[j]?).bind (·.dst) = some t ∧ look s.sl t = some (.v (.bool want))) ∧ OpE P B (V i) s o (VA P B V ops Q n (L.setIfInBounds i true))) ∧ Each P B V ops Q n L s r
theorem VA.all {rs : List Nat} (hr : Region.ready .any ops L = rs) (hne : rs ≠ []) (h : Each P B V ops Q n L s rs) : VA P B V ops Q (n + 1) L s := fun a w hR => by
  refine ⟨fun h0 => absurd (hr ▸ h0) hne, fun i hi => ?_⟩
  rw [hr] at hi
  have key : ∀ rs, Each P B V ops Q n L s rs → i ∈ rs → ∃ o, ops[i]? = some o ∧ (o.guard = none ∨ ∃ j want t, o.guard = some (j, want) ∧ (ops[j]?).bind (·.dst) = some t ∧ look s.sl t = some (.v (.bool want))) ∧ OpE P B (V i) s o (VA P B V ops Q n (L.setIfInBounds i true)) := by
    intro rs
    induction rs with
    | nil => intro _ h; simp at h
    | cons j r ih =>
      intro h hi
      rcases List.mem_cons.1 hi with rfl | hi
      · exact h.1
      · exact ih h.2 hi
  obtain ⟨o, ho, hg, hop⟩ := key rs h hi
  unfold wpOp
  simp only [ho]
  have hwant : Region.wanted o (yielded ops a.tmps) = true := by
    rcases hg with hg | ⟨j, want, t, hg, hj, hb⟩
    · simp [Region.wanted, hg]
    · have hv : a.tmps.getD t undef = .bool want := (hR.slots t _ hb).eq_v
      have hy : yielded ops a.tmps j = some want := by
        unfold yielded
        rw [hj]
        simp only [Option.bind_some]
        rw [Array.getD_eq_getD_getElem?] at hv
        cases ht : a.tmps[t]? with
        | none => rw [ht] at hv; simp [undef] at hv
        | some x => rw [ht] at hv; simp at hv; subst hv; rfl
      simp [Region.wanted, hg, hy]
  rw [if_pos hwant]
  exact .inl (hop a w hR _ _ fun s' a' w' k1 k2 k3 => ⟨k3, k1 a' w' k2⟩)
end
end Go.Proofs.YtgikefjbdhnffaaDoor
