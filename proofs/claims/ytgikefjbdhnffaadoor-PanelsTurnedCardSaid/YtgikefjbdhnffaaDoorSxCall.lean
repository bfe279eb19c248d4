/- The symbolic walk's rules for calls; from a walk to a contract. -/
import Derived.Test.YtgikefjbdhnffaaDoorSxRow
namespace Go.Proofs.YtgikefjbdhnffaaDoor
open Go.RowKit
set_option linter.unusedVariables false
set_option linter.unusedSimpArgs false

/-- Behind a call: what it hands back fits an AV of G, in old memory of A or in new memory. -/
def Ret (w : World) (A : Nat → Prop) (str : Nat → Prop) (T : World → Prop) (G : AV → Prop) (e : Ending) (w' : World) : Prop :=
  ∃ y v, G y ∧ e = .returned v ∧ Rep w' (fun b => b < w'.heap.size ∧ (b < w.heap.size → A b)) y v ∧ Chg str w w' ∧ T w'

/-- The arguments lie in blocks of A. -/
def Args (w : World) (A : Nat → Prop) (xs : List AV) (us : Array Value) : Prop := us.size = xs.length ∧ ∀ j, (h : j < xs.length) → Rep w (fun b => b < w.heap.size ∧ A b) xs[j] (us.getD j undef)

/-- A contract: called with values that fit xs, the function hands back a value that fits an AV of G; it changes nothing old. -/
def Spec (P : Program) (F : FuncId) (xs : List AV) (G : AV → Prop) : Prop :=
  ∀ (w : World) (A : Nat → Prop) (us : Array Value), Args w A xs us → Calls P F us w (Ret w A NoB (fun _ => True) G)
/-- The same where all that is handed back is new. -/
def SpecN (P : Program) (F : FuncId) (xs : List AV) (G : AV → Prop) : Prop :=
  ∀ (w : World) (us : Array Value), Args w (fun _ => True) xs us → Calls P F us w (Ret w (fun _ => False) NoB (fun _ => True) G)
/-- A contract of a function that uses the resource: T (with budget), in the blocks str. -/
def SpecT (P : Program) (T : World → Nat → Prop) (str : Nat → Prop) (F : FuncId) (xs : List AV) (c : Nat) (G : AV → Prop) : Prop :=
  ∀ (w : World) (A : Nat → Prop) (us : Array Value) (k : Nat), Args w A xs us → T w k → (∀ b, str b → ¬ A b) → k + c ≤ 1000000 → Calls P F us w (Ret w A str (fun w' => T w' (k + c)) G)

theorem SpecN.spec {P : Program} {F : FuncId} {xs : List AV} {G : AV → Prop} (h : SpecN P F xs G) : Spec P F xs G := fun w A us ha =>
  (h w us ⟨ha.1, fun j hj => (ha.2 j hj).keep fun b hb _ => ⟨rfl, hb.1, trivial⟩⟩).mono fun e w' ⟨y, v, h1, h2, h3, h4, h5⟩ => ⟨y, v, h1, h2, h3.keep fun b hb _ => ⟨rfl, hb.1, fun hl => (hb.2 hl).elim⟩, h4, h5⟩
theorem Spec.mono {P : Program} {F : FuncId} {xs : List AV} {G G' : AV → Prop} (h : Spec P F xs G) (hg : ∀ y, G y → G' y) : Spec P F xs G' := fun w A us ha =>
  (h w A us ha).mono fun e w' ⟨y, v, h1, h2⟩ => ⟨y, v, hg y h1, h2⟩
theorem SpecN.mono {P : Program} {F : FuncId} {xs : List AV} {G G' : AV → Prop} (h : SpecN P F xs G) (hg : ∀ y, G y → G' y) : SpecN P F xs G' := fun w us ha =>
  (h w us ha).mono fun e w' ⟨y, v, h1, h2⟩ => ⟨y, v, hg y h1, h2⟩
/-- A value that is known leads nowhere. -/
theorem Spec.flat {P : Program} {F : FuncId} {xs : List AV} {G : AV → Prop} (h : Spec P F xs G) (hg : ∀ y, G y → ∃ v, y = .v v) : SpecN P F xs G := fun w us ha =>
  (h w (fun _ => True) us ha).mono fun e w' ⟨y, v, h1, h2, h3, h4⟩ => by
    obtain ⟨v', rfl⟩ := hg y h1
    exact ⟨_, v, h1, h2, by cases h3; exact .v _, h4⟩

section
variable {P : Program} {B : Bs} {W : Nat → Prop} {s : St'} {a : Act} {w w' : World} {o : Oper} {K : St' → Prop}

/-- What the zone says of old blocks. -/
def Zo (B : Bs) (hp : List Ent) (b : Nat) : Prop := (∀ p ∈ hp, p.blk ≠ some b) ∧ (b < B.w0.heap.size → (B.A b ∨ B.S b) ∧ ¬ B.str b)

theorem R.zret {W : Nat → Prop} (hr : R B s a w) (hc : Chg W w w') : ∀ b, b < w'.heap.size ∧ (b < w.heap.size → Zo B s.hp b) → Zn B s.hp w' b := fun b hb => by
  refine ⟨hb.1, fun p hp hpb => ?_, fun h0 => ?_⟩
  · exact (hb.2 (hr.lt p hp b hpb)).1 p hp hpb
  · exact (hb.2 (Nat.lt_of_lt_of_le h0 hr.chg.size)).2 h0

/-- A call of a function by its contract; the operands' values. -/
theorem OpE.callG {f : Operand} {args : Array Operand} {ts : Array TypeId} {F : FuncId} {caps : Array Value} {xs : List AV} {G : AV → Prop} {A : Nat → Prop} {T' : World → Prop} {k' : Nat} {str : Nat → Prop}
    (ho : o.op = .call { callee := .value f, args := args, argTypes := ts }) (hB : B.Ok) (hd : okd B.nt o.dst = true)
    (hcall : ∀ us w, (callFunc F us).run P w = .ok (.enter F us) w) (hf : evO s f = some (.v (.func (.func F) #[] caps)))
    (hstr : ∀ b, str b → B.str b) (hT : ∀ w, T' w → B.T w k')
    (hargs : ∀ a w, R B s a w → Args w A xs (args.map a.eval ++ caps))
    (hcalls : ∀ a w us, R B s a w → Args w A xs us → Calls P F us w (Ret w A str T' G))
    (hA : ∀ b, A b → Zo B s.hp b)
    (hK : ∀ y, G y → K ((St'.mk s.sl s.hp k').put o.dst y)) : OpE P B W s o K := by
  intro a w hr next Qx hn
  have h1 := hcalls a w _ hr (hargs a w hr)
  unfold Oper.wp
  simp only [execOp, ho, resolve, hr.evv hf, Deferred.ofValue, Sem.run_bind, Sem.run_pure, Result.andThen_ok, invoke, hcall, Array.empty_append]
  simp only [Oper.upon]
  refine h1.mono fun e w' hret => ?_
  obtain ⟨y, v, h2, rfl, h3, h4, h5⟩ := hret
  have hr' : R B ⟨s.sl, s.hp, k'⟩ a w' := hr.step hB h4 hstr (hT _ h5)
  exact hn _ _ _ (hK y h2) (hr'.put _ hd _ _ (h3.keep fun b hb hl => ⟨rfl, hr.zret h4 b ⟨hb.1, fun hl => hA b (hb.2 hl)⟩⟩)) (h4.mono fun b _ h => .inl (hstr b h))

theorem evL_args {args : Array Operand} {xs : List AV} (hr : R B s a w) (hxs : evL s args.toList = some xs) : Args w (Zo B s.hp) xs (args.map a.eval) := by
  obtain ⟨k1, k2⟩ := hr.evL hxs
  refine ⟨by simp [k1], fun j hj => ?_⟩
  have := k2 j hj
  rw [show (args.map a.eval).getD j undef = (args.toList.map a.eval).getD j undef by rw [Array.getD_eq_getD_getElem?, List.getD_eq_getElem?_getD]; simp]
  exact this.keep fun b hb _ => ⟨rfl, hb.1, hb.2⟩

/-- A call of a function without captured variables: the arguments are values that are known, or lie in unchanging memory. -/
theorem OpE.call {f : FuncId} {args : Array Operand} {ts : Array TypeId} {xs : List AV} {G : AV → Prop} (ho : o.op = .call { callee := .value (.func f), args := args, argTypes := ts }) (hB : B.Ok) (hd : okd B.nt o.dst = true)
    (hcall : ∀ us w, (callFunc f us).run P w = .ok (.enter f us) w) (hxs : evL s args.toList = some xs) (hspec : Spec P f xs G) (hK : ∀ y, G y → K (s.put o.dst y)) : OpE P B W s o K := by
  have hK' : ∀ y, G y → K ((St'.mk s.sl s.hp s.k).put o.dst y) := hK
  refine OpE.callG (str := NoB) (T' := fun w => B.T w s.k) (k' := s.k) (A := Zo B s.hp) (xs := xs) ho hB hd hcall rfl (fun b h => h.elim) (fun w h => h) (fun a w hr => by simpa using evL_args hr hxs) (fun a w us hr ha => ?_) (fun b h => h) hK'
  refine (hspec w _ us ha).mono fun e w' ⟨y, v, h1, h2, h3, h4, h5⟩ => ⟨y, v, h1, h2, h3, h4, hB.keep hr.res h4 fun j _ h => h⟩

/-- The same with lists of one's own among the arguments: what comes back is new. -/
theorem OpE.callB {f : FuncId} {args : Array Operand} {ts : Array TypeId} {xs : List AV} {G : AV → Prop} (ho : o.op = .call { callee := .value (.func f), args := args, argTypes := ts }) (hB : B.Ok) (hd : okd B.nt o.dst = true)
    (hcall : ∀ us w, (callFunc f us).run P w = .ok (.enter f us) w) (hargs : ∀ a w, R B s a w → Args w (fun _ => True) xs (args.map a.eval)) (hspec : SpecN P f xs G) (hK : ∀ y, G y → K (s.put o.dst y)) : OpE P B W s o K := by
  intro a w hr next Qx hn
  have h1 := hspec w _ (hargs a w hr)
  unfold Oper.wp
  simp only [execOp, ho, resolve, Act.eval, Deferred.ofValue, Sem.run_bind, Sem.run_pure, Result.andThen_ok, invoke, hcall, Array.empty_append, Array.append_empty]
  simp only [Oper.upon]
  refine h1.mono fun e w' hret => ?_
  obtain ⟨y, v, h2, rfl, h3, h4, h5⟩ := hret
  have hr' : R B s a w' := hr.stepN hB h4
  exact hn _ _ _ (hK y h2) (hr'.put _ hd _ _ (h3.keep fun b hb hl => ⟨rfl, hr.zret h4 b ⟨hb.1, fun hl => (hb.2 hl).elim⟩⟩)) (.ofN h4)

/-- A call that uses the resource. -/
theorem OpE.callT {f : FuncId} {args : Array Operand} {ts : Array TypeId} {xs : List AV} {G : AV → Prop} {c : Nat} (ho : o.op = .call { callee := .value (.func f), args := args, argTypes := ts }) (hB : B.Ok) (hd : okd B.nt o.dst = true)
    (hcall : ∀ us w, (callFunc f us).run P w = .ok (.enter f us) w) (hxs : evL s args.toList = some xs) (hspec : SpecT P B.T B.str f xs c G) (hk : s.k + c ≤ 1000000) (hK : ∀ y, G y → K ((St'.mk s.sl s.hp (s.k + c)).put o.dst y)) : OpE P B W s o K := by
  refine OpE.callG (str := B.str) (T' := fun w => B.T w (s.k + c)) (k' := s.k + c) (A := Zo B s.hp) (xs := xs) ho hB hd hcall rfl (fun b h => h) (fun w h => h) (fun a w hr => by simpa using evL_args hr hxs) (fun a w us hr ha => ?_) (fun b h => h) hK
  exact hspec w _ us s.k ha hr.res (fun b hb hA => (hA.2 (hB.low b (hB.str b hb).1)).2 hb) hk
end

/-- The slots at the start. -/
def slots0 : Nat → List AV → List (Nat × AV)
  | _, [] => []
  | j, x :: r => (j, x) :: slots0 (j + 1) r
theorem slots0_look : ∀ (xs : List AV) (j t : Nat) (x : AV), look (slots0 j xs) t = some x → ∃ h : j ≤ t ∧ t - j < xs.length, xs[t - j]'h.2 = x
  | [], j, t, x, h => by simp [slots0, look] at h
  | y :: r, j, t, x, h => by
    rw [slots0, look_put] at h
    split at h
    · rename_i e; subst e; cases h
      exact ⟨⟨Nat.le_refl _, by simp⟩, by simp⟩
    · obtain ⟨⟨h1, h2⟩, h3⟩ := slots0_look r (j + 1) t x h
      refine ⟨⟨by omega, by simp; omega⟩, ?_⟩
      have : t - j = (t - (j + 1)) + 1 := by omega
      simp only [this, List.getElem_cons_succ]
      exact h3

/-- What a result's variable gives. -/
def resRun (tmps : Array Value) : ResultVar → Sem Value
  | .tmp t => pure (tmps.getD t undef)
  | .cell b t => do loadVar t (← asAddr (tmps.getD b undef))
def ResV (P : Program) (s : St') (r : ResultVar) (x : AV) : Prop := ∀ B a w, R B s a w → ∃ v, (resRun a.tmps r).run P w = .ok v w ∧ Rep w (Zn B s.hp w) x v
def RetV (P : Program) (fn : Func) (s : St') (y : AV) : Prop := ∀ B a w, R B s a w → ∃ v, (results fn a.tmps).run P w = .ok v w ∧ Rep w (Zn B s.hp w) y v

theorem results_eq (fn : Func) (tmps : Array Value) : results fn tmps = (do let vs ← fn.results.mapM (resRun tmps); pure (if h : vs.size = 1 then vs[0] else .tuple vs)) := by
  unfold results
  congr 1

section
variable {P : Program} {s : St'} {fn : Func} {r1 r2 r3 r4 : ResultVar} {x1 x2 x3 x4 : AV}
theorem ResV.tmp {t : Nat} {x : AV} (h : look s.sl t = some x) : ResV P s (.tmp t) x := fun B a w hr => ⟨_, rfl, hr.slots t x h⟩
theorem ResV.cellK {b t g j i k : Nat} {o' : Own'} {r : List AV} (hag : ∀ w, (isAgg t).run P w = .ok true w) (hsz : ∀ w, (sizeOf t).run P w = .ok k w) (hx : look s.sl b = some (.v (.pointer (some ⟨g, j, none⟩)))) (hi : s.hp[i]? = some (.box g o')) (hc : cutL o'.cs j k = some r) :
    ResV P s (.cell b t) (.agg r) := fun B a w hr => by
  have hv : a.tmps.getD b undef = .pointer (some ⟨g, j, none⟩) := (hr.slots b _ hx).eq_v
  have hm := List.mem_of_getElem? hi
  obtain ⟨c, h1, h2, h3, h4⟩ := hr.blocks _ hm
  obtain ⟨e1, e2, e3⟩ := cutL_spec hc
  have hget : ∀ q, q < k → ∃ u, c[j + q]? = some u ∧ Rep w (Zn B s.hp w) (r.getD q .any) u := fun q hq => by
    have := e3 q (by omega)
    obtain ⟨hl, he⟩ := List.getElem?_eq_some_iff.1 this
    obtain ⟨u, k1, k2⟩ := h4 _ hl
    refine ⟨u, k1, ?_⟩
    rw [he] at k2
    rwa [List.getD_eq_getElem?_getD, List.getElem?_eq_getElem (by omega)]
  refine ⟨.agg ((List.range k).map fun q => c.getD (j + q) undef).toArray, ?_, .agg _ _ (by simp [e1]) fun q hq => ?_⟩
  · have hcell : ∀ q v, ((List.range k).map fun q => c.getD (j + q) undef)[q]? = some v → w.cell? ((⟨g, j, none⟩ : Addr).add q) = some v := by
      intro q v hq
      simp only [List.getElem?_map, Option.map_eq_some_iff] at hq
      obtain ⟨q', hq', rfl⟩ := hq
      obtain ⟨hlt, hq''⟩ := List.getElem?_eq_some_iff.1 hq'
      simp at hlt hq''
      subst hq''
      obtain ⟨u, k1, _⟩ := hget q (by simpa using hlt)
      rw [Addr.add_lit]
      have : c.getD (j + q) undef = u := by rw [Array.getD_eq_getD_getElem?, k1]; rfl
      rw [this]
      simpa [World.cell?, h1] using k1
    have hl := run_loadCells_list (P := P) w ⟨g, j, none⟩ _ hcell
    simp only [List.length_map, List.length_range] at hl
    simp only [resRun, hv, asAddr, Sem.run_bind, Sem.run_pure, Result.andThen_ok, loadVar, hag, if_true, hsz, hl]
  · obtain ⟨u, k1, k2⟩ := hget q (by omega)
    have hqk : q < k := by omega
    rw [List.getD_eq_getElem?_getD, List.getElem?_eq_getElem hq] at k2
    simp [hqk]
    rw [show c[j + q]?.getD undef = u by rw [k1]; rfl]
    exact k2

theorem RetV.none (h : fn.results = #[]) : RetV P fn s (.tup []) := fun B a w hr => ⟨.tuple #[], by simp [results_eq, h], .tup _ _ rfl fun j hj => by simp at hj⟩
theorem RetV.one (h : fn.results = #[r1]) (h1 : ResV P s r1 x1) : RetV P fn s x1 := fun B a w hr => by
  obtain ⟨v1, k1, q1⟩ := h1 B a w hr
  exact ⟨v1, by simp [results_eq, h, k1], q1⟩
theorem RetV.two (h : fn.results = #[r1, r2]) (h1 : ResV P s r1 x1) (h2 : ResV P s r2 x2) : RetV P fn s (.tup [x1, x2]) := fun B a w hr => by
  obtain ⟨v1, k1, q1⟩ := h1 B a w hr
  obtain ⟨v2, k2, q2⟩ := h2 B a w hr
  refine ⟨.tuple #[v1, v2], by simp [results_eq, h, k1, k2], .tup _ _ rfl fun j hj => ?_⟩
  match j, hj with
  | 0, _ => exact q1
  | 1, _ => exact q2
theorem RetV.three (h : fn.results = #[r1, r2, r3]) (h1 : ResV P s r1 x1) (h2 : ResV P s r2 x2) (h3 : ResV P s r3 x3) : RetV P fn s (.tup [x1, x2, x3]) := fun B a w hr => by
  obtain ⟨v1, k1, q1⟩ := h1 B a w hr
  obtain ⟨v2, k2, q2⟩ := h2 B a w hr
  obtain ⟨v3, k3, q3⟩ := h3 B a w hr
  refine ⟨.tuple #[v1, v2, v3], by simp [results_eq, h, k1, k2, k3], .tup _ _ rfl fun j hj => ?_⟩
  match j, hj with
  | 0, _ => exact q1
  | 1, _ => exact q2
  | 2, _ => exact q3
theorem RetV.four (h : fn.results = #[r1, r2, r3, r4]) (h1 : ResV P s r1 x1) (h2 : ResV P s r2 x2) (h3 : ResV P s r3 x3) (h4 : ResV P s r4 x4) : RetV P fn s (.tup [x1, x2, x3, x4]) := fun B a w hr => by
  obtain ⟨v1, k1, q1⟩ := h1 B a w hr
  obtain ⟨v2, k2, q2⟩ := h2 B a w hr
  obtain ⟨v3, k3, q3⟩ := h3 B a w hr
  obtain ⟨v4, k4, q4⟩ := h4 B a w hr
  refine ⟨.tuple #[v1, v2, v3, v4], by simp [results_eq, h, k1, k2, k3, k4], .tup _ _ rfl fun j hj => ?_⟩
  match j, hj with
  | 0, _ => exact q1
  | 1, _ => exact q2
  | 2, _ => exact q3
  | 3, _ => exact q4
end

/-- How a walk ends well. -/
def retS (P : Program) (fn : Func) (G : AV → St' → Prop) (e : Exit) (s : St') : Prop :=
  match e with
  | .normal => ∃ y, RetV P fn s y ∧ G y s
  | .ret => ∃ y, RetV P fn s y ∧ G y s
  | _ => False
def retQ (P : Program) (fn : Func) (G : AV → Prop) : Exit → St' → Prop := retS P fn fun y _ => G y

/-- The base of a function that changes nothing old. -/
def B0 (w : World) (A : Nat → Prop) (nt : Nat) : Bs := ⟨w, NoB, A, nt, NoB, NoB, fun _ _ => True⟩
theorem B0.ok (w : World) (A : Nat → Prop) (nt : Nat) : (B0 w A nt).Ok := ⟨fun _ _ _ => trivial, fun _ h => h.elim, fun _ h => h.elim, fun _ _ => trivial⟩
/-- The base of a function that uses the resource. -/
def B1 (w : World) (A : Nat → Prop) (nt : Nat) (str low : Nat → Prop) (T : World → Nat → Prop) : Bs := ⟨w, str, A, nt, str, low, T⟩

theorem R.start {B : Bs} {w : World} {xs : List AV} {us : Array Value} {k : Nat} (hw : B.w0 = w) (hA : Args w B.A xs us) (hS : ∀ b, B.str b → ¬ B.A b) (hT : B.T w k) (hn : B.nt = us.size + (B.nt - us.size)) :
    R B ⟨slots0 0 xs, [], k⟩ { tmps := us ++ Array.replicate (B.nt - us.size) undef, defers := [] } w := by
  subst hw
  refine ⟨fun t x ht => ?_, by simp; omega, rfl, fun p hp => by simp at hp, List.Pairwise.nil, Chg.refl _ _, fun p hp => by simp at hp, hT⟩
  obtain ⟨⟨_, h2⟩, h3⟩ := slots0_look xs 0 t x ht
  simp at h2 h3
  have hlt : t < us.size := by rw [hA.1]; exact h2
  have := hA.2 t h2
  rw [h3] at this
  rw [show (us ++ Array.replicate (B.nt - us.size) undef).getD t undef = us.getD t undef by
    rw [Array.getD_eq_getD_getElem?, Array.getD_eq_getD_getElem?, Array.getElem?_append_left hlt]]
  exact this.keep fun b hb _ => ⟨rfl, hb.1, fun p hp => by simp at hp, fun _ => ⟨.inl hb.2, fun h => hS b h hb.2⟩⟩

theorem calls_of_VC {P : Program} {F : FuncId} {fn : Func} {c : Code} (hf : P.funcs[F]? = some fn) (hb : fn.body = some c) {B : Bs} {w : World} {xs : List AV} {us : Array Value} {k : Nat} {G : AV → St' → Prop}
    (hw : B.w0 = w) (hn : B.nt = fn.ntmps) (hA : Args w B.A xs us) (hS : ∀ b, B.str b → ¬ B.A b) (hT : B.T w k) (hle : xs.length ≤ fn.ntmps) (h : VC P B c (retS P fn G) ⟨slots0 0 xs, [], k⟩) :
    Calls P F us w fun e w' => ∃ y v s a, G y s ∧ e = .returned v ∧ Rep w' (Zn B s.hp w') y v ∧ R B s a w' := by
  have hus : us.size ≤ fn.ntmps := by rw [hA.1]; exact hle
  refine calls_of_wp hf hb (Code.wp_mono (fun e a w' hq => ?_) (h _ w (by
    have := R.start (k := k) hw hA hS hT (by rw [hn]; omega)
    rwa [hn] at this)))
  obtain ⟨s, hq, hr⟩ := hq
  cases e with
  | normal =>
    obtain ⟨y, h1, h2⟩ := hq
    obtain ⟨v, h3, h4⟩ := h1 B a w' hr
    exact ⟨hr.defs, v, h3, y, v, s, a, h2, rfl, h4, hr⟩
  | ret =>
    obtain ⟨y, h1, h2⟩ := hq
    obtain ⟨v, h3, h4⟩ := h1 B a w' hr
    exact ⟨hr.defs, v, h3, y, v, s, a, h2, rfl, h4, hr⟩
  | exit id => exact hq.elim
  | goto l => exact hq.elim
  | panic c => exact hq.elim
  | outgrown => exact hq.elim

theorem Spec.of_VC {P : Program} {F : FuncId} {fn : Func} {c : Code} (hf : P.funcs[F]? = some fn) (hb : fn.body = some c) {xs : List AV} {G : AV → Prop} {nt : Nat} (hn : fn.ntmps = nt) (hle : xs.length ≤ nt)
    (h : ∀ w A, (B0 w A nt).Ok → VC P (B0 w A nt) c (retQ P fn G) ⟨slots0 0 xs, [], 0⟩) : Spec P F xs G := fun w A us ha =>
  (calls_of_VC (k := 0) hf hb (B := B0 w A nt) rfl hn.symm ha (fun _ h => h.elim) trivial (by omega) (h w A (B0.ok _ _ _))).mono fun e w' ⟨y, v, s, a, h1, h2, h3, h4⟩ =>
    ⟨y, v, h1, h2, h3.keep fun b hb _ => ⟨rfl, hb.1, fun hl => (hb.2.2 hl).1.elim id fun h => h.elim⟩, h4.chg, trivial⟩
/-- Where the results are values that are known, they are new. -/
theorem SpecN.of_VC {P : Program} {F : FuncId} {fn : Func} {c : Code} (hf : P.funcs[F]? = some fn) (hb : fn.body = some c) {xs : List AV} {G : AV → Prop} {nt : Nat} (hn : fn.ntmps = nt) (hle : xs.length ≤ nt) (hfl : ∀ y, G y → ∃ v, y = .v v)
    (h : ∀ w A, (B0 w A nt).Ok → VC P (B0 w A nt) c (retQ P fn G) ⟨slots0 0 xs, [], 0⟩) : SpecN P F xs G := (Spec.of_VC hf hb hn hle h).flat hfl
theorem SpecT.of_VC {P : Program} {F : FuncId} {fn : Func} {c : Code} (hf : P.funcs[F]? = some fn) (hb : fn.body = some c) {xs : List AV} {G : AV → Prop} {nt n : Nat} (hn : fn.ntmps = nt) (hle : xs.length ≤ nt) {T : World → Nat → Prop} {str low : Nat → Prop}
    (hok : ∀ w A k, T w k → (B1 w A nt str low T).Ok)
    (h : ∀ w A k, k + n ≤ 1000000 → (B1 w A nt str low T).Ok → VC P (B1 w A nt str low T) c (retS P fn fun y s => G y ∧ s.k ≤ k + n) ⟨slots0 0 xs, [], k⟩) : SpecT P T str F xs n G := fun w A us k ha hT hSA hk =>
  (calls_of_VC (k := k) hf hb (B := B1 w A nt str low T) rfl hn.symm ha hSA hT (by omega) (h w A k hk (hok w A k hT))).mono fun e w' ⟨y, v, s, a, h1, h2, h3, h4⟩ =>
    ⟨y, v, h1.1, h2, h3.keep fun b hb _ => ⟨rfl, hb.1, fun hl => (hb.2.2 hl).1.resolve_right (hb.2.2 hl).2⟩, h4.chg, (hok w A k hT).up h4.res h1.2⟩
end Go.Proofs.YtgikefjbdhnffaaDoor
