/- Part 4 of a proof: the walks and laws that it needs. -/
import Derived.Sort.Grow
import Derived.Shelf.SlSortCmp.NoneTotal
import Derived.Ground.SlsfProg
import Derived.Test.YtemnnmohdpabhaaGreatDoorProg
import Derived.Test.YtemnnmohdpabhaaGreatDoorZL3
namespace Go.Proofs.YtemnnmohdpabhaaGreatDoor
open Go.RowKit Go.Sort
set_option linter.unusedVariables false
set_option linter.unusedSimpArgs false
def RD (B : Bs) (s : St') (a : Act) (w : World) : Prop := R B s a w ∧ B.w0.drawn ≤ w.drawn
def VCD (P : Program) (B : Bs) (c : Code) (Q : Exit → St' → Prop) (s : St') : Prop := ∀ a w, RD B s a w → c.wp P (fun e a w => ∃ s, Q e s ∧ RD B s a w) a w
def VOD (P : Program) (B : Bs) (ops : Array Oper) (rest : List Oper) (Q : Exit → St' → Prop) (s : St') : Prop := ∀ a w, RD B s a w → wpList P ops (fun e a w => ∃ s, Q e s ∧ RD B s a w) rest a w
def EwD (B : Bs) (W : Nat → Prop) (w w' : World) : Prop := Ew B W w w' ∧ w.drawn ≤ w'.drawn
def VAD (P : Program) (B : Bs) (V : Nat → Nat → Prop) (ops : Array Oper) (Q : Exit → St' → Prop) (n : Nat) (L : Array Bool) (s : St') : Prop :=
 ∀ a w, RD B s a w → wpAnyE P .any ops (fun a w => ∃ s, Q .normal s ∧ RD B s a w) (fun j => EwD B (V j)) n L a w
def OpED (P : Program) (B : Bs) (W : Nat → Prop) (s : St') (o : Oper) (K : St' → Prop) : Prop :=
 ∀ a w, RD B s a w → ∀ (next : Act → World → Prop) (Qx : Exit → Act → World → Prop), (∀ s' a' w', K s' → RD B s' a' w' → EwD B W w w' → next a' w') → o.wp P a w next Qx
section
variable {P : Program} {B : Bs} {W : Nat → Prop} {V : Nat → Nat → Prop} {ops : Array Oper} {rest : List Oper} {s : St'} {o : Oper} {K : St' → Prop} {Q : Exit → St' → Prop} {n : Nat} {L : Array Bool}
theorem VCD.seq {x y : Code} (h : VCD P B x (thenQ (VCD P B y Q) Q) s) : VCD P B (.seq x y) Q s := fun a w hr =>
 wp_seq (Code.wp_mono (fun e a w ⟨s, h1, h2⟩ => by
  cases e with
  | normal => exact h1 a w h2
  | exit id => exact ⟨s, h1, h2⟩
  | goto l => exact ⟨s, h1, h2⟩
  | ret => exact ⟨s, h1, h2⟩
  | panic c => exact ⟨s, h1, h2⟩
  | outgrown => exact ⟨s, h1, h2⟩) (h a w hr))
theorem VCD.ret (h : Q .ret s) : VCD P B .ret Q s := fun a w hr => wp_ret ⟨s, h, hr⟩
theorem VCD.region {id : Nat} {l : List Oper} (h : VOD P B l.toArray l Q s) : VCD P B (.region id l.toArray false) Q s := fun a w hr => wp_region_lit (h a w hr)
theorem VOD.nil (h : Q .normal s) : VOD P B ops [] Q s := fun a w hr => ⟨s, h, hr⟩
theorem VOD.val {x : AV} (hg : o.guard = none) (hd : okd B.nt o.dst = true) (hv : OpV P B NoB s o x) (hK : VOD P B ops rest Q (s.put o.dst x)) : VOD P B ops (o :: rest) Q s := fun a w hr =>
 wpList_plain hg fun K hk => by
  obtain ⟨v, h1, h2⟩ := hv a w hr.1
  unfold Oper.wp
  rw [h1 w (Chg.refl _ _)]
  exact hk _ _ (hK _ _ ⟨hr.1.put _ hd _ _ h2, hr.2⟩)
theorem VCD.draw (V : Nat → Nat → Prop) {id : Nat} {l : List Oper} (hB : B.Ok) (hm : P.follows .mixedOrders = true) (h : VAD P B V l.toArray Q l.length (Array.replicate l.length false) s) : VCD P B (.region id l.toArray true) Q s := fun a w hr => by
 have hr' : RD B s a w.drew := ⟨hr.1.stepN hB (Chg.refl NoB w).drew, Nat.le_trans hr.2 (Nat.le_succ _)⟩
 have h1 := wpAny_of_E _ _ _ _ (h a _ hr')
 refine Code.wp_mono (Q := onlyN fun a w => ∃ s, Q .normal s ∧ RD B s a w) (fun e a w q => ?_) (wp_region_any hm (by simpa using h1))
 cases e with
 | normal => exact q
 | _ => exact q.elim
theorem VAD.done (hr : Region.ready .any ops L = []) (h : Q .normal s) : VAD P B V ops Q n L s := fun a w hR => by
 cases n with
 | zero => exact ⟨hr, s, h, hR⟩
 | succ n => exact ⟨fun _ => ⟨s, h, hR⟩, by rw [hr]; simp⟩
theorem VAD.take {i : Nat} {x : AV} (hi : ops[i]? = some o) (hs : Region.noSelect ops = true) (hf : Region.free .any ops L i = true) (hr : (Region.ready .any ops L).contains i = true) (hg : o.guard = none) (hd : okd B.nt o.dst = true)
  (hv : OpV P B (Wi V ops i) s o x) (h : VAD P B V ops Q n (L.setIfInBounds i true) (s.put o.dst x)) : VAD P B V ops Q (n + 1) L s := fun a w hR => by
 obtain ⟨v, h1, h2⟩ := hv a w hR.1
 exact wpAnyE_first (F := EwD B (Wi V ops i)) (fun x y z h k => ⟨Ew.tr x y z h.1 k.1, Nat.le_trans h.2 k.2⟩) (fun x => ⟨Ew.rf x, Nat.le_refl _⟩) (fun x => ⟨Ew.rf x, Nat.le_refl _⟩) (fun j oj hj hno w w' h => ⟨Wi.of j oj hj hno w w' h.1, h.2⟩) hi (Region.noSelect_spec hs) n L a w (Region.free_spec hi hf) (by simpa using hr)
  (.inl ⟨by simp [Region.wanted, hg], fun w' hw => h1 w' hw.1⟩) (h _ _ ⟨hR.1.put _ hd _ _ h2, hR.2⟩)
theorem VAD.one {i : Nat} (hr : Region.ready .any ops L = [i]) (ho : ops[i]? = some o) (hg : o.guard = none) (h : OpED P B (V i) s o (VAD P B V ops Q n (L.setIfInBounds i true))) : VAD P B V ops Q (n + 1) L s := fun a w hR => by
 refine ⟨fun h0 => (by rw [hr] at h0; cases h0), fun j hj => ?_⟩
 rw [hr] at hj
 obtain rfl : j = i := by simpa using hj
 unfold wpOp
 simp only [ho]
 rw [if_pos (by simp [Region.wanted, hg])]
 exact .inl (h a w hR _ _ fun s' a' w' k1 k2 k3 => ⟨k3, k1 a' w' k2⟩)
theorem VAD.le (s' : St') (h : Le B s s') (k : VAD P B V ops Q n L s') : VAD P B V ops Q n L s := fun a w hr => k a w ⟨h a w hr.1, hr.2⟩
theorem OpED.call {f : FuncId} {args : Array Operand} {ts : Array TypeId} {xs : List AV} {v : Value} (ho : o.op = .call { callee := .value (.func f), args := args, argTypes := ts }) (hd : okd B.nt o.dst = true)
  (hcall : ∀ us w, (callFunc f us).run P w = .ok (.enter f us) w) (hxs : evL s args.toList = some xs) (hspec : ∀ w A us, Args w A xs us → Calls P f us w fun e w' => e = .returned v ∧ w' = w) (hK : K (s.put o.dst (.v v))) : OpED P B W s o K := by
 intro a w hr next Qx hn
 have h1 := hspec w _ _ (evL_args hr.1 hxs)
 unfold Oper.wp
 simp only [execOp, ho, resolve, Act.eval, Deferred.ofValue, Sem.run_bind, Sem.run_pure, Result.andThen_ok, invoke, hcall, Array.empty_append, Array.append_empty]
 simp only [Oper.upon]
 refine h1.mono fun e w' hret => ?_
 obtain ⟨rfl, rfl⟩ := hret
 exact hn _ _ _ hK ⟨hr.1.put _ hd _ _ (.v _), hr.2⟩ ⟨Ew.rf _, Nat.le_refl _⟩
theorem OpED.buildSlice {t e : TypeId} {n sz : Nat} {zc : Array Value} {parts : Array (Nat × Operand)} {ps : List (Nat × AV)} {r : List AV} (ho : o.op = .buildSlice t n parts) (hB : B.Ok) (hd : okd B.nt o.dst = true) (hu : P.underlying t = some (.slice e))
  (hsz : ∀ w, (sizeOf e).run P w = .ok sz w) {z : Value} (hz : ∀ w, (zeroValue e).run P w = .ok z w) (hn : n * sz ≤ 65536) (h0 : n ≠ 0 ∧ sz ≠ 0) (hzc : (Array.range (n * sz)).map (fun j => z.cells[j % z.cells.size]!) = zc)
  (hps : evPs s parts.toList = some ps) (hf : fillA (fun i => some (i * sz, sz)) (zc.toList.map .v) ps = some r)
  (hK : K (s.put o.dst (.im n sz fun j => r.getD j .any))) : OpED P B W s o K := by
 intro a w hr0 next Qx hn'
 have hr := hr0.1
 have hrun : ∃ v c, (execOp a.eval o).run P w = .ok (.value v) (w.alloc c) := by
  obtain ⟨k1, k2⟩ := hr.evPs hps
  have hz0 : Reps w (Zn B s.hp w) (zc.toList.map .v) zc := (Rep.cells (.v (.agg zc)) rfl : Reps w _ (cellsOf (.v (.agg zc))) (Value.agg zc).cells)
  obtain ⟨c', h1, h2⟩ := fill_rep (Z := Zn B s.hp w) (w := w) (c := zc) hz0 hf (qs := parts.toList.map fun (i, x) => (i, a.eval x)) (by simp [k1]) k2
  have hne : ¬ (n * sz = 0) := Nat.mul_ne_zero h0.1 h0.2
  have hzc' : (Array.map (fun x => z.cells[x % z.cells.size]!) (Array.range (n * sz))) = zc := hzc
  have h24 : ¬ (n * sz > 2 ^ 24) := by omega
  have h1' : Instr.fill (fun i => some (i * sz, sz)) zc (Array.map (fun p => (p.1, a.eval p.2)) parts).toList = some c' := by simpa using h1
  have h1'' : Instr.fill (fun i => some (i * sz, sz)) zc (Array.map (fun x => (x.fst, a.eval x.snd)) parts).toList = some c' := h1'
  refine ⟨.slice (some ⟨w.heap.size, 0, none⟩) n n, .cells c' e, ?_⟩
  simp only [execOp, ho, Instr.buildSlice, newRow, Sem.run_bind, run_underlying hu, hsz, hz, run_newObj_alloc, Result.andThen_ok, Sem.run_pure, hne, h24, if_false]
  rw [hzc', h1'']
  simp only [Sem.run_bind, run_newObj_alloc, Result.andThen_ok, Sem.run_pure]
 obtain ⟨v, c, hrun⟩ := hrun
 have h := OpE.buildSlice (W := W) ho hB hd hu hsz hz hn h0 hzc hps hf hK a w hr (fun a' w' => w.drawn ≤ w'.drawn → next a' w') Qx (fun s' a' w' h1 h2 h3 h4 => hn' s' a' w' h1 ⟨h2, Nat.le_trans hr0.2 h4⟩ ⟨h3, h4⟩)
 unfold Oper.wp at h ⊢
 rw [hrun] at h ⊢
 exact h (Nat.le_refl _)
end
theorem calls_of_VCD {P : Program} {F : FuncId} {fn : Func} {c : Code} (hf : P.funcs[F]? = some fn) (hb : fn.body = some c) {xs : List AV} {v : Value} {nt : Nat} (hn : fn.ntmps = nt) (hle : xs.length ≤ nt)
  (h : ∀ w A, (B0 w A nt).Ok → VCD P (B0 w A nt) c (retQ P fn fun y => y = .v v) ⟨slots0 0 xs, [], 0⟩) (w : World) (A : Nat → Prop) (us : Array Value) (hA : Args w A xs us) :
  Calls P F us w fun e w' => e = .returned v ∧ Chg NoB w w' ∧ w.drawn ≤ w'.drawn := by
 have hus : us.size ≤ fn.ntmps := by rw [hA.1, hn]; exact hle
 refine calls_of_wp hf hb (Code.wp_mono (fun e a w' hq => ?_) (h w A (B0.ok _ _ _) _ w ⟨(by
  have := R.start (B := B0 w A nt) (k := 0) rfl hA (fun _ h => h.elim) trivial (show (B0 w A nt).nt = us.size + (nt - us.size) by show nt = _; omega)
  rw [← hn] at this ⊢
  exact this), Nat.le_refl _⟩))
 obtain ⟨s, hq, hr, hdr⟩ := hq
 have key : ∀ y, RetV P fn s y → y = .v v → ∃ u, (results fn a.tmps).run P w' = .ok u w' ∧ Ending.returned u = .returned v := fun y h1 h2 => by
  obtain ⟨u, h3, h4⟩ := h1 _ a w' hr
  subst h2
  exact ⟨u, h3, by rw [h4.eq_v]⟩
 cases e with
 | normal =>
  obtain ⟨y, h1, h2⟩ := hq
  obtain ⟨u, h3, h4⟩ := key y h1 h2
  exact ⟨hr.defs, u, h3, h4, hr.chg, hdr⟩
 | ret =>
  obtain ⟨y, h1, h2⟩ := hq
  obtain ⟨u, h3, h4⟩ := key y h1 h2
  exact ⟨hr.defs, u, h3, h4, hr.chg, hdr⟩
 | exit id => exact hq.elim
 | goto l => exact hq.elim
 | panic c => exact hq.elim
 | outgrown => exact hq.elim
theorem grow_of {w w' : World} (h : Chg NoB w w') (hd : w.drawn ≤ w'.drawn) : ∃ q os', w' = grow (w.drewN q) os' := by
 refine ⟨w'.drawn - w.drawn, w'.heap.extract w.heap.size w'.heap.size, ?_⟩
 obtain ⟨h1, h2, h3, h4, h5⟩ := h
 cases w with
 | mk heap tape drawn os output =>
  cases w' with
  | mk heap' tape' drawn' os' output' =>
   simp only at h1 h2 h3 h4 h5 hd
   subst h1 h2 h3
   simp only [grow, World.drewN, World.mk.injEq, and_true, true_and]
   refine ⟨?_, by omega⟩
   apply Array.ext (by simp; omega)
   intro i hi1 hi2
   by_cases hi : i < heap.size
   ·have := h5 i hi (fun h => h)
    rw [Array.getElem_append_left hi]
    rw [Array.getElem?_eq_getElem hi1, Array.getElem?_eq_getElem hi] at this
    exact Option.some.inj this
   ·rw [Array.getElem_append_right (by omega), Array.getElem_extract]
    congr 1; omega
end Go.Proofs.YtemnnmohdpabhaaGreatDoor
namespace Go.Proofs.YtemnnmohdpabhaaGreatDoor
open Go.RowKit Go.Sort
set_option linter.unusedVariables false
set_option linter.unusedSimpArgs false
theorem cmpOr_args {x y : Int} {w : World} {A : Nat → Prop} {us : Array Value} (h : Args w A [avInts [x, y]] us) : Calls Tryz.prog 75 us w fun e w' => e = .returned (.int .i64 (errsF [x, y])) ∧ w' = w := by
 obtain ⟨h1, h2⟩ := h
 have h3 := h2 0 (by simp)
 have hu : us = #[us.getD 0 undef] := by
  apply Array.ext (by simpa using h1)
  intro i hi1 hi2
  obtain rfl : i = 0 := by simpa using hi2
  simp [Array.getD_eq_getD_getElem?, Array.getElem?_eq_getElem hi1]
 rw [hu]
 generalize us.getD 0 undef = v at h3
 have h4 : Rep w (fun b => b < w.heap.size ∧ A b) (.im 2 1 fun j => avI ([x, y].getD j 0)) v := h3
 cases h4 with
 | im n sz f b off cap c e u hZ k1 k2 hb hc hr =>
  have c0 := hc 0 (by decide)
  have c1 := hc 1 (by decide)
  have r0 : u 0 = .int .i64 x := (hr 0 (by decide)).eq_v
  have r1 : u 1 = .int .i64 y := (hr 1 (by decide)).eq_v
  rw [r0] at c0
  rw [r1] at c1
  exact cmpOr_x x y b off cap w (by simpa [World.cell?, hb] using c0) (by simpa [World.cell?, hb] using c1)
set_option maxRecDepth 100000 in
theorem line_First1_d {ns : List NeedS} {i j : Int} (hl : ns.length ≤ 1000) (hx : 0 ≤ i ∧ i.toNat < ns.length) (hy : 0 ≤ j ∧ j.toNat < ns.length) (w : World) (A : Nat → Prop) (us : Array Value) (hA : Args w A [avI i, avI j, .at_ 1 (fun _ => avL ns)] us) :
  Calls Tryz.prog 74 us w fun e w' => e = .returned (.int .i64 (fstO2 ns i j)) ∧ Chg NoB w w' ∧ w.drawn ≤ w'.drawn := by
 refine calls_of_VCD Tryz.func74 rfl Tryz.ntmps74 (Nle rfl) (fun w A hB => ?_) w A us hA
 have hnew : True := trivial
 refine VCD.seq ?_
 refine VCD.region ?_
 refine VOD.val rfl rfl (OpV.move (.inr rfl) rfl) ?_
 refine VOD.nil ?_
 show VCD _ _ _ _ _
 refine VCD.seq ?_
 refine VCD.draw (fun _ => NoB) hB (by kernel_rfl) ?_
 refine VAD.take (i := 0) rfl (by kernel_rfl) (by kernel_rfl) (by kernel_rfl) rfl rfl (OpV.load_at rfl hB OutW.wi0 Tryz.isAgg28 rfl rfl) ?_
 refine VAD.take (i := 1) rfl (by kernel_rfl) (by kernel_rfl) (by kernel_rfl) rfl rfl (OpV.move (.inl rfl) rfl) ?_
 refine VAD.take (i := 2) rfl (by kernel_rfl) (by kernel_rfl) (by kernel_rfl) rfl rfl (OpV.indexAddr_E rfl Tryz.underlying28 Tryz.sizeOf111 rfl rfl (Int.toNat_of_nonneg hy.1).symm (by omega)) ?_
 refine VAD.take (i := 3) rfl (by kernel_rfl) (by kernel_rfl) (by kernel_rfl) rfl rfl (OpV.fieldAddr_atO 1 rfl Tryz.underlying111 rfl rfl Tryz.sizeOf3 rfl rfl) ?_
 refine VAD.take (i := 4) rfl (by kernel_rfl) (by kernel_rfl) (by kernel_rfl) rfl rfl (OpV.load_at rfl hB OutW.wi0 Tryz.isAgg3 rfl rfl) ?_
 refine VAD.take (i := 5) rfl (by kernel_rfl) (by kernel_rfl) (by kernel_rfl) rfl rfl (OpV.load_at rfl hB OutW.wi0 Tryz.isAgg28 rfl rfl) ?_
 refine VAD.take (i := 6) rfl (by kernel_rfl) (by kernel_rfl) (by kernel_rfl) rfl rfl (OpV.move (.inl rfl) rfl) ?_
 refine VAD.take (i := 7) rfl (by kernel_rfl) (by kernel_rfl) (by kernel_rfl) rfl rfl (OpV.indexAddr_E rfl Tryz.underlying28 Tryz.sizeOf111 rfl rfl (Int.toNat_of_nonneg hx.1).symm (by omega)) ?_
 refine VAD.take (i := 8) rfl (by kernel_rfl) (by kernel_rfl) (by kernel_rfl) rfl rfl (OpV.fieldAddr_atO 1 rfl Tryz.underlying111 rfl rfl Tryz.sizeOf3 rfl rfl) ?_
 refine VAD.take (i := 9) rfl (by kernel_rfl) (by kernel_rfl) (by kernel_rfl) rfl rfl (OpV.load_at rfl hB OutW.wi0 Tryz.isAgg3 rfl rfl) ?_
 refine VAD.take (i := 11) rfl (by kernel_rfl) (by kernel_rfl) (by kernel_rfl) rfl rfl (OpV.load_at rfl hB OutW.wi0 Tryz.isAgg28 rfl rfl) ?_
 refine VAD.take (i := 12) rfl (by kernel_rfl) (by kernel_rfl) (by kernel_rfl) rfl rfl (OpV.move (.inl rfl) rfl) ?_
 refine VAD.take (i := 13) rfl (by kernel_rfl) (by kernel_rfl) (by kernel_rfl) rfl rfl (OpV.indexAddr_E rfl Tryz.underlying28 Tryz.sizeOf111 rfl rfl (Int.toNat_of_nonneg hx.1).symm (by omega)) ?_
 refine VAD.take (i := 14) rfl (by kernel_rfl) (by kernel_rfl) (by kernel_rfl) rfl rfl (OpV.fieldAddr_atO 0 rfl Tryz.underlying111 rfl rfl Tryz.sizeOf9 rfl rfl) ?_
 refine VAD.take (i := 15) rfl (by kernel_rfl) (by kernel_rfl) (by kernel_rfl) rfl rfl (OpV.load_at rfl hB OutW.wi0 Tryz.isAgg9 rfl rfl) ?_
 refine VAD.take (i := 16) rfl (by kernel_rfl) (by kernel_rfl) (by kernel_rfl) rfl rfl (OpV.load_at rfl hB OutW.wi0 Tryz.isAgg28 rfl rfl) ?_
 refine VAD.take (i := 17) rfl (by kernel_rfl) (by kernel_rfl) (by kernel_rfl) rfl rfl (OpV.move (.inl rfl) rfl) ?_
 refine VAD.take (i := 18) rfl (by kernel_rfl) (by kernel_rfl) (by kernel_rfl) rfl rfl (OpV.indexAddr_E rfl Tryz.underlying28 Tryz.sizeOf111 rfl rfl (Int.toNat_of_nonneg hy.1).symm (by omega)) ?_
 refine VAD.take (i := 19) rfl (by kernel_rfl) (by kernel_rfl) (by kernel_rfl) rfl rfl (OpV.fieldAddr_atO 0 rfl Tryz.underlying111 rfl rfl Tryz.sizeOf9 rfl rfl) ?_
 refine VAD.take (i := 20) rfl (by kernel_rfl) (by kernel_rfl) (by kernel_rfl) rfl rfl (OpV.load_at rfl hB OutW.wi0 Tryz.isAgg9 rfl rfl) ?_
 refine VAD.one (i := 10) (by kernel_rfl) rfl rfl ?_
 refine OpED.call (v := .int .i64 (cmpI (ns.getD j.toNat default).count (ns.getD i.toNat default).count)) rfl rfl Tryz.call76 rfl (fun w A us h => by rw [argsV2 h]; exact cmpI_x _ _ w) ?_
 refine VAD.one (i := 21) (by kernel_rfl) rfl rfl ?_
 refine OpED.call (v := .int .i64 (cmpB (ns.getD i.toNat default).key (ns.getD j.toNat default).key)) rfl rfl Tryz.call77 rfl (fun w A us h => by rw [argsV2 h]; exact strCmp_x _ _ w) ?_
 refine VAD.one (i := 22) (by kernel_rfl) rfl rfl ?_
 refine OpED.buildSlice (zc := #[.int .i64 0, .int .i64 0]) rfl hB rfl Tryz.underlying22 Tryz.sizeOf3 Tryz.zeroValue3 (by decide) (by decide) (by kernel_rfl) rfl rfl ?_
 refine VAD.le _ (Le.lits (t := 28) (xs := [cmpI (ns.getD j.toNat default).count (ns.getD i.toNat default).count, cmpB (ns.getD i.toNat default).key (ns.getD j.toNat default).key]) rfl rfl) ?_
 refine VAD.one (i := 23) (by kernel_rfl) rfl rfl ?_
 refine OpED.call (v := .int .i64 (fstO2 ns i j)) rfl rfl Tryz.call75 rfl (fun w A us h => cmpOr_args h) ?_
 refine VAD.take (i := 24) rfl (by kernel_rfl) (by kernel_rfl) (by kernel_rfl) rfl rfl (OpV.move (.inr rfl) rfl) ?_
 refine VAD.done (by kernel_rfl) ?_
 show VCD _ _ _ _ _
 refine VCD.ret ?_
 exact Exists.intro _ (And.intro (RetV.one Tryz.results74 (ResV.tmp rfl)) (rfl))
end Go.Proofs.YtemnnmohdpabhaaGreatDoor
namespace Go.Proofs
open Go.Shelf
def Tryz.SortF1L_ren : Go.Shelf.Ren := ⟨fun | 6 => 73 | 15 => 104 | 14 => 171 | 28 => 201 | 29 => 202 | 20 => 243 | 21 => 244 | 22 => 245 | 23 => 246 | 24 => 247 | 25 => 248 | 26 => 249 | 27 => 250 | 46 => 305 | 47 => 268 | 48 => 269 | 49 => 306 | 50 => 307 | 57 => 345 | n => n, fun | 22 => 22 | 24 => 3 | 25 => 54 | 3 => 3 | 39 => 160 | 0 => 0 | 53 => 247 | 55 => 249 | 4 => 4 | 46 => 241 | 45 => 240 | 50 => 179 | 5 => 5 | 9 => 9 | 66 => 297 | 70 => 301 | 76 => 342 | 77 => 343 | n => n, fun | n => n⟩
theorem Tryz.SortF1L : Go.Proofs.SlLaysF.n6 Tryz.prog Tryz.SortF1L_ren := {
 mixed := by kernel_rfl
 f6 := ⟨Tryz.f73.name, by decide, Tryz.func73.trans (congrArg some (by kernel_rfl))⟩
 f14 := ⟨Tryz.f171.name, by decide, Tryz.func171.trans (congrArg some (by kernel_rfl))⟩
 f15 := Tryz.func104.trans (congrArg some (by kernel_rfl))
 f20 := ⟨Tryz.f243.name, by decide, Tryz.func243.trans (congrArg some (by kernel_rfl))⟩
 f21 := ⟨Tryz.f244.name, by decide, Tryz.func244.trans (congrArg some (by kernel_rfl))⟩
 f22 := ⟨Tryz.f245.name, by decide, Tryz.func245.trans (congrArg some (by kernel_rfl))⟩
 f23 := ⟨Tryz.f246.name, by decide, Tryz.func246.trans (congrArg some (by kernel_rfl))⟩
 f24 := ⟨Tryz.f247.name, by decide, Tryz.func247.trans (congrArg some (by kernel_rfl))⟩
 f25 := ⟨Tryz.f248.name, by decide, Tryz.func248.trans (congrArg some (by kernel_rfl))⟩
 f26 := ⟨Tryz.f249.name, by decide, Tryz.func249.trans (congrArg some (by kernel_rfl))⟩
 f27 := ⟨Tryz.f250.name, by decide, Tryz.func250.trans (congrArg some (by kernel_rfl))⟩
 f28 := Tryz.func201.trans (congrArg some (by kernel_rfl))
 f29 := Tryz.func202.trans (congrArg some (by kernel_rfl))
 f46 := ⟨Tryz.f305.name, by decide, Tryz.func305.trans (congrArg some (by kernel_rfl))⟩
 f47 := Tryz.func268.trans (congrArg some (by kernel_rfl))
 f48 := Tryz.func269.trans (congrArg some (by kernel_rfl))
 f49 := ⟨Tryz.f306.name, by decide, Tryz.func306.trans (congrArg some (by kernel_rfl))⟩
 f50 := ⟨Tryz.f307.name, by decide, Tryz.func307.trans (congrArg some (by kernel_rfl))⟩
 f57 := ⟨Tryz.f345.name, by decide, Tryz.func345.trans (congrArg some (by kernel_rfl))⟩
 t0 := Tryz.underlying0
 a0 := Tryz.isAgg0
 z0 := Tryz.sizeOf0
 v0 := Tryz.zeroValue0
 t3 := Tryz.underlying3
 a3 := Tryz.isAgg3
 z3 := Tryz.sizeOf3
 v3 := Tryz.zeroValue3
 t4 := Tryz.underlying4
 a4 := Tryz.isAgg4
 z4 := Tryz.sizeOf4
 v4 := Tryz.zeroValue4
 t5 := Tryz.underlying5
 a5 := Tryz.isAgg5
 z5 := Tryz.sizeOf5
 v5 := Tryz.zeroValue5
 t9 := Tryz.underlying9
 a9 := Tryz.isAgg9
 z9 := Tryz.sizeOf9
 v9 := Tryz.zeroValue9
 t22 := Tryz.underlying22
 a22 := Tryz.isAgg22
 z22 := Tryz.sizeOf22
 v22 := Tryz.zeroValue22
 a24 := Tryz.isAgg3
 z24 := Tryz.sizeOf3
 t25 := Tryz.underlying54
 a25 := Tryz.isAgg54
 z25 := Tryz.sizeOf54
 v25 := Tryz.zeroValue54
 t39 := Tryz.underlying160
 a39 := Tryz.isAgg160
 z39 := Tryz.sizeOf160
 v39 := Tryz.zeroValue160
 t45 := Tryz.underlying240
 a45 := Tryz.isAgg240
 z45 := Tryz.sizeOf240
 v45 := Tryz.zeroValue240
 t46 := Tryz.underlying241
 a46 := Tryz.isAgg241
 z46 := Tryz.sizeOf241
 v46 := Tryz.zeroValue241
 t50 := Tryz.underlying179
 a50 := Tryz.isAgg179
 z50 := Tryz.sizeOf179
 v50 := Tryz.zeroValue179
 t53 := Tryz.underlying247
 a53 := Tryz.isAgg247
 z53 := Tryz.sizeOf247
 v53 := Tryz.zeroValue247
 t55 := Tryz.underlying249
 a55 := Tryz.isAgg249
 z55 := Tryz.sizeOf249
 v55 := Tryz.zeroValue249
 t66 := Tryz.underlying297
 a66 := Tryz.isAgg297
 z66 := Tryz.sizeOf297
 v66 := Tryz.zeroValue297
 t70 := Tryz.underlying301
 a70 := Tryz.isAgg301
 z70 := Tryz.sizeOf301
 v70 := Tryz.zeroValue301
 t76 := Tryz.underlying342
 a76 := Tryz.isAgg342
 z76 := Tryz.sizeOf342
 v76 := Tryz.zeroValue342
 t77 := Tryz.underlying343
 a77 := Tryz.isAgg343
 z77 := Tryz.sizeOf343
 v77 := Tryz.zeroValue343 }
end Go.Proofs
namespace Go.Proofs.YtemnnmohdpabhaaGreatDoor
open Go.RowKit Go.Sort Go.Shelf
set_option linter.unusedVariables false
set_option linter.unusedSimpArgs false
section
variable {c : Int → Int → Int} {S : Int → Prop}
theorem downI_sorted (tr : ∀ x y z, S x → S y → S z → ¬ c y x < 0 → ¬ c z y < 0 → ¬ c z x < 0) (asy : ∀ x y, S x → S y → c x y < 0 → ¬ c y x < 0) {i : Nat} : ∀ (j : Nat) (l : List Int), j ≤ i → i < l.length → (∀ k, k < l.length → S (l.getD k 0)) →
  (∀ a b, a < b → b ≤ i → a ≠ j → b ≠ j → ¬ c (l.getD b 0) (l.getD a 0) < 0) → (∀ b, j < b → b ≤ i → ¬ c (l.getD b 0) (l.getD j 0) < 0) →
  ∀ a b, a < b → b ≤ i → ¬ c ((downI c j l).getD b 0) ((downI c j l).getD a 0) < 0
 | 0, l, h1, h2, hS, h3, h4, a, b, hab, hb => by
  rw [downI]
  by_cases e : a = 0
  ·subst e; exact h4 b hab hb
  ·exact h3 a b hab hb e (by omega)
 | j + 1, l, h1, h2, hS, h3, h4, a, b, hab, hb => by
  rw [downI]
  split
  ·rename_i hc
   have hs := swp_get (l := l) (j := j + 1) (by omega) (by omega)
   refine downI_sorted tr asy j (swp l (j + 1)) (by omega) (by rw [swp_len]; exact h2) (fun k hk => ?_) (fun a b hab hb ha hb' => ?_) (fun b hjb hb => ?_) a b hab hb
   ·rw [swp_len] at hk
    rw [hs]
    split
    ·exact hS _ (by omega)
    ·split
     ·exact hS _ (by omega)
     ·exact hS _ hk
   ·rw [hs b, hs a, if_neg (show ¬ b = j + 1 - 1 by omega), if_neg (show ¬ a = j + 1 - 1 by omega)]
    by_cases e1 : b = j + 1
    ·rw [if_pos e1, if_neg (show ¬ a = j + 1 by omega)]
     exact h3 a j (by omega) (by omega) (by omega) (by omega)
    ·rw [if_neg e1]
     by_cases e2 : a = j + 1
     ·rw [if_pos e2]; exact h3 j b (by omega) hb (by omega) (by omega)
     ·rw [if_neg e2]; exact h3 a b hab hb (by omega) (by omega)
   ·rw [hs b, hs j, if_neg (show ¬ b = j + 1 - 1 by omega), if_pos (show j = j + 1 - 1 by omega)]
    by_cases e1 : b = j + 1
    ·rw [if_pos e1]; exact asy _ _ (hS _ (by omega)) (hS _ (by omega)) hc
    ·rw [if_neg e1]; exact h4 b (by omega) hb
  ·rename_i hc
   by_cases e1 : a = j + 1
   ·subst e1; exact h4 b hab hb
   ·by_cases e2 : b = j + 1
    ·subst e2
     by_cases e3 : a = j
     ·subst e3; exact hc
     ·exact tr _ _ _ (hS _ (by omega)) (hS _ (by omega)) (hS _ (by omega)) (h3 a j (by omega) (by omega) e1 (by omega)) hc
    ·exact h3 a b hab hb e1 e2
theorem insT_sorted (tr : ∀ x y z, S x → S y → S z → ¬ c y x < 0 → ¬ c z y < 0 → ¬ c z x < 0) (asy : ∀ x y, S x → S y → c x y < 0 → ¬ c y x < 0) {l : List Int} (hS : ∀ x ∈ l, S x) : ∀ i, i < l.length → ∀ a b, a < b → b ≤ i → ¬ c ((insT c l i).getD b 0) ((insT c l i).getD a 0) < 0
 | 0, _, a, b, hab, hb => by omega
 | i + 1, hi, a, b, hab, hb => by
  have hp := insT_perm c l i (.inl (by omega))
  rw [insT]
  refine downI_sorted tr asy (i + 1) (insT c l i) (Nat.le_refl _) (by rw [hp.length_eq]; exact hi) (fun k hk => hS _ (mem_of hp hk)) (fun a b hab hb ha hb' => insT_sorted tr asy hS i (by omega) a b hab (by omega)) (fun b h1 h2 => by omega) a b hab hb
end
section
variable {ns : List NeedS}
def InI (n : Nat) (x : Int) : Prop := 0 ≤ x ∧ x.toNat < n
theorem cmpI_lt {a b : Int} : cmpI a b < 0 ↔ a < b := by unfold cmpI; (repeat' split) <;> omega
theorem cmpI_z {a b : Int} : cmpI a b = 0 ↔ a = b := by unfold cmpI; (repeat' split) <;> omega
theorem fst_lt (h : needsF ns 1 1000 = 0) {x y : Int} (hx : InI ns.length x) (hy : InI ns.length y) : fstO2 ns x y < 0 ↔ ((ns.getD y.toNat default).count < (ns.getD x.toNat default).count ∨ ((ns.getD y.toNat default).count = (ns.getD x.toNat default).count ∧ x < y)) := by
 unfold fstO2
 rw [errs2]
 by_cases hc : (ns.getD y.toNat default).count = (ns.getD x.toNat default).count
 ·rw [if_pos (cmpI_z.2 hc)]
  have hb := cmpB_lt (ns.getD x.toNat default).key (ns.getD y.toNat default).key
  have hk : sLt (ns.getD x.toNat default).key (ns.getD y.toNat default).key = true ↔ x < y := by
   have h1 := hx.1
   have h2 := hy.1
   constructor
   ·intro hs
    rcases Int.lt_trichotomy x y with h3 | h3 | h3
    ·exact h3
    ·subst h3; rw [sLt_irr] at hs; cases hs
    ·have := needs_asc h (i := y.toNat) (j := x.toNat) (by omega) hx.2
     rw [sLt_asym this] at hs; cases hs
   ·intro h3; exact needs_asc h (i := x.toNat) (j := y.toNat) (by omega) hy.2
  rw [← hk, ← hb, decide_eq_true_eq]
  constructor
  ·intro h3; exact .inr ⟨hc, h3⟩
  ·rintro (h3 | h3)
   ·omega
   ·exact h3.2
 ·rw [if_neg (fun e => hc (cmpI_z.1 e)), cmpI_lt]
  constructor
  ·intro h3; exact .inl h3
  ·rintro (h3 | h3)
   ·exact h3
   ·exact absurd h3.1 hc
abbrev Idx (ns : List NeedS) := {x : Int // InI ns.length x}
def cfI (ns : List NeedS) (x y : Idx ns) : Int := fstO2 ns x.1 y.1
theorem swoI (h : needsF ns 1 1000 = 0) : SWO (ltOf (cfI ns)) where
 irrefl x := by
  refine decide_eq_false fun h1 => ?_
  have := (fst_lt h x.2 x.2).1 h1
  omega
 trans x y z h1 h2 := by
  have k1 := (fst_lt h x.2 y.2).1 (of_decide_eq_true h1)
  have k2 := (fst_lt h y.2 z.2).1 (of_decide_eq_true h2)
  exact decide_eq_true ((fst_lt h x.2 z.2).2 (by omega))
 ntrans x y z h1 h2 := by
  have k1 : ¬ _ := fun e => of_decide_eq_false h1 ((fst_lt h x.2 y.2).2 e)
  have k2 : ¬ _ := fun e => of_decide_eq_false h2 ((fst_lt h y.2 z.2).2 e)
  refine decide_eq_false fun h3 => ?_
  have k3 := (fst_lt h x.2 z.2).1 h3
  omega
def ltI2 (ns : List NeedS) (x y : Int) : Bool := decide (fstO2 ns x y < 0)
theorem fst_uniq (h : needsF ns 1 1000 = 0) {l : List Int} (hp : l.Perm (idO ns.length)) (ho : ∀ a b, a < b → b < l.length → ¬ fstO2 ns (l.getD b 0) (l.getD a 0) < 0) (h0 : 0 < ns.length) : l = insT (fstO2 ns) (idO ns.length) ((idO ns.length).length - 1) := by
 have hin : ∀ x ∈ idO ns.length, InI ns.length x := fun x hx => ⟨(idO_mF hx).1, (idO_mF hx).2⟩
 have hp2 := insT_perm (fstO2 ns) (idO ns.length) ((idO ns.length).length - 1) (.inl (by rw [idO_len]; omega))
 have hs := insT_sorted (c := fstO2 ns) (S := InI ns.length) (fun x y z hx hy hz h1 h2 h3 => by
  have k1 : ¬ _ := fun e => h1 ((fst_lt h hy hx).2 e)
  have k2 : ¬ _ := fun e => h2 ((fst_lt h hz hy).2 e)
  have k3 := (fst_lt h hz hx).1 h3
  omega) (fun x y hx hy h1 h2 => by
  have k1 := (fst_lt h hx hy).1 h1
  have k2 := (fst_lt h hy hx).1 h2
  omega) hin ((idO ns.length).length - 1) (by rw [idO_len]; omega)
 have ordL : ∀ l : List Int, (∀ a b, a < b → b < l.length → ¬ fstO2 ns (l.getD b 0) (l.getD a 0) < 0) → OrdL (ltI2 ns) l := fun l hl => by
  unfold OrdL
  rw [List.pairwise_iff_getElem]
  intro i j hi hj hij
  have := hl i j hij hj
  simp only [List.getD_eq_getElem?_getD, List.getElem?_eq_getElem hi, List.getElem?_eq_getElem hj, Option.getD_some] at this
  exact decide_eq_false this
 refine ord_unique (lt := ltI2 ns) (hp.trans hp2.symm) (hp.nodup_iff.2 (idO_ord _).nd) (fun a ha b hb hne hf => ?_) (ordL l ho) (ordL _ fun a b hab hb => hs a b hab (by rw [hp2.length_eq, idO_len] at hb; rw [idO_len]; omega))
 have ha' := hin a (hp.subset ha)
 have hb' := hin b (hp.subset hb)
 have k1 : ¬ _ := fun e => of_decide_eq_false hf ((fst_lt h ha' hb').2 e)
 exact decide_eq_true ((fst_lt h hb' ha').2 (by omega))
theorem putRow_atI {α : Type} [Inhabited α] {enc : α → Value} {w : World} {n g : Nat} {d : Array α} {os : Array Obj} {c : Array Value} {ty : TypeId} (hg : w.heap[g]? = some (.cells c ty (0, 0))) : (sortWorld enc w g 0 n d os).heap[g]? = some (.cells (putCells enc 0 d c) ty (0, 0)) := by
 have hl := (Array.getElem?_eq_some_iff.1 hg).1
 simp only [sortWorld, grow, putRow, mapBlock, Sort.ahead]
 rw [Array.getElem?_append_left (by simpa using hl), Array.getElem?_modify, if_pos rfl, hg]
 rfl
theorem putRow_chgI {α : Type} [Inhabited α] {enc : α → Value} {w : World} {n g : Nat} {d : Array α} {os : Array Obj} : Chg (fun b => b = g) w (sortWorld enc w g 0 n d os) :=
 ⟨rfl, rfl, rfl, by simp [sortWorld, grow, putRow, mapBlock, Sort.ahead], fun b hb hne => by
  simp only [sortWorld, grow, putRow, mapBlock, Sort.ahead]
  rw [Array.getElem?_append_left (by simpa using hb), Array.getElem?_modify, if_neg (fun e => hne e.symm)]⟩
theorem putCells_getI {α : Type} [Inhabited α] {enc : α → Value} {d : Array α} {c : Array Value} {j : Nat} (h1 : j < d.size) (h2 : d.size ≤ c.size) : (putCells enc 0 d c)[j]? = some (enc d[j]!) := by
 simp only [putCells, Array.getElem?_mapIdx]
 rw [Array.getElem?_eq_getElem (by omega)]
 simp [h1]
def encI (x : Idx ns) : Value := .int .i64 x.1
theorem sortFunc_first {u : Value} {ty : TypeId} (h : needsF ns 1 1000 = 0) (h0 : 0 < ns.length) (hl : ns.length ≤ 1000) :
  SpecH Tryz.prog 73 [.v u, .fn 74 [.at_ 1 (fun _ => avL ns)]] [.row u (idO ns.length).length 1 (intsL (idO ns.length)) ty]
   (fun y hp' => y = .tup [] ∧ hp' = [.row u (idO ns.length).length 1 (intsL (insT (fstO2 ns) (idO ns.length) ((idO ns.length).length - 1))) ty]) := fun w A us ha hap hA hE => by
 have hn : (idO ns.length).length = ns.length := idO_len _
 obtain ⟨a1, a2⟩ := ha
 have b0 := a2 0 (by simp)
 have b1 := a2 1 (by simp)
 have e0 : us.getD 0 undef = u := (show Rep w _ (.v u) _ from b0).eq_v
 obtain ⟨cb, hcb, e1, hcr⟩ : ∃ cb : Array Value, cb.size = 1 ∧ us.getD 1 undef = .func (.func 74) #[] cb ∧ Rep w (fun b => b < w.heap.size ∧ A b) (.at_ 1 (fun _ => avL ns)) (cb.getD 0 undef) := by
  have b1' : Rep w (fun b => b < w.heap.size ∧ A b) (.fn 74 [.at_ 1 (fun _ => avL ns)]) (us.getD 1 undef) := b1
  generalize us.getD 1 undef = v at b1'
  cases b1' with
  | fn F cs cb hl hr => exact ⟨cb, hl, rfl, hr 0 (by simp)⟩
 have hus : us = #[u, .func (.func 74) #[] cb] := by
  apply Array.ext (by simpa using a1)
  intro i h1 h2
  have hi : i < 2 := by simpa using h2
  match i, hi with
  | 0, _ => rw [Array.getD_eq_getD_getElem?, Array.getElem?_eq_getElem h1] at e0; simpa using e0
  | 1, _ => rw [Array.getD_eq_getD_getElem?, Array.getElem?_eq_getElem h1] at e1; simpa using e1
 subst hus
 obtain ⟨r1, r2⟩ := hE _ (List.mem_cons_self ..)
 rcases r2 with ⟨rfl, hz⟩ | ⟨g, cap, c, rfl, hn1, hm, hg, hs, hc⟩
 ·omega
 ·have hgl := (Array.getElem?_eq_some_iff.1 hg).1
  haveI : Inhabited (Idx ns) := ⟨⟨0, Int.le_refl _, h0⟩⟩
  have hin : ∀ i : Fin ns.length, InI ns.length (i.1 : Int) := fun i => ⟨Int.natCast_nonneg _, by rw [Int.toNat_natCast]; exact i.2⟩
  let d : Array (Idx ns) := ((List.finRange ns.length).map fun i => (⟨(i.1 : Int), hin i⟩ : Idx ns)).toArray
  have hds : d.size = ns.length := by simp [d]
  have hdv : d.toList.map (·.1) = idO ns.length := by
   apply List.ext_getElem (by simp [d, idO])
   intro i h1 h2
   simp [d, idO]
  have hcell : ∀ j, j < ns.length → c[j]? = some (.int .i64 (j : Int)) := fun j hj => by
   obtain ⟨v, k1, k2⟩ := hc j (by rw [intsL_len, hn]; exact hj)
   have k3 : Rep w (fun b => b < w.heap.size ∧ A b) (avI (j : Int)) v := by
    have : (intsL (idO ns.length))[j]'(by rw [intsL_len, hn]; exact hj) = avI (j : Int) := by simp [intsL, idO]
    rw [this] at k2; exact k2
   rw [k1, k3.eq_v]
  have hH : Holds encI w g 0 d := fun j hj => by
   rw [hds] at hj
   constructor
   ·simp only [World.cell?, hg, Nat.zero_add]
    rw [hcell j hj]
    simp [encI, d, hj]
   ·simp [World.frozen?, hg]
  have hAg : ¬ A g := hA g ⟨_, List.mem_cons_self .., rfl⟩
  have hcmp : CmpLays1 Tryz.prog 74 cb encI (cfI ns) g 0 d.size w := fun m os dk hdk x y => by
   have hch := putRow_chgI (enc := encI) (w := w) (n := m) (g := g) (d := dk) (os := os)
   refine (line_First1_d hl x.2 y.2 (sortWorld encI w g 0 m dk os) A (#[encI x, encI y] ++ cb) ⟨by simp [hcb], fun j hj => ?_⟩).mono fun e w' ⟨h1, h2, h3⟩ => ⟨h1, grow_of h2 h3⟩
   match j, hj with
   | 0, _ =>
    have : (#[encI x, encI y] ++ cb).getD 0 undef = encI x := by simp [Array.getD_eq_getD_getElem?, Array.getElem?_append]
    rw [this]; exact .v _
   | 1, _ =>
    have : (#[encI x, encI y] ++ cb).getD 1 undef = encI y := by simp [Array.getD_eq_getD_getElem?, Array.getElem?_append]
    rw [this]; exact .v _
   | 2, _ =>
    have : (#[encI x, encI y] ++ cb).getD 2 undef = cb.getD 0 undef := by
     simp [Array.getD_eq_getD_getElem?, Array.getElem?_append]
    rw [this]
    exact hcr.keep fun b hb hbl => ⟨hch.block b hbl (fun e => hAg (e ▸ hb.2)), Nat.lt_of_lt_of_le hbl hch.size, hb.2⟩
  have hS := Any.slices_SortFunc Tryz.SortF1L encI (fun _ => rfl) (cfI ns) (swoI h) 74 cb g 0 cap d w (enters_of Tryz.func74 (by kernel_rfl) rfl) hcmp hH hgl (by rw [hds]; omega)
  rw [hn]
  rw [hn] at hn1
  change Calls Tryz.prog 73 _ w _ at hS
  rw [hds] at hS
  refine hS.mono fun e w' ⟨he, d', n, os, ⟨p1, p2, p3⟩, hsrt, hw⟩ => ?_
  subst he; subst hw
  have hd's : d'.size = ns.length := p1.trans hds
  have hl' : (d'.toList.map (·.1)).Perm (idO ns.length) := by
   rw [← hdv]
   refine List.Perm.map _ ?_
   have q1 : d'.extract 0 ns.length = d' := by rw [← hd's]; simp
   have q2 : d.extract 0 ns.length = d := by rw [← hds]; simp
   rw [q1, q2] at p3
   exact p3
  have hgetv : ∀ a, a < ns.length → (d'.toList.map (·.1)).getD a 0 = (d'[a]!).1 := fun a ha => by
   have : a < d'.size := by omega
   simp [List.getD_eq_getElem?_getD, this]
  have hval := fst_uniq h hl' (fun a b hab hb => by
   have hb' : b < ns.length := by simpa [hd's] using hb
   rw [hgetv a (by omega), hgetv b hb']
   exact of_decide_eq_false (hsrt a b (Nat.zero_le _) hab hb')) h0
  have hch := putRow_chgI (enc := encI) (w := w) (n := n) (g := g) (d := d') (os := os)
  rw [hn] at hval
  rw [← hval]
  refine ⟨_, .tuple #[], _, ⟨rfl, rfl⟩, rfl, List.pairwise_singleton _ _, .tup _ _ rfl (fun j hj => by simp at hj), fun e he => ?_, fun b ⟨e, he, hb⟩ _ => ?_, hch.mono fun b _ hb => ⟨_, List.mem_cons_self .., by subst hb; rfl⟩⟩
  ·obtain rfl := List.mem_singleton.1 he
   refine ⟨by rw [intsL_len, List.length_map, Array.length_toList, hd's, Nat.mul_one], .inr ⟨g, cap, _, rfl, hn1, hm, putRow_atI hg, by simp [putCells, hs], fun j hj => ?_⟩⟩
   have hj' : j < ns.length := by rw [intsL_len, List.length_map, Array.length_toList, hd's] at hj; exact hj
   refine ⟨encI d'[j]!, putCells_getI (by omega) (by rw [hd's, hs]; omega), ?_⟩
   have hx : (intsL (d'.toList.map (·.1)))[j]'hj = .v (encI d'[j]!) := by
    have : j < d'.size := by omega
    simp [intsL, encI, this]
   rw [hx]
   exact .v _
  ·obtain rfl := List.mem_singleton.1 he
   exact ⟨_, List.mem_cons_self .., hb⟩
end
end Go.Proofs.YtemnnmohdpabhaaGreatDoor
namespace Go.Proofs.YtemnnmohdpabhaaGreatDoor
open Go.RowKit
theorem line_First13 {ms : List Mach} {ns : List NeedS} (hm : SmallM ms) (hn : SmallN ns) (h13 : ns.length ≤ 13) : Spec Tryz.prog 13 [avL ms, avL ns] (fun y => y = .tup [avInts (fstP ms ns), avB (fstK ms ns), avI (faultF ms ns)]) := by
 by_cases h12 : ns.length ≤ 12
 ·exact line_First hm hn h12
 ·exact line_FirstX hm hn (by omega) fun h u => sortFunc_first h (by omega) (by omega)
end Go.Proofs.YtemnnmohdpabhaaGreatDoor
namespace Go.Proofs.YtemnnmohdpabhaaGreatDoor
open Go.RowKit
set_option linter.unusedVariables false
set_option linter.unusedSimpArgs false

structure PaceS where
 product : ByteArray
 cycle : Int
 needs : List NeedS
instance : Inhabited PaceS := ⟨⟨ByteArray.empty, 0, []⟩⟩
instance : Sxc PaceS where
 k := 3
 pos := by decide
 cell m j := match j with
  | 0 => avS m.product
  | 1 => avI m.cycle
  | 2 => avL m.needs
  | _ => .any
structure OrdrS where
 key : ByteArray
 product : ByteArray
 count : Int
 ready : Int
 due : Int
instance : Inhabited OrdrS := ⟨⟨ByteArray.empty, ByteArray.empty, 0, 0, 0⟩⟩
instance : Sxc OrdrS where
 k := 5
 pos := by decide
 cell m j := match j with
  | 0 => avS m.key
  | 1 => avS m.product
  | 2 => avI m.count
  | 3 => avI m.ready
  | 4 => avI m.due
  | _ => .any
def paceE (p : List PaceS) (i : Nat) : Int :=
 if keyF (p.getD i default).product = false then 5
 else if (decide (0 < i) && sLe (p.getD i default).product (p.getD (i - 1) default).product) = true then 7
 else if outR (p.getD i default).cycle 1 10000000 = true then 1
 else needsF (p.getD i default).needs 1 1000
def ordrE (o : List OrdrS) (i : Nat) : Int :=
 if (keyF (o.getD i default).key && keyF (o.getD i default).product) = false then 5
 else if (outR (o.getD i default).count 1 100000 || (outR (o.getD i default).ready 0 345686399999 || outR (o.getD i default).due 0 345686399999)) = true then 1
 else if (decide (0 < i) && sLe (o.getD i default).key (o.getD (i - 1) default).key) = true then 7
 else 0
section
variable {p : List PaceS} {i : Nat}
end
section
variable {o : List OrdrS} {i : Nat}
end
def hasP (p : List PaceS) (k : ByteArray) : Bool := p.any fun x => sEq x.product k
def paceO (p : List PaceS) (k : ByteArray) : PaceS := (p.find? fun x => sEq x.product k).getD default
structure PacesOk (p : List PaceS) : Prop where
 len : p.length ≤ 200
 all : ∀ j, j < p.length → paceE p j = 0
structure OrdrsOk (o : List OrdrS) : Prop where
 len : o.length ≤ 200
 all : ∀ j, j < o.length → ordrE o j = 0
theorem paceE_zero {p : List PaceS} {i : Nat} (h : paceE p i = 0) : keyF (p.getD i default).product = true ∧ (0 < i → sLe (p.getD i default).product (p.getD (i - 1) default).product = false) ∧ (1 ≤ (p.getD i default).cycle ∧ (p.getD i default).cycle ≤ 10000000) ∧ needsF (p.getD i default).needs 1 1000 = 0 := by
 unfold paceE at h
 split at h
 ·cases h
 ·rename_i h1
  split at h
  ·cases h
  ·rename_i h2
   split at h
   ·cases h
   ·rename_i h3
    refine ⟨by simpa using h1, fun hi => ?_, ?_, h⟩
    ·rw [decide_eq_true hi, Bool.true_and] at h2
     simpa using h2
    ·simp only [outR, Bool.or_eq_true, decide_eq_true_eq, not_or] at h3
     omega
theorem ordrE_zero {o : List OrdrS} {i : Nat} (h : ordrE o i = 0) : (keyF (o.getD i default).key = true ∧ keyF (o.getD i default).product = true) ∧ (0 < i → sLe (o.getD i default).key (o.getD (i - 1) default).key = false) ∧ (1 ≤ (o.getD i default).count ∧ (o.getD i default).count ≤ 100000) ∧ (0 ≤ (o.getD i default).ready ∧ (o.getD i default).ready ≤ 345686399999) ∧ (0 ≤ (o.getD i default).due ∧ (o.getD i default).due ≤ 345686399999) := by
 unfold ordrE at h
 split at h
 ·cases h
 ·rename_i h1
  split at h
  ·cases h
  ·rename_i h2
   split at h
   ·cases h
   ·rename_i h3
    have h1' : (keyF (o.getD i default).key && keyF (o.getD i default).product) = true := by simpa using h1
    rw [Bool.and_eq_true] at h1'
    simp only [outR, Bool.or_eq_true, decide_eq_true_eq, not_or] at h2
    refine ⟨h1', fun hi => ?_, by omega, by omega, by omega⟩
    rw [decide_eq_true hi, Bool.true_and] at h3
    simpa using h3
def chgN (a b : List NeedS) (q : Nat) : Nat := ((b.take q).filter fun x => !(a.any fun y => sEq y.key x.key)).length
theorem chgN_le (a b : List NeedS) (q : Nat) : chgN a b q ≤ b.length := by
 unfold chgN
 have := List.length_filter_le (fun x => !(a.any fun y => sEq y.key x.key)) (b.take q)
 rw [List.length_take] at this
 omega
def chgI (a b : PaceS) (each : Int) : Int := each * (chgN a.needs b.needs b.needs.length : Int)
def longO (p : List PaceS) (x : OrdrS) : Int := (paceO p x.product).cycle * x.count
def turnO (p : List PaceS) (each : Int) (x y : OrdrS) : Int := chgI (paceO p x.product) (paceO p y.product) each
section
variable (p : List PaceS) (o : List OrdrS) (l : List Int) (start each : Int)
abbrev orA (i : Int) : OrdrS := o.getD i.toNat default
def endP : Nat → Int
 | 0 => max start (orA o (l.getD 0 0)).ready + longO p (orA o (l.getD 0 0))
 | q + 1 => max (endP q + turnO p each (orA o (l.getD q 0)) (orA o (l.getD (q + 1) 0))) (orA o (l.getD (q + 1) 0)).ready + longO p (orA o (l.getD (q + 1) 0))
def fromP : Nat → Int
 | 0 => max start (orA o (l.getD 0 0)).ready
 | q + 1 => max (endP p o l start each q + turnO p each (orA o (l.getD q 0)) (orA o (l.getD (q + 1) 0))) (orA o (l.getD (q + 1) 0)).ready
end
end Go.Proofs.YtemnnmohdpabhaaGreatDoor
namespace Go.Proofs.YtemnnmohdpabhaaGreatDoor
open Go.RowKit
set_option linter.unusedVariables false
set_option linter.unusedSimpArgs false
theorem needsF_lenP {l : List NeedS} {lo hi : Int} (h : needsF l lo hi = 0) : l.length ≤ 1000 := by
 unfold needsF at h
 split at h
 ·cases h
 ·omega
theorem paceO_in {p : List PaceS} {k : ByteArray} (h : hasP p k = true) : ∃ j, j < p.length ∧ paceO p k = p.getD j default := by
 unfold hasP at h
 cases hf : p.find? (fun x => sEq x.product k) with
 | none => rw [List.find?_eq_none] at hf; obtain ⟨x, hx, he⟩ := List.any_eq_true.1 h; exact absurd he (hf x hx)
 | some x =>
  obtain ⟨j, hj, e⟩ := List.getElem_of_mem (List.mem_of_find?_eq_some hf)
  refine ⟨j, hj, ?_⟩
  rw [paceO, hf, List.getD_eq_getElem?_getD, List.getElem?_eq_getElem hj, e]
theorem paceO_ok {p : List PaceS} (hp : PacesOk p) {k : ByteArray} (h : hasP p k = true) : (1 ≤ (paceO p k).cycle ∧ (paceO p k).cycle ≤ 10000000) ∧ (paceO p k).needs.length ≤ 1000 := by
 obtain ⟨j, hj, e⟩ := paceO_in h
 rw [e]
 have := paceE_zero (hp.all j hj)
 exact ⟨this.2.2.1, needsF_lenP this.2.2.2⟩
theorem mul_bd {a b A B : Int} (h0 : 0 ≤ a) (h1 : a ≤ A) (h2 : 0 ≤ b) (h3 : b ≤ B) : 0 ≤ a * b ∧ a * b ≤ A * B :=
 ⟨Int.mul_nonneg h0 h2, Int.le_trans (Int.mul_le_mul_of_nonneg_right h1 h2) (Int.mul_le_mul_of_nonneg_left h3 (Int.le_trans h0 h1))⟩
structure OrdrsB (o : List OrdrS) : Prop where
 len : o.length ≤ 201
 all : ∀ j, j < o.length → (1 ≤ (o.getD j default).count ∧ (o.getD j default).count ≤ 100000) ∧ (0 ≤ (o.getD j default).ready ∧ (o.getD j default).ready ≤ 345686399999) ∧ (0 ≤ (o.getD j default).due ∧ (o.getD j default).due ≤ 345686399999)
theorem OrdrsOk.bd {o : List OrdrS} (h : OrdrsOk o) : OrdrsB o := ⟨by have := h.len; omega, fun j hj => (ordrE_zero (h.all j hj)).2.2⟩
structure SchOk (p : List PaceS) (o : List OrdrS) (l : List Int) (start each : Int) : Prop where
 pok : PacesOk p
 ook : OrdrsB o
 has : ∀ j, j < o.length → hasP p (o.getD j default).product = true
 len : l.length = o.length
 ord : Ord o.length l
 st : 0 ≤ start ∧ start ≤ 345686399999
 ea : 0 ≤ each ∧ each ≤ 10000000
section
variable {p : List PaceS} {o : List OrdrS} {l : List Int} {start each : Int} (h : SchOk p o l start each)
include h
theorem SchOk.at_ {q : Nat} (hq : q < l.length) : 0 ≤ l.getD q 0 ∧ (l.getD q 0).toNat < o.length := by
 have := h.ord.lt (l[q]) (List.getElem_mem hq)
 rw [List.getD_eq_getElem?_getD, List.getElem?_eq_getElem hq]
 simp only [Option.getD_some]
 omega
theorem SchOk.long {i : Nat} (hi : i < o.length) : 0 ≤ longO p (o.getD i default) ∧ longO p (o.getD i default) ≤ 1000000000000 := by
 have h1 := (paceO_ok h.pok (h.has i hi)).1
 have h2 := (h.ook.all i hi).1
 have := mul_bd (by omega : 0 ≤ (paceO p (o.getD i default).product).cycle) h1.2 (by omega : 0 ≤ (o.getD i default).count) h2.2
 unfold longO
 omega
theorem SchOk.turn {i j : Nat} (hj : j < o.length) : 0 ≤ turnO p each (o.getD i default) (o.getD j default) ∧ turnO p each (o.getD i default) (o.getD j default) ≤ 10000000000 := by
 have h1 := (paceO_ok h.pok (h.has j hj)).2
 have h2 := chgN_le (paceO p (o.getD i default).product).needs (paceO p (o.getD j default).product).needs (paceO p (o.getD j default).product).needs.length
 have := mul_bd h.ea.1 h.ea.2 (by omega : (0 : Int) ≤ (chgN (paceO p (o.getD i default).product).needs (paceO p (o.getD j default).product).needs (paceO p (o.getD j default).product).needs.length : Int)) (by omega : _ ≤ (1000 : Int))
 unfold turnO chgI
 omega
theorem SchOk.bd : ∀ q, q < l.length → (0 ≤ fromP p o l start each q ∧ fromP p o l start each q ≤ endP p o l start each q) ∧ endP p o l start each q ≤ 345686400000 + (q + 1) * 1010000000000
 | 0, hq => by
  have h1 := h.at_ hq
  have h2 := h.long h1.2
  have h3 := (h.ook.all _ h1.2).2.1
  have h4 := h.st
  simp only [fromP, endP, orA]
  omega
 | q + 1, hq => by
  have h1 := h.at_ hq
  have h2 := h.long h1.2
  have h3 := (h.ook.all _ h1.2).2.1
  have h5 := SchOk.bd q (by omega)
  have h6 := h.turn (i := (l.getD q 0).toNat) h1.2
  simp only [fromP, endP, orA]
  omega
end
theorem Ord.take {n : Nat} {l : List Int} {q : Nat} (h : Ord n (l.take q)) (hq : q < l.length) (h0 : 0 ≤ l.getD q 0) (h1 : (l.getD q 0).toNat < n) (h2 : l.getD q 0 ∉ l.take q) : Ord n (l.take (q + 1)) := by
 have := h.snoc h1 (by rwa [Int.toNat_of_nonneg h0])
 rw [Int.toNat_of_nonneg h0] at this
 rw [List.take_add_one, List.getElem?_eq_getElem hq]
 rwa [List.getD_eq_getElem?_getD, List.getElem?_eq_getElem hq] at this
end Go.Proofs.YtemnnmohdpabhaaGreatDoor
namespace Go.Proofs.YtemnnmohdpabhaaGreatDoor
open Go.RowKit
set_option linter.unusedVariables false
set_option linter.unusedSimpArgs false
section
variable {p : List PaceS} {o : List OrdrS} {l : List Int} {start each : Int} (h : SchOk p o l start each)
include h
end
section
variable {p : List PaceS} {o : List OrdrS} {l : List Int} {start each : Int} (h : SchOk p o l start each)
include h
theorem SchOk.up : ∀ q, q + 1 < l.length → endP p o l start each q ≤ fromP p o l start each (q + 1) ∧ endP p o l start each q ≤ endP p o l start each (q + 1) := fun q hq => by
 have h1 := h.at_ (q := q + 1) hq
 have h6 := h.turn (i := (l.getD q 0).toNat) h1.2
 have hb := h.bd (q + 1) hq
 have : fromP p o l start each (q + 1) = max (endP p o l start each q + turnO p each (orA o (l.getD q 0)) (orA o (l.getD (q + 1) 0))) (orA o (l.getD (q + 1) 0)).ready := rfl
 have h7 : 0 ≤ turnO p each (orA o (l.getD q 0)) (orA o (l.getD (q + 1) 0)) := h6.1
 omega
theorem SchOk.mono {a : Nat} : ∀ b, a ≤ b → b < l.length → endP p o l start each a ≤ endP p o l start each b
 | 0, hab, _ => by rw [show a = 0 by omega]; exact Int.le_refl _
 | b + 1, hab, hb => by
  by_cases e : a = b + 1
  ·rw [e]; exact Int.le_refl _
  ·exact Int.le_trans (SchOk.mono b (by omega) (by omega)) (h.up b hb).2
end
section
variable {p : List PaceS} {o : List OrdrS} {l : List Int} {start each : Int} (h : SchOk p o l start each)
include h
end
end Go.Proofs.YtemnnmohdpabhaaGreatDoor
namespace Go.Proofs.YtemnnmohdpabhaaGreatDoor
open Go.RowKit
set_option linter.unusedVariables false
set_option linter.unusedSimpArgs false

theorem tab_ints (xs : List Int) : tab (xs.length * 1) (fun j => avI (xs.getD j 0)) = intsL xs := by
 apply List.ext_getElem (by rw [tab_len, intsL_len, Nat.mul_one])
 intro i h1 h2
 rw [tab_get]
 rw [intsL_len] at h2
 simp [intsL, h2]
set_option maxRecDepth 100000 in
theorem slices_Clone_R {xs : List Int} (hl : xs.length ≤ 1000000000) :
  SpecR Tryz.prog 94 [avInts xs] xs.length 1 (intsL xs) 3 := by
 refine SpecR.of_VC Tryz.func94 rfl Tryz.ntmps94 (Nle rfl) (by first | exact flat_ints _ | exact flat_strs _ | exact flat_bools _) fun w A hB => ?_
 have hnew : True := trivial
 refine VC.sr ?_
 refine VO.ma rfl rfl rfl rfl ?_
 refine VO.nil ?_
 refine VC.seq ?_
 refine VC.sr ?_
 refine VO.mv rfl rfl rfl rfl ?_
 refine VO.op rfl (OpE.eqNil rfl rfl Tryz.underlying22 rfl ?_)
 intro b4 hb4
 refine VO.nil ?_
 refine VC.cond rfl (fun h0b => ?_) (fun h0b => ?_)
 ·have h0 := h0b
  try simp only [qqT, qqF, qqN, qqM, qqL, qqE] at h0
  refine VC.sr ?_
  refine VO.ma rfl rfl rfl rfl ?_
  refine VO.nil ?_
  obtain rfl : xs = [] := List.eq_nil_of_length_eq_zero (hb4 h0)
  refine VC.le _ (Le.nilRow 1 3) ?_
  refine VC.ret ?_
  exact Exists.intro _ (And.intro (RetV.one Tryz.results94 (ResV.tmp rfl)) (⟨_, rfl, List.Mem.head _⟩))
 ·have h0 := h0b
  try simp only [qqT, qqF, qqN, qqM, qqL, qqE] at h0
  refine VC.skip ?_
  refine VC.sr ?_
  refine VO.op rfl (OpE.buildSlice0 rfl hB rfl Tryz.underlying22 Tryz.sizeOf3 ?_)
  intro g5
  refine VO.mv rfl rfl rfl rfl ?_
  refine VO.op rfl (OpE.appendP (i := 0) rfl hB rfl Tryz.underlying22 (infoOf Tryz.t3 1 (by kernel_rfl) rfl rfl) rfl (by decide) (by decide) rfl rfl (.im rfl) (fun _ _ => rfl) (by omega) (tab_ints xs) (fun _ _ => trivial) ?_)
  intro u7
  refine VO.ma rfl rfl rfl rfl ?_
  refine VO.nil ?_
  rw [Nat.zero_add]
  refine VC.ret ?_
  exact Exists.intro _ (And.intro (RetV.one Tryz.results94 (ResV.tmp rfl)) (⟨_, rfl, List.Mem.head _⟩))
end Go.Proofs.YtemnnmohdpabhaaGreatDoor
namespace Go.Proofs.YtemnnmohdpabhaaGreatDoor
open Go.RowKit
set_option linter.unusedVariables false
set_option linter.unusedSimpArgs false

abbrev pt (g : Nat) : AV := .v (.pointer (some ⟨g, 0, none⟩))
end Go.Proofs.YtemnnmohdpabhaaGreatDoor
namespace Go.Proofs.YtemnnmohdpabhaaGreatDoor
open Go.RowKit
set_option linter.unusedVariables false
set_option linter.unusedSimpArgs false
section
variable {p : List PaceS} {o : List OrdrS} {s e : Int}
end
theorem VA.rowIs {P : Program} {B : Bs} {V : Nat → Nat → Prop} {ops : Array Oper} {Q : Exit → St' → Prop} {k : Nat} {L : Array Bool} {s : St'} {i n sz : Nat} {u : Value} {cs : List AV} {ty : TypeId} (hi : s.hp[i]? = some (.row u n sz cs ty)) (h : ∀ b c, u = .slice b n c → VA P B V ops Q k L s) : VA P B V ops Q k L s := fun a w hr => by
 obtain ⟨_, ⟨rfl, rfl⟩ | ⟨g, cap, c, rfl, _⟩⟩ := hr.blocks _ (List.mem_of_getElem? hi)
 ·exact h none 0 rfl a w hr
 ·exact h _ cap rfl a w hr
end Go.Proofs.YtemnnmohdpabhaaGreatDoor
namespace Go.Proofs.YtemnnmohdpabhaaGreatDoor
open Go.RowKit
set_option linter.unusedVariables false
set_option linter.unusedSimpArgs false
def mixI (q n : Nat) : List Int := idO q ++ List.replicate (n - q) 0
theorem mixI_len {q n : Nat} (h : q ≤ n) : (mixI q n).length = n := by simp [mixI, idO_len]; omega
theorem mixI_all (n : Nat) : mixI n n = idO n := by simp [mixI]
theorem mixI_set {q n : Nat} (h : q < n) : (mixI q n).set q (q : Int) = mixI (q + 1) n := by
 unfold mixI
 rw [List.set_append_right _ _ (by rw [idO_len]; exact Nat.le_refl _), idO_len, Nat.sub_self, show n - q = (n - (q + 1)) + 1 by omega, List.replicate_succ, List.set_cons_zero, idO_succ, List.append_assoc]
 rfl
theorem Le.boxRow1 {B : Bs} {s : St'} {i g n : Nat} {cs : List AV} {ty : TypeId} (hi : s.hp[i]? = some (.box g ⟨cs, ty, n⟩)) (hl : cs.length = n) (hm : n ≤ maxLen) :
  Le B s ⟨s.sl, s.hp.set i (.row (.slice (some ⟨g, 0, none⟩) n n) n 1 cs ty), s.k⟩ := Le.boxRow (cap := n) (sz := 1) (by rw [Nat.mul_one]; exact hi) (by rw [Nat.mul_one]; exact hl) (Nat.le_refl _) hm
theorem cmpI_sub (a b : Int) : cmpI (a - b) 0 = cmpI a b := by
 unfold cmpI
 by_cases h1 : a < b
 ·rw [if_pos (by omega), if_pos h1]
 ·rw [if_neg (by omega), if_neg h1]
  by_cases h2 : b < a
  ·rw [if_pos (by omega), if_pos h2]
  ·rw [if_neg (by omega), if_neg h2]


set_option maxRecDepth 100000 in
theorem rf_sign {n : Int}  :
  SpecN Tryz.prog 88 [avI n] (fun y => y = avI (cmpI n 0)) := by
 refine SpecN.of_VCN Tryz.func88 rfl Tryz.ntmps88 (Nle rfl) fun w A hB => ?_
 have hnew : True := trivial
 refine VC.sr ?_
 refine VO.ma rfl rfl rfl rfl ?_
 refine VO.nil ?_
 refine VC.seq ?_
 refine VC.block ?_
 refine VC.sr ?_
 refine VO.mv rfl rfl rfl rfl ?_
 refine VO.val rfl rfl (OpV.lss rfl rfl rfl) ?_
 refine VO.ma rfl rfl rfl rfl ?_
 refine VO.nil ?_
 refine VC.cond rfl (fun aH1b => ?_) (fun aH1b => ?_)
 ·have aH1 := aH1b
  try simp only [qqT, qqF, qqN, qqM, qqL, qqE] at aH1
  refine VC.sr ?_
  refine VO.ma rfl rfl rfl rfl ?_
  refine VO.nil ?_
  refine VC.ret ?_
  exact Exists.intro _ (And.intro (RetN.one Tryz.results88 (ResN.v rfl)) (by unfold cmpI; first | rw [if_pos (by omega)] | rw [if_neg (by omega), if_pos (by omega)] | rw [if_neg (by omega), if_neg (by omega)]))
 ·have aH1 := aH1b
  try simp only [qqT, qqF, qqN, qqM, qqL, qqE] at aH1
  refine VC.sr ?_
  refine VO.mv rfl rfl rfl rfl ?_
  refine VO.val rfl rfl (OpV.gtr rfl rfl rfl) ?_
  refine VO.ma rfl rfl rfl rfl ?_
  refine VO.nil ?_
  refine VC.cond rfl (fun aH2b => ?_) (fun aH2b => ?_)
  ·have aH2 := aH2b
   try simp only [qqT, qqF, qqN, qqM, qqL, qqE] at aH2
   refine VC.sr ?_
   refine VO.ma rfl rfl rfl rfl ?_
   refine VO.nil ?_
   refine VC.ret ?_
   exact Exists.intro _ (And.intro (RetN.one Tryz.results88 (ResN.v rfl)) (by unfold cmpI; first | rw [if_pos (by omega)] | rw [if_neg (by omega), if_pos (by omega)] | rw [if_neg (by omega), if_neg (by omega)]))
  ·have aH2 := aH2b
   try simp only [qqT, qqF, qqN, qqM, qqL, qqE] at aH2
   refine VC.skip ?_
   refine VC.sr ?_
   refine VO.ma rfl rfl rfl rfl ?_
   refine VO.nil ?_
   refine VC.ret ?_
   exact Exists.intro _ (And.intro (RetN.one Tryz.results88 (ResN.v rfl)) (by unfold cmpI; first | rw [if_pos (by omega)] | rw [if_neg (by omega), if_pos (by omega)] | rw [if_neg (by omega), if_neg (by omega)]))



end Go.Proofs.YtemnnmohdpabhaaGreatDoor
namespace Go.Proofs.YtemnnmohdpabhaaGreatDoor
open Go.RowKit
set_option linter.unusedVariables false
set_option linter.unusedSimpArgs false

theorem bits_Mul_S {x y : Nat} (hx : x < 18446744073709551616) (hy : y < 18446744073709551616) (hxy : x * y < 18446744073709551616) : SpecN Tryz.prog 109 [.v (.int .u64 x), .v (.int .u64 y)] (fun z => z = .tup [.v (.int .u64 0), .v (.int .u64 ((x * y : Nat) : Int))]) := by
 intro w us ha
 rw [argsV2 ha]
 refine (Tryz.bits_Mul x y hx hy w).mono ?_
 rintro e w' ⟨rfl, rfl⟩
 rw [Nat.div_eq_of_lt hxy, Nat.mod_eq_of_lt hxy]
 refine ⟨_, _, rfl, rfl, .tup _ _ rfl fun j hj => ?_, Chg.refl _ _, trivial⟩
 match j, hj with
 | 0, _ => exact .v _
 | 1, _ => exact .v _

def repC (X Z : AV) (k n : Nat) : List AV := List.replicate k X ++ List.replicate (n - k) Z
theorem repC_len {X Z : AV} {k n : Nat} (h : k ≤ n) : (repC X Z k n).length = n := by simp [repC]; omega
theorem repC_get {X Z : AV} {k n j : Nat} (h : k ≤ n) (hj : j < n) : (repC X Z k n)[j]? = some (if j < k then X else Z) := by
 unfold repC
 split
 ·rename_i h1; rw [List.getElem?_append_left (by simpa using h1)]; simp [h1]
 ·rename_i h1
  rw [List.getElem?_append_right (by simpa using h1), List.length_replicate, List.getElem?_replicate, if_pos (by omega)]
theorem repC_step {X Z : AV} {F : Nat → AV} {k c n o q : Nat} (h : k + c ≤ n) (hF : ∀ j, j < c → F j = X) (ho : o = k) (hq : q = c) : (repC X Z k n).take o ++ tab q F ++ (repC X Z k n).drop (o + q) = repC X Z (k + c) n := by
 subst ho; subst hq
 apply List.ext_getElem?
 intro i
 by_cases hi : i < n
 ·rw [repC_get h hi]
  by_cases h1 : i < o
  ·rw [List.append_assoc, List.getElem?_append_left (by rw [List.length_take, repC_len (by omega)]; omega), List.getElem?_take, if_pos h1, repC_get (by omega) hi, if_pos h1, if_pos (by omega)]
  ·by_cases h2 : i < o + q
   ·rw [List.append_assoc, List.getElem?_append_right (by rw [List.length_take, repC_len (by omega)]; omega), List.getElem?_append_left (by rw [List.length_take, repC_len (by omega), tab_len]; omega), if_pos h2]
    rw [List.getElem?_eq_getElem (by rw [List.length_take, repC_len (by omega), tab_len]; omega), tab_get, hF _ (by rw [List.length_take, repC_len (by omega)]; omega)]
   ·rw [List.getElem?_append_right (by rw [List.length_append, List.length_take, repC_len (by omega), tab_len]; omega), List.getElem?_drop, List.length_append, List.length_take, repC_len (by omega), tab_len, repC_get (by omega) (by omega), if_neg (by omega), if_neg h2]
 ·have l1 : ((repC X Z o n).take o ++ tab q F ++ (repC X Z o n).drop (o + q)).length ≤ i := by
   rw [List.length_append, List.length_append, List.length_take, List.length_drop, repC_len (by omega), tab_len]; omega
  have l2 : (repC X Z (o + q) n).length ≤ i := by rw [repC_len h]; omega
  rw [List.getElem?_eq_none l1, List.getElem?_eq_none l2]
theorem repC_0 {z : Value} {n m : Nat} (hz : z.cells = #[z]) (hm : m = n) : (madeCells z.cells (m * 1)).toList.map AV.v = repC (.v z) (.v z) 0 n := by
 subst hm
 rw [hz, Nat.mul_one, toList_madeCells_one]
 simp [repC]
theorem repC_zero {X Y Z : AV} {n : Nat} : repC X Z 0 n = repC Y Z 0 n := by simp [repC]
theorem repC_first {X Z : AV} {F : Nat → AV} {n c : Nat} (hc : c = min 1 n) (hF : F 0 = X) : (repC Z Z 0 n).take 0 ++ tab (c * 1) F ++ (repC Z Z 0 n).drop (0 + c * 1) = repC X Z c n := by
 rw [repC_zero (X := Z) (Y := X)]
 have h0 : 0 + c = c := Nat.zero_add c
 rw [← h0]
 rw [h0]
 conv => rhs; rw [← h0]
 exact repC_step (c := c) (by omega) (fun j hj => by rw [show j = 0 by omega]; exact hF) rfl (Nat.mul_one _)
end Go.Proofs.YtemnnmohdpabhaaGreatDoor
namespace Go.Proofs.YtemnnmohdpabhaaGreatDoor
open Go.RowKit
set_option linter.unusedVariables false
set_option linter.unusedSimpArgs false
set_option maxRecDepth 100000 in
theorem rf_CyclesOf_G {ms : List Mach} {ns : List NeedS} {plan : List Int} (hm : machF ms = 0) (hn : needsF ns 1 1000 = 0) (hpl : plan.length ≤ ns.length) :
  SpecN Tryz.prog 90 [avL ms, avL ns, avInts plan] (fun y => y = avInts (cycL ms ns plan)) := by
 have hlen := machF_len hm
 have hnl := needsF_len hn
 refine SpecN.of_VCN Tryz.func90 rfl Tryz.ntmps90 (Nle rfl) fun w A hB => ?_
 have hnew : True := trivial
 refine VC.sr ?_
 refine VO.ma rfl rfl rfl rfl ?_
 refine VO.nil ?_
 refine VC.sr ?_
 refine VO.ma rfl rfl rfl rfl ?_
 refine VO.nil ?_
 refine VC.seq ?_
 refine VC.sr ?_
 refine VO.mv rfl rfl rfl rfl ?_
 refine VO.val rfl rfl (OpV.len_im rfl Tryz.underlying26 rfl) ?_
 refine VO.mv rfl rfl rfl rfl ?_
 refine VO.nil ?_
 refine VC.block ?_
 refine VC.le _ (Le.nilRow 1 3) ?_
 refine VC.loopK [] trivial ({p : Value × Nat // p.2 ≤ ms.length}) (fun (iZ : {p : Value × Nat // p.2 ≤ ms.length}) => match iZ with | ⟨⟨u, q⟩, hq⟩ => [(0, avL ms), (1, avL ns), (2, avInts plan), (7, .v u), (13, avL ms), (14, avI ms.length), (15, avI (q : Int))]) (fun (iZ : {p : Value × Nat // p.2 ≤ ms.length}) => match iZ with | ⟨⟨u, q⟩, hq⟩ => [.row u q 1 (intsL (tabI q (fun k => cyc ms ns plan k plan.length))) 3]) (fun (iZ : {p : Value × Nat // p.2 ≤ ms.length}) => match iZ with | ⟨⟨u, q⟩, hq⟩ => 0) (fun (iZ : {p : Value × Nat // p.2 ≤ ms.length}) => match iZ with | ⟨⟨u, q⟩, hq⟩ => ms.length - q) ⟨(.slice none 0 0, 0), Nat.zero_le _⟩ (Le.mk hB [0] ⟨rfl, rfl, rfl, rfl, rfl, rfl, rfl, trivial⟩ rfl rfl (Nat.le_refl _)) ?_
 rintro ⟨⟨u, q⟩, hq⟩
 show VC _ _ _ _ ⟨[(0, avL ms), (1, avL ns), (2, avInts plan), (7, .v u), (13, avL ms), (14, avI ms.length), (15, avI (q : Int))] ++ [], [.row u q 1 (intsL (tabI q (fun k => cyc ms ns plan k plan.length))) 3], 0⟩
 simp only at hq
 refine VC.sr ?_
 refine VO.val rfl rfl (OpV.lss rfl rfl rfl) ?_
 refine VO.nil ?_
 refine VC.seq ?_
 refine VC.cond rfl (fun aH1b => ?_) (fun aH1b => ?_)
 ·have aH1 := aH1b
  try simp only [qqT, qqF, qqN, qqM, qqL, qqE] at aH1
  refine VC.skip ?_
  refine VC.seq ?_
  refine VC.block ?_
  refine VC.sr ?_
  refine VO.mv rfl rfl rfl rfl ?_
  refine VO.val rfl rfl (OpV.indexAddr_E rfl Tryz.underlying26 Tryz.sizeOf106 rfl rfl rfl (by omega)) ?_
  refine VO.val rfl rfl (OpV.loadK_at rfl hB OutW.no Tryz.isAgg106 Tryz.sizeOf106 rfl rfl) ?_
  refine VO.op rfl (OpE.alloc rfl hB rfl Tryz.zeroValue106 rfl ?_)
  intro g9
  refine VO.ma rfl rfl rfl rfl ?_
  refine VO.op rfl (OpE.store (i := 1) rfl hB rfl Tryz.sizeOf106 rfl rfl rfl rfl rfl rfl (Nle rfl) trivial ?_)
  refine VO.nil ?_
  refine VC.sr ?_
  refine VO.val rfl rfl (OpV.fieldAddrO 2 rfl Tryz.underlying106 rfl rfl Tryz.sizeOf3 rfl) ?_
  refine VO.val rfl rfl (OpV.load_own (i := 1) rfl hB Tryz.isAgg3 rfl rfl rfl (fun h => h)) ?_
  refine VO.ma rfl rfl rfl rfl ?_
  refine VO.nil ?_
  refine VC.seq ?_
  refine VC.sr ?_
  refine VO.mv rfl rfl rfl rfl ?_
  refine VO.val rfl rfl (OpV.len_im rfl Tryz.underlying22 rfl) ?_
  refine VO.mv rfl rfl rfl rfl ?_
  refine VO.nil ?_
  refine VC.block ?_
  refine VC.loopK [] trivial ({r : Nat // r ≤ plan.length}) (fun (iZ : {r : Nat // r ≤ plan.length}) => match iZ with | ⟨r, hr⟩ => [(0, avL ms), (1, avL ns), (2, avInts plan), (7, .v u), (8, avI (q : Int)), (9, .v (.pointer (some ⟨g9, 0, none⟩))), (10, avI (cyc ms ns plan q r)), (13, avL ms), (14, avI ms.length), (15, avI (q : Int)), (22, avInts plan), (23, avI plan.length), (24, avI (r : Int))]) (fun (iZ : {r : Nat // r ≤ plan.length}) => match iZ with | ⟨r, hr⟩ => [.row u q 1 (intsL (tabI q (fun k => cyc ms ns plan k plan.length))) 3, .box g9 ⟨tab 5 (Sxc.cell (ms.getD q default)), 106, 5⟩]) (fun (iZ : {r : Nat // r ≤ plan.length}) => match iZ with | ⟨r, hr⟩ => 0) (fun (iZ : {r : Nat // r ≤ plan.length}) => match iZ with | ⟨r, hr⟩ => plan.length - r) ⟨0, Nat.zero_le _⟩ (Le.mk hB [0, 1] ⟨rfl, rfl, rfl, rfl, rfl, rfl, rfl, rfl, rfl, rfl, rfl, rfl, rfl, trivial⟩ rfl rfl (Nat.le_refl _)) ?_
  rintro ⟨r, hr⟩
  show VC _ _ _ _ ⟨[(0, avL ms), (1, avL ns), (2, avInts plan), (7, .v u), (8, avI (q : Int)), (9, .v (.pointer (some ⟨g9, 0, none⟩))), (10, avI (cyc ms ns plan q r)), (13, avL ms), (14, avI ms.length), (15, avI (q : Int)), (22, avInts plan), (23, avI plan.length), (24, avI (r : Int))] ++ [], [.row u q 1 (intsL (tabI q (fun k => cyc ms ns plan k plan.length))) 3, .box g9 ⟨tab 5 (Sxc.cell (ms.getD q default)), 106, 5⟩], 0⟩
  refine VC.sr ?_
  refine VO.val rfl rfl (OpV.lss rfl rfl rfl) ?_
  refine VO.nil ?_
  refine VC.seq ?_
  refine VC.cond rfl (fun aH2b => ?_) (fun aH2b => ?_)
  ·have aH2 := aH2b
   try simp only [qqT, qqF, qqN, qqM, qqL, qqE] at aH2
   have hcy := cyc_in (plan := plan) hm hn (k := q) (by omega) (r := r) (by omega)
   have hmu := mul_in (machF_each hm (i := q) (by omega)).1.1 (needsF_count hn (i := r) (by omega))
   refine VC.skip ?_
   refine VC.seq ?_
   refine VC.block ?_
   refine VC.sr ?_
   refine VO.mv rfl rfl rfl rfl ?_
   refine VO.val rfl rfl (OpV.indexAddr_1 rfl Tryz.underlying22 Tryz.sizeOf3 rfl rfl rfl (by omega)) ?_
   refine VO.val rfl rfl (OpV.load_at rfl hB OutW.no Tryz.isAgg3 rfl rfl) ?_
   refine VO.ma rfl rfl rfl rfl ?_
   refine VO.ma rfl rfl rfl rfl ?_
   refine VO.nil ?_
   refine VC.sr ?_
   refine VO.mv rfl rfl rfl rfl ?_
   refine VO.mv rfl rfl rfl rfl ?_
   refine VO.val rfl rfl (OpV.eql rfl rfl rfl) ?_
   refine VO.nil ?_
   refine VC.cond rfl (fun aH3b => ?_) (fun aH3b => ?_)
   ·have aH3 := aH3b
    try simp only [qqT, qqF, qqN, qqM, qqL, qqE] at aH3
    refine VC.draw (fun _ => NoB) hB (by kernel_rfl) ?_
    refine VA.take (i := 0) rfl (by kernel_rfl) (by kernel_rfl) (by kernel_rfl) rfl rfl (OpV.move (.inl rfl) rfl) ?_
    refine VA.take (i := 1) rfl (by kernel_rfl) (by kernel_rfl) (by kernel_rfl) rfl rfl (OpV.fieldAddrO 1 rfl Tryz.underlying106 rfl rfl Tryz.sizeOf3 rfl) ?_
    refine VA.take (i := 2) rfl (by kernel_rfl) (by kernel_rfl) (by kernel_rfl) rfl rfl (OpV.load_own (i := 1) rfl hB Tryz.isAgg3 rfl rfl rfl Wi.not0) ?_
    refine VA.take (i := 3) rfl (by kernel_rfl) (by kernel_rfl) (by kernel_rfl) rfl rfl (OpV.move (.inl rfl) rfl) ?_
    refine VA.take (i := 4) rfl (by kernel_rfl) (by kernel_rfl) (by kernel_rfl) rfl rfl (OpV.move (.inl rfl) rfl) ?_
    refine VA.take (i := 5) rfl (by kernel_rfl) (by kernel_rfl) (by kernel_rfl) rfl rfl (OpV.indexAddr_E rfl Tryz.underlying28 Tryz.sizeOf111 rfl rfl rfl (by omega)) ?_
    refine VA.take (i := 6) rfl (by kernel_rfl) (by kernel_rfl) (by kernel_rfl) rfl rfl (OpV.fieldAddr_atO 1 rfl Tryz.underlying111 rfl rfl Tryz.sizeOf3 rfl rfl) ?_
    refine VA.take (i := 7) rfl (by kernel_rfl) (by kernel_rfl) (by kernel_rfl) rfl rfl (OpV.load_at rfl hB OutW.wi0 Tryz.isAgg3 rfl rfl) ?_
    refine VA.take (i := 8) rfl (by kernel_rfl) (by kernel_rfl) (by kernel_rfl) rfl rfl (OpV.mul rfl rfl rfl (by unfold fits; omega)) ?_
    refine VA.take (i := 9) rfl (by kernel_rfl) (by kernel_rfl) (by kernel_rfl) rfl rfl (OpV.add rfl rfl rfl (by unfold fits; omega)) ?_
    refine VA.take (i := 10) rfl (by kernel_rfl) (by kernel_rfl) (by kernel_rfl) rfl rfl (OpV.move (.inr rfl) rfl) ?_
    refine VA.done (by kernel_rfl) ?_
    refine VC.region ?_
    refine VO.val rfl rfl (OpV.add rfl rfl rfl (by unfold fits; omega)) ?_
    refine VO.mv rfl rfl rfl rfl ?_
    refine VO.nil ?_
    exact Exists.intro (⟨r + 1, by omega⟩) (And.intro (Le.mk hB [0, 1] ⟨rfl, rfl, rfl, rfl, rfl, rfl, (by rw [cyc]; first | rw [if_pos (by omega)]; rfl | rw [if_neg (by omega)]; rfl), rfl, rfl, rfl, rfl, rfl, rfl, trivial⟩ rfl rfl (Nat.le_refl _)) (by first | omega | (show _ < _; omega) | (simp only []; omega)))
   ·have aH3 := aH3b
    try simp only [qqT, qqF, qqN, qqM, qqL, qqE] at aH3
    refine VC.skip ?_
    refine VC.region ?_
    refine VO.val rfl rfl (OpV.add rfl rfl rfl (by unfold fits; omega)) ?_
    refine VO.mv rfl rfl rfl rfl ?_
    refine VO.nil ?_
    exact Exists.intro (⟨r + 1, by omega⟩) (And.intro (Le.mk hB [0, 1] ⟨rfl, rfl, rfl, rfl, rfl, rfl, (by rw [cyc]; first | rw [if_pos (by omega)]; rfl | rw [if_neg (by omega)]; rfl), rfl, rfl, rfl, rfl, rfl, rfl, trivial⟩ rfl rfl (Nat.le_refl _)) (by first | omega | (show _ < _; omega) | (simp only []; omega)))
  ·have aH2 := aH2b
   try simp only [qqT, qqF, qqN, qqM, qqL, qqE] at aH2
   obtain rfl : r = plan.length := by omega
   refine VC.exit ?_
   refine VC.region ?_
   refine VO.mv rfl rfl rfl rfl ?_
   refine VO.mv rfl rfl rfl rfl ?_
   refine VO.op rfl (OpE.buildSlice (zc := #[.int .i64 0]) rfl hB rfl Tryz.underlying22 Tryz.sizeOf3 Tryz.zeroValue3 (by decide) (by decide) (by kernel_rfl) rfl rfl ?_)
   refine VO.op rfl (OpE.append1 (i := 0) rfl hB rfl Tryz.underlying22 (infoOf Tryz.t3 1 (by kernel_rfl) rfl rfl) rfl (by decide) (by decide) rfl rfl rfl rfl ((intsL_snoc _ _).trans (congrArg intsL (tabI_snoc q (fun k => cyc ms ns plan k plan.length)))) (by omega) (fun _ _ => trivial) ?_)
   intro u2
   refine VO.ma rfl rfl rfl rfl ?_
   refine VO.nil ?_
   refine VC.region ?_
   refine VO.val rfl rfl (OpV.add rfl rfl rfl (by unfold fits; omega)) ?_
   refine VO.mv rfl rfl rfl rfl ?_
   refine VO.nil ?_
   exact Exists.intro (⟨(u2, q + 1), by show _ ≤ _; omega⟩) (And.intro (Le.mk hB [0] ⟨rfl, rfl, rfl, rfl, rfl, rfl, rfl, trivial⟩ rfl rfl (Nat.le_refl _)) (by first | omega | (show _ < _; omega) | (simp only []; omega)))
 ·have aH1 := aH1b
  try simp only [qqT, qqF, qqN, qqM, qqL, qqE] at aH1
  refine VC.exit ?_
  refine VC.sr ?_
  refine VO.mv rfl rfl rfl rfl ?_
  refine VO.ma rfl rfl rfl rfl ?_
  refine VO.nil ?_
  refine VC.ret ?_
  exact Exists.intro _ (And.intro (RetN.one Tryz.results90 (ResN.rowI (i := 0) rfl rfl (tabI_len _ _).symm)) (by rw [show q = ms.length by omega]; rfl))
set_option maxRecDepth 100000 in
theorem rf_CyclesOf_R {ms : List Mach} {ns : List NeedS} {plan : List Int} (hm : machF ms = 0) (hn : needsF ns 1 1000 = 0) (hpl : plan.length ≤ ns.length) :
  SpecR Tryz.prog 90 [avL ms, avL ns, avInts plan] ms.length 1 (intsL (cycL ms ns plan)) 3 := by
 have hlen := machF_len hm
 have hnl := needsF_len hn
 refine SpecR.of_VC Tryz.func90 rfl Tryz.ntmps90 (Nle rfl) (by first | exact flat_ints _ | exact flat_strs _ | exact flat_bools _) fun w A hB => ?_
 have hnew : True := trivial
 refine VC.sr ?_
 refine VO.ma rfl rfl rfl rfl ?_
 refine VO.nil ?_
 refine VC.sr ?_
 refine VO.ma rfl rfl rfl rfl ?_
 refine VO.nil ?_
 refine VC.seq ?_
 refine VC.sr ?_
 refine VO.mv rfl rfl rfl rfl ?_
 refine VO.val rfl rfl (OpV.len_im rfl Tryz.underlying26 rfl) ?_
 refine VO.mv rfl rfl rfl rfl ?_
 refine VO.nil ?_
 refine VC.block ?_
 refine VC.le _ (Le.nilRow 1 3) ?_
 refine VC.loopK [] trivial ({p : Value × Nat // p.2 ≤ ms.length}) (fun (iZ : {p : Value × Nat // p.2 ≤ ms.length}) => match iZ with | ⟨⟨u, q⟩, hq⟩ => [(0, avL ms), (1, avL ns), (2, avInts plan), (7, .v u), (13, avL ms), (14, avI ms.length), (15, avI (q : Int))]) (fun (iZ : {p : Value × Nat // p.2 ≤ ms.length}) => match iZ with | ⟨⟨u, q⟩, hq⟩ => [.row u q 1 (intsL (tabI q (fun k => cyc ms ns plan k plan.length))) 3]) (fun (iZ : {p : Value × Nat // p.2 ≤ ms.length}) => match iZ with | ⟨⟨u, q⟩, hq⟩ => 0) (fun (iZ : {p : Value × Nat // p.2 ≤ ms.length}) => match iZ with | ⟨⟨u, q⟩, hq⟩ => ms.length - q) ⟨(.slice none 0 0, 0), Nat.zero_le _⟩ (Le.mk hB [0] ⟨rfl, rfl, rfl, rfl, rfl, rfl, rfl, trivial⟩ rfl rfl (Nat.le_refl _)) ?_
 rintro ⟨⟨u, q⟩, hq⟩
 show VC _ _ _ _ ⟨[(0, avL ms), (1, avL ns), (2, avInts plan), (7, .v u), (13, avL ms), (14, avI ms.length), (15, avI (q : Int))] ++ [], [.row u q 1 (intsL (tabI q (fun k => cyc ms ns plan k plan.length))) 3], 0⟩
 simp only at hq
 refine VC.sr ?_
 refine VO.val rfl rfl (OpV.lss rfl rfl rfl) ?_
 refine VO.nil ?_
 refine VC.seq ?_
 refine VC.cond rfl (fun aH1b => ?_) (fun aH1b => ?_)
 ·have aH1 := aH1b
  try simp only [qqT, qqF, qqN, qqM, qqL, qqE] at aH1
  refine VC.skip ?_
  refine VC.seq ?_
  refine VC.block ?_
  refine VC.sr ?_
  refine VO.mv rfl rfl rfl rfl ?_
  refine VO.val rfl rfl (OpV.indexAddr_E rfl Tryz.underlying26 Tryz.sizeOf106 rfl rfl rfl (by omega)) ?_
  refine VO.val rfl rfl (OpV.loadK_at rfl hB OutW.no Tryz.isAgg106 Tryz.sizeOf106 rfl rfl) ?_
  refine VO.op rfl (OpE.alloc rfl hB rfl Tryz.zeroValue106 rfl ?_)
  intro g9
  refine VO.ma rfl rfl rfl rfl ?_
  refine VO.op rfl (OpE.store (i := 1) rfl hB rfl Tryz.sizeOf106 rfl rfl rfl rfl rfl rfl (Nle rfl) trivial ?_)
  refine VO.nil ?_
  refine VC.sr ?_
  refine VO.val rfl rfl (OpV.fieldAddrO 2 rfl Tryz.underlying106 rfl rfl Tryz.sizeOf3 rfl) ?_
  refine VO.val rfl rfl (OpV.load_own (i := 1) rfl hB Tryz.isAgg3 rfl rfl rfl (fun h => h)) ?_
  refine VO.ma rfl rfl rfl rfl ?_
  refine VO.nil ?_
  refine VC.seq ?_
  refine VC.sr ?_
  refine VO.mv rfl rfl rfl rfl ?_
  refine VO.val rfl rfl (OpV.len_im rfl Tryz.underlying22 rfl) ?_
  refine VO.mv rfl rfl rfl rfl ?_
  refine VO.nil ?_
  refine VC.block ?_
  refine VC.loopK [] trivial ({r : Nat // r ≤ plan.length}) (fun (iZ : {r : Nat // r ≤ plan.length}) => match iZ with | ⟨r, hr⟩ => [(0, avL ms), (1, avL ns), (2, avInts plan), (7, .v u), (8, avI (q : Int)), (9, .v (.pointer (some ⟨g9, 0, none⟩))), (10, avI (cyc ms ns plan q r)), (13, avL ms), (14, avI ms.length), (15, avI (q : Int)), (22, avInts plan), (23, avI plan.length), (24, avI (r : Int))]) (fun (iZ : {r : Nat // r ≤ plan.length}) => match iZ with | ⟨r, hr⟩ => [.row u q 1 (intsL (tabI q (fun k => cyc ms ns plan k plan.length))) 3, .box g9 ⟨tab 5 (Sxc.cell (ms.getD q default)), 106, 5⟩]) (fun (iZ : {r : Nat // r ≤ plan.length}) => match iZ with | ⟨r, hr⟩ => 0) (fun (iZ : {r : Nat // r ≤ plan.length}) => match iZ with | ⟨r, hr⟩ => plan.length - r) ⟨0, Nat.zero_le _⟩ (Le.mk hB [0, 1] ⟨rfl, rfl, rfl, rfl, rfl, rfl, rfl, rfl, rfl, rfl, rfl, rfl, rfl, trivial⟩ rfl rfl (Nat.le_refl _)) ?_
  rintro ⟨r, hr⟩
  show VC _ _ _ _ ⟨[(0, avL ms), (1, avL ns), (2, avInts plan), (7, .v u), (8, avI (q : Int)), (9, .v (.pointer (some ⟨g9, 0, none⟩))), (10, avI (cyc ms ns plan q r)), (13, avL ms), (14, avI ms.length), (15, avI (q : Int)), (22, avInts plan), (23, avI plan.length), (24, avI (r : Int))] ++ [], [.row u q 1 (intsL (tabI q (fun k => cyc ms ns plan k plan.length))) 3, .box g9 ⟨tab 5 (Sxc.cell (ms.getD q default)), 106, 5⟩], 0⟩
  refine VC.sr ?_
  refine VO.val rfl rfl (OpV.lss rfl rfl rfl) ?_
  refine VO.nil ?_
  refine VC.seq ?_
  refine VC.cond rfl (fun aH2b => ?_) (fun aH2b => ?_)
  ·have aH2 := aH2b
   try simp only [qqT, qqF, qqN, qqM, qqL, qqE] at aH2
   have hcy := cyc_in (plan := plan) hm hn (k := q) (by omega) (r := r) (by omega)
   have hmu := mul_in (machF_each hm (i := q) (by omega)).1.1 (needsF_count hn (i := r) (by omega))
   refine VC.skip ?_
   refine VC.seq ?_
   refine VC.block ?_
   refine VC.sr ?_
   refine VO.mv rfl rfl rfl rfl ?_
   refine VO.val rfl rfl (OpV.indexAddr_1 rfl Tryz.underlying22 Tryz.sizeOf3 rfl rfl rfl (by omega)) ?_
   refine VO.val rfl rfl (OpV.load_at rfl hB OutW.no Tryz.isAgg3 rfl rfl) ?_
   refine VO.ma rfl rfl rfl rfl ?_
   refine VO.ma rfl rfl rfl rfl ?_
   refine VO.nil ?_
   refine VC.sr ?_
   refine VO.mv rfl rfl rfl rfl ?_
   refine VO.mv rfl rfl rfl rfl ?_
   refine VO.val rfl rfl (OpV.eql rfl rfl rfl) ?_
   refine VO.nil ?_
   refine VC.cond rfl (fun aH3b => ?_) (fun aH3b => ?_)
   ·have aH3 := aH3b
    try simp only [qqT, qqF, qqN, qqM, qqL, qqE] at aH3
    refine VC.draw (fun _ => NoB) hB (by kernel_rfl) ?_
    refine VA.take (i := 0) rfl (by kernel_rfl) (by kernel_rfl) (by kernel_rfl) rfl rfl (OpV.move (.inl rfl) rfl) ?_
    refine VA.take (i := 1) rfl (by kernel_rfl) (by kernel_rfl) (by kernel_rfl) rfl rfl (OpV.fieldAddrO 1 rfl Tryz.underlying106 rfl rfl Tryz.sizeOf3 rfl) ?_
    refine VA.take (i := 2) rfl (by kernel_rfl) (by kernel_rfl) (by kernel_rfl) rfl rfl (OpV.load_own (i := 1) rfl hB Tryz.isAgg3 rfl rfl rfl Wi.not0) ?_
    refine VA.take (i := 3) rfl (by kernel_rfl) (by kernel_rfl) (by kernel_rfl) rfl rfl (OpV.move (.inl rfl) rfl) ?_
    refine VA.take (i := 4) rfl (by kernel_rfl) (by kernel_rfl) (by kernel_rfl) rfl rfl (OpV.move (.inl rfl) rfl) ?_
    refine VA.take (i := 5) rfl (by kernel_rfl) (by kernel_rfl) (by kernel_rfl) rfl rfl (OpV.indexAddr_E rfl Tryz.underlying28 Tryz.sizeOf111 rfl rfl rfl (by omega)) ?_
    refine VA.take (i := 6) rfl (by kernel_rfl) (by kernel_rfl) (by kernel_rfl) rfl rfl (OpV.fieldAddr_atO 1 rfl Tryz.underlying111 rfl rfl Tryz.sizeOf3 rfl rfl) ?_
    refine VA.take (i := 7) rfl (by kernel_rfl) (by kernel_rfl) (by kernel_rfl) rfl rfl (OpV.load_at rfl hB OutW.wi0 Tryz.isAgg3 rfl rfl) ?_
    refine VA.take (i := 8) rfl (by kernel_rfl) (by kernel_rfl) (by kernel_rfl) rfl rfl (OpV.mul rfl rfl rfl (by unfold fits; omega)) ?_
    refine VA.take (i := 9) rfl (by kernel_rfl) (by kernel_rfl) (by kernel_rfl) rfl rfl (OpV.add rfl rfl rfl (by unfold fits; omega)) ?_
    refine VA.take (i := 10) rfl (by kernel_rfl) (by kernel_rfl) (by kernel_rfl) rfl rfl (OpV.move (.inr rfl) rfl) ?_
    refine VA.done (by kernel_rfl) ?_
    refine VC.region ?_
    refine VO.val rfl rfl (OpV.add rfl rfl rfl (by unfold fits; omega)) ?_
    refine VO.mv rfl rfl rfl rfl ?_
    refine VO.nil ?_
    exact Exists.intro (⟨r + 1, by omega⟩) (And.intro (Le.mk hB [0, 1] ⟨rfl, rfl, rfl, rfl, rfl, rfl, (by rw [cyc]; first | rw [if_pos (by omega)]; rfl | rw [if_neg (by omega)]; rfl), rfl, rfl, rfl, rfl, rfl, rfl, trivial⟩ rfl rfl (Nat.le_refl _)) (by first | omega | (show _ < _; omega) | (simp only []; omega)))
   ·have aH3 := aH3b
    try simp only [qqT, qqF, qqN, qqM, qqL, qqE] at aH3
    refine VC.skip ?_
    refine VC.region ?_
    refine VO.val rfl rfl (OpV.add rfl rfl rfl (by unfold fits; omega)) ?_
    refine VO.mv rfl rfl rfl rfl ?_
    refine VO.nil ?_
    exact Exists.intro (⟨r + 1, by omega⟩) (And.intro (Le.mk hB [0, 1] ⟨rfl, rfl, rfl, rfl, rfl, rfl, (by rw [cyc]; first | rw [if_pos (by omega)]; rfl | rw [if_neg (by omega)]; rfl), rfl, rfl, rfl, rfl, rfl, rfl, trivial⟩ rfl rfl (Nat.le_refl _)) (by first | omega | (show _ < _; omega) | (simp only []; omega)))
  ·have aH2 := aH2b
   try simp only [qqT, qqF, qqN, qqM, qqL, qqE] at aH2
   obtain rfl : r = plan.length := by omega
   refine VC.exit ?_
   refine VC.region ?_
   refine VO.mv rfl rfl rfl rfl ?_
   refine VO.mv rfl rfl rfl rfl ?_
   refine VO.op rfl (OpE.buildSlice (zc := #[.int .i64 0]) rfl hB rfl Tryz.underlying22 Tryz.sizeOf3 Tryz.zeroValue3 (by decide) (by decide) (by kernel_rfl) rfl rfl ?_)
   refine VO.op rfl (OpE.append1 (i := 0) rfl hB rfl Tryz.underlying22 (infoOf Tryz.t3 1 (by kernel_rfl) rfl rfl) rfl (by decide) (by decide) rfl rfl rfl rfl ((intsL_snoc _ _).trans (congrArg intsL (tabI_snoc q (fun k => cyc ms ns plan k plan.length)))) (by omega) (fun _ _ => trivial) ?_)
   intro u2
   refine VO.ma rfl rfl rfl rfl ?_
   refine VO.nil ?_
   refine VC.region ?_
   refine VO.val rfl rfl (OpV.add rfl rfl rfl (by unfold fits; omega)) ?_
   refine VO.mv rfl rfl rfl rfl ?_
   refine VO.nil ?_
   exact Exists.intro (⟨(u2, q + 1), by show _ ≤ _; omega⟩) (And.intro (Le.mk hB [0] ⟨rfl, rfl, rfl, rfl, rfl, rfl, rfl, trivial⟩ rfl rfl (Nat.le_refl _)) (by first | omega | (show _ < _; omega) | (simp only []; omega)))
 ·have aH1 := aH1b
  try simp only [qqT, qqF, qqN, qqM, qqL, qqE] at aH1
  refine VC.exit ?_
  refine VC.sr ?_
  refine VO.mv rfl rfl rfl rfl ?_
  refine VO.ma rfl rfl rfl rfl ?_
  refine VO.nil ?_
  obtain rfl : q = ms.length := by omega
  refine VC.ret ?_
  exact Exists.intro _ (And.intro (RetV.one Tryz.results90 (ResV.tmp rfl)) (⟨_, rfl, List.Mem.head _⟩))
end Go.Proofs.YtemnnmohdpabhaaGreatDoor
namespace Go.Proofs.YtemnnmohdpabhaaGreatDoor
open Go.RowKit
set_option linter.unusedVariables false
set_option linter.unusedSimpArgs false
theorem repC_ints (x : Int) (n : Nat) : repC (avI x) (.v (.int .i64 0)) n n = intsL (List.replicate n x) := by
 apply List.ext_getElem (by rw [repC_len (Nat.le_refl _), intsL_len, List.length_replicate])
 intro i h1 h2
 have hi : i < n := by rw [repC_len (Nat.le_refl _)] at h1; exact h1
 simp [repC, intsL, hi]
set_option maxRecDepth 100000 in
theorem slices_Repeat_R {x : Int} {n : Nat} (hn : n ≤ 100000) :
  SpecR Tryz.prog 89 [avInts [x], avI (n : Int)] n 1 (intsL (List.replicate n x)) 3 := by
 refine SpecR.of_VC Tryz.func89 rfl Tryz.ntmps89 (Nle rfl) (by first | exact flat_ints _ | exact flat_strs _ | exact flat_bools _) fun w A hB => ?_
 have hnew : True := trivial
 refine VC.sr ?_
 refine VO.ma rfl rfl rfl rfl ?_
 refine VO.nil ?_
 refine VC.seq ?_
 refine VC.sr ?_
 refine VO.mv rfl rfl rfl rfl ?_
 refine VO.val rfl rfl (OpV.lss rfl rfl rfl) ?_
 refine VO.nil ?_
 refine VC.cond rfl (fun aH1b => ?_) (fun aH1b => ?_)
 ·have aH1 := aH1b
  try simp only [qqT, qqF, qqN, qqM, qqL, qqE] at aH1
  exact VC.absurd (by omega)
 ·have aH1 := aH1b
  try simp only [qqT, qqF, qqN, qqM, qqL, qqE] at aH1
  refine VC.skip ?_
  refine VC.sr ?_
  refine VO.mv rfl rfl rfl rfl ?_
  refine VO.val rfl rfl (OpV.len_im rfl Tryz.underlying22 rfl) ?_
  refine VO.val rfl rfl (OpV.conv rfl Tryz.underlying3 Tryz.underlying160 rfl (IntWalk.u64_in _ (by simp))) ?_
  refine VO.mv rfl rfl rfl rfl ?_
  refine VO.val rfl rfl (OpV.conv rfl Tryz.underlying3 Tryz.underlying160 rfl (IntWalk.u64_in _ (by omega))) ?_
  refine VO.op rfl (OpE.call rfl hB rfl Tryz.call109 rfl (SpecN.spec (bits_Mul_S (x := 1) (y := n) (by omega) (by omega) (by omega))) ?_)
  rintro _ rfl
  refine VO.mv rfl rfl rfl rfl ?_
  refine VO.val rfl rfl (OpV.extract rfl rfl rfl) ?_
  refine VO.val rfl rfl (OpV.extract rfl rfl rfl) ?_
  refine VO.ma rfl rfl rfl rfl ?_
  refine VO.ma rfl rfl rfl rfl ?_
  refine VO.nil ?_
  refine VC.seq ?_
  refine VC.sr ?_
  refine VO.mv rfl rfl rfl rfl ?_
  refine VO.val rfl rfl (OpV.gtr rfl rfl rfl) ?_
  refine VO.mv rfl rfl rfl rfl ?_
  refine VO.opY rfl rfl rfl rfl rfl ?_
  refine OpE.val (W := NoB) (OpV.move (.inl rfl) rfl) rfl ?_
  refine VO.opY rfl rfl rfl rfl rfl ?_
  refine OpE.val (W := NoB) (OpV.gtr rfl rfl rfl) rfl ?_
  refine VO.val rfl rfl (OpV.pickF rfl rfl rfl rfl rfl) ?_
  refine VO.nil ?_
  refine VC.cond rfl (fun aH2b => ?_) (fun aH2b => ?_)
  ·have aH2 := aH2b
   try simp only [qqT, qqF, qqN, qqM, qqL, qqE] at aH2
   exact VC.absurd (by omega)
  ·have aH2 := aH2b
   try simp only [qqT, qqF, qqN, qqM, qqL, qqE] at aH2
   refine VC.skip ?_
   refine VC.sr ?_
   refine VO.mv rfl rfl rfl rfl ?_
   refine VO.val rfl rfl (OpV.conv rfl Tryz.underlying160 Tryz.underlying3 rfl (IntWalk.i64_in _ (by omega))) ?_
   refine VO.op rfl (OpE.make rfl hB rfl Tryz.underlying22 (infoOf Tryz.t3 1 (by kernel_rfl) rfl rfl) (by decide) rfl rfl (n := n) (by omega) (by omega) (by omega) (repC_0 (n := n) rfl rfl) ?_)
   intro g30
   rw [repC_len (Nat.zero_le _)]
   refine VO.ma rfl rfl rfl rfl ?_
   refine VO.nil ?_
   refine VC.sr ?_
   refine VO.mv rfl rfl rfl rfl ?_
   refine VO.mv rfl rfl rfl rfl ?_
   refine VO.op rfl (OpE.copy (i := 0) rfl hB rfl Tryz.underlying22 Tryz.sizeOf3 rfl rfl (SrcP.im rfl) (c := min 1 n) rfl (fun _ _ => rfl) (by rw [repC_len (by omega)]; omega) (repC_first rfl rfl) trivial ?_)
   refine VO.ma rfl rfl rfl rfl ?_
   refine VO.nil ?_
   refine VC.seq ?_
   refine VC.block ?_
   refine VC.loopK [(7, _)] ⟨rfl, trivial⟩ ({k : Nat // k ≤ n ∧ (k = 0 → n = 0)}) (fun (iZ : {k : Nat // k ≤ n ∧ (k = 0 → n = 0)}) => match iZ with | ⟨k, hk, hk0⟩ => [(8, avI (k : Int))]) (fun (iZ : {k : Nat // k ≤ n ∧ (k = 0 → n = 0)}) => match iZ with | ⟨k, hk, hk0⟩ => [.box g30 ⟨repC (avI x) (.v (.int .i64 0)) k n, 3, n⟩]) (fun (iZ : {k : Nat // k ≤ n ∧ (k = 0 → n = 0)}) => match iZ with | ⟨k, hk, hk0⟩ => 0) (fun (iZ : {k : Nat // k ≤ n ∧ (k = 0 → n = 0)}) => match iZ with | ⟨k, hk, hk0⟩ => n - k) ⟨min 1 n, by omega, by omega⟩ (Le.mk hB [0] ⟨rfl, rfl, trivial⟩ rfl rfl (Nat.le_refl _)) ?_
   rintro ⟨k, hk, hk0⟩
   show VC _ _ _ _ ⟨[(8, avI (k : Int))] ++ [(7, _)], [.box g30 ⟨repC (avI x) (.v (.int .i64 0)) k n, 3, n⟩], 0⟩
   refine VC.seq ?_
   refine VC.sr ?_
   refine VO.mv rfl rfl rfl rfl ?_
   refine VO.mv rfl rfl rfl rfl ?_
   refine VO.val rfl rfl (OpV.len_v rfl Tryz.underlying22 rfl) ?_
   refine VO.val rfl rfl (OpV.lss rfl rfl rfl) ?_
   refine VO.nil ?_
   refine VC.cond rfl (fun aH3b => ?_) (fun aH3b => ?_)
   ·have aH3 := aH3b
    try simp only [qqT, qqF, qqN, qqM, qqL, qqE] at aH3
    refine VC.skip ?_
    refine VC.block ?_
    refine VC.draw (fun j b => j = 7 ∧ b = g30) hB (by kernel_rfl) ?_
    refine VA.take (i := 0) rfl (by kernel_rfl) (by kernel_rfl) (by kernel_rfl) rfl rfl (OpV.move (.inl rfl) rfl) ?_
    refine VA.take (i := 1) rfl (by kernel_rfl) (by kernel_rfl) (by kernel_rfl) rfl rfl (OpV.move (.inl rfl) rfl) ?_
    refine VA.take (i := 2) rfl (by kernel_rfl) (by kernel_rfl) (by kernel_rfl) rfl rfl (OpV.move (.inl rfl) rfl) ?_
    refine VA.take (i := 3) rfl (by kernel_rfl) (by kernel_rfl) (by kernel_rfl) rfl rfl (OpV.slice_own (l := k) rfl Tryz.underlying22 Tryz.sizeOf3 rfl ⟨_, _, rfl, rfl⟩ rfl (by omega) (by omega) (by omega)) ?_
    refine VA.take (i := 4) rfl (by kernel_rfl) (by kernel_rfl) (by kernel_rfl) rfl rfl (OpV.move (.inl rfl) rfl) ?_
    refine VA.take (i := 5) rfl (by kernel_rfl) (by kernel_rfl) (by kernel_rfl) rfl rfl (OpV.move (.inl rfl) rfl) ?_
    refine VA.take (i := 6) rfl (by kernel_rfl) (by kernel_rfl) (by kernel_rfl) rfl rfl (OpV.slice_own (h := k) rfl Tryz.underlying22 Tryz.sizeOf3 rfl rfl ⟨_, _, rfl, rfl⟩ (by omega) (by omega) (by omega)) ?_
    refine VA.all (rs := [7]) (by kernel_rfl) (by decide) ?_
    refine ⟨⟨_, rfl, .inl rfl, ?_⟩, trivial⟩
    refine OpE.copy (i := 0) rfl hB rfl Tryz.underlying22 Tryz.sizeOf3 rfl rfl (SrcP.box (i := 0) rfl rfl (by show 0 + 0 * 1 + (k - 0) * 1 ≤ (repC _ _ k n).length; rw [repC_len (by omega)]; omega)) (c := min k (n - k)) (by omega) (fun j hj => by dsimp only; rw [List.getD_eq_getElem?_getD, repC_get (by omega) (by omega), if_pos (by omega)]; rfl) (by show 0 + k * 1 + _ ≤ (repC _ _ k n).length; rw [repC_len (by omega)]; omega) (repC_step (c := min k (n - k)) (by omega) (fun j hj => by dsimp only; rw [List.getD_eq_getElem?_getD, repC_get (by omega) (by omega), if_pos (by omega)]; rfl) (by omega) (by omega)) (by first | exact ⟨rfl, rfl⟩ | exact .inl ⟨rfl, rfl⟩ | exact .inr ⟨rfl, rfl⟩ | exact ⟨rfl, trivial⟩ | exact .inl ⟨rfl, trivial⟩ | exact .inr ⟨rfl, trivial⟩ | exact ⟨by decide, rfl⟩) ?_
    refine VA.take (i := 8) rfl (by kernel_rfl) (by kernel_rfl) (by kernel_rfl) rfl rfl (OpV.add rfl rfl rfl (by unfold fits; omega)) ?_
    refine VA.take (i := 9) rfl (by kernel_rfl) (by kernel_rfl) (by kernel_rfl) rfl rfl (OpV.move (.inr rfl) rfl) ?_
    refine VA.done (by kernel_rfl) ?_
    exact Exists.intro (⟨k + min k (n - k), by omega, by omega⟩) (And.intro (Le.mk hB [0] ⟨rfl, rfl, trivial⟩ rfl rfl (Nat.le_refl _)) (by first | omega | (show _ < _; omega) | (simp only []; omega)))
   ·have aH3 := aH3b
    try simp only [qqT, qqF, qqN, qqM, qqL, qqE] at aH3
    refine VC.exit ?_
    refine VC.sr ?_
    refine VO.mv rfl rfl rfl rfl ?_
    refine VO.ma rfl rfl rfl rfl ?_
    refine VO.nil ?_
    obtain rfl : k = n := by omega
    rw [repC_ints]
    refine VC.le _ (Le.boxRow1 (i := 0) rfl (by rw [intsL_len, List.length_replicate]) (capM (by omega))) ?_
    refine VC.ret ?_
    exact Exists.intro _ (And.intro (RetV.one Tryz.results89 (ResV.tmp rfl)) (⟨_, rfl, List.Mem.head _⟩))
theorem set_back {g : List Int} {i : Nat} {x v : Int} (hi : i < g.length) (h : g.getD i 0 = v) : (g.set i x).set i v = g := by
 rw [List.set_set, ← h]
 apply List.ext_getElem (by simp)
 intro j h1 h2
 rw [List.getElem_set]
 split
 ·rename_i e; subst e; simp [hi]
 ·rfl
def lsF (f : Nat → Int) (p : Int) : Int := if p < 0 then 0 else f p.toNat
section
variable {ms : List Mach} {ns : List NeedS}
def fstQ (ms : List Mach) (ns : List NeedS) : List Int := (fstR ms ns).getD []
theorem cyc_new {g : List Int} {i k : Nat} (hi : i < g.length) (h : g.getD i 0 = -1) (hk : k < ms.length) : (cycL ms ns (g.set i (k : Int))).getD k 0 = fstC ms ns g i k := by
 unfold cycL fstC
 rw [tabI_get hk, List.length_set, cyc_set hi h, if_pos ⟨hi, rfl⟩]
end
set_option maxRecDepth 100000 in
theorem rf_FirstPlan1 {ns : List NeedS} {i j : Int} (hn : needsF ns 1 1000 = 0) (hx : 0 ≤ i ∧ i.toNat < ns.length) (hy : 0 ≤ j ∧ j.toNat < ns.length) :
  Spec Tryz.prog 87 [avI i, avI j, .at_ 1 (fun _ => avL ns)] (fun y => y = avI (fstO1 ns i j)) := by
 have hnl := needsF_len hn
 have hd1 := needsF_count hn hx.2
 have hd2 := needsF_count hn hy.2
 refine Spec.of_VC Tryz.func87 rfl Tryz.ntmps87 (Nle rfl) fun w A hB => ?_
 have hnew : True := trivial
 refine VC.sr ?_
 refine VO.ma rfl rfl rfl rfl ?_
 refine VO.nil ?_
 refine VC.seq ?_
 refine VC.draw (fun _ => NoB) hB (by kernel_rfl) ?_
 refine VA.take (i := 0) rfl (by kernel_rfl) (by kernel_rfl) (by kernel_rfl) rfl rfl (OpV.load_at rfl hB OutW.wi0 Tryz.isAgg28 rfl rfl) ?_
 refine VA.take (i := 1) rfl (by kernel_rfl) (by kernel_rfl) (by kernel_rfl) rfl rfl (OpV.move (.inl rfl) rfl) ?_
 refine VA.take (i := 2) rfl (by kernel_rfl) (by kernel_rfl) (by kernel_rfl) rfl rfl (OpV.indexAddr_E rfl Tryz.underlying28 Tryz.sizeOf111 rfl rfl (Int.toNat_of_nonneg hy.1).symm (by omega)) ?_
 refine VA.take (i := 3) rfl (by kernel_rfl) (by kernel_rfl) (by kernel_rfl) rfl rfl (OpV.fieldAddr_atO 1 rfl Tryz.underlying111 rfl rfl Tryz.sizeOf3 rfl rfl) ?_
 refine VA.take (i := 4) rfl (by kernel_rfl) (by kernel_rfl) (by kernel_rfl) rfl rfl (OpV.load_at rfl hB OutW.wi0 Tryz.isAgg3 rfl rfl) ?_
 refine VA.take (i := 5) rfl (by kernel_rfl) (by kernel_rfl) (by kernel_rfl) rfl rfl (OpV.load_at rfl hB OutW.wi0 Tryz.isAgg28 rfl rfl) ?_
 refine VA.take (i := 6) rfl (by kernel_rfl) (by kernel_rfl) (by kernel_rfl) rfl rfl (OpV.move (.inl rfl) rfl) ?_
 refine VA.take (i := 7) rfl (by kernel_rfl) (by kernel_rfl) (by kernel_rfl) rfl rfl (OpV.indexAddr_E rfl Tryz.underlying28 Tryz.sizeOf111 rfl rfl (Int.toNat_of_nonneg hx.1).symm (by omega)) ?_
 refine VA.take (i := 8) rfl (by kernel_rfl) (by kernel_rfl) (by kernel_rfl) rfl rfl (OpV.fieldAddr_atO 1 rfl Tryz.underlying111 rfl rfl Tryz.sizeOf3 rfl rfl) ?_
 refine VA.take (i := 9) rfl (by kernel_rfl) (by kernel_rfl) (by kernel_rfl) rfl rfl (OpV.load_at rfl hB OutW.wi0 Tryz.isAgg3 rfl rfl) ?_
 refine VA.take (i := 10) rfl (by kernel_rfl) (by kernel_rfl) (by kernel_rfl) rfl rfl (OpV.sub rfl rfl rfl (by unfold fits; omega)) ?_
 refine VA.all (rs := [11]) (by kernel_rfl) (by decide) ?_
 refine ⟨⟨_, rfl, .inl rfl, ?_⟩, trivial⟩
 refine OpE.call rfl hB rfl Tryz.call88 rfl (SpecN.spec (rf_sign)) ?_
 rintro _ rfl
 refine VA.take (i := 12) rfl (by kernel_rfl) (by kernel_rfl) (by kernel_rfl) rfl rfl (OpV.move (.inr rfl) rfl) ?_
 refine VA.done (by kernel_rfl) ?_
 refine VC.ret ?_
 exact Exists.intro _ (And.intro (RetV.one Tryz.results87 (ResV.tmp rfl)) (by rw [cmpI_sub]; rfl))
set_option maxRecDepth 100000 in
set_option maxHeartbeats 16000000 in
theorem rf_FirstPlan {ms : List Mach} {ns : List NeedS} (hmf : machF ms = 0) (hnf : needsF ns 1 1000 = 0) (h19 : ns.length < 20) :
    Spec Tryz.prog 19 [avL ms, avL ns] (fun y => y = .tup [avInts (fstQ ms ns), avB (fstR ms ns).isSome]) := by
  have hM := MnOk.mk' hmf hnf
  have hlen := machF_len hmf
  refine Spec.of_VC Tryz.func19 rfl Tryz.ntmps19 (Nle rfl) fun w A hB => ?_
  have hnew : True := trivial
  refine VC.sr ?_
  refine VO.op rfl (OpE.box rfl hB rfl rfl rfl ?_)
  intro g3
  refine VO.ma rfl rfl rfl rfl ?_
  refine VO.ma rfl rfl rfl rfl ?_
  refine VO.nil ?_
  refine VC.seq ?_
  refine VC.le _ (Le.freezeAt (t := 3) (m := 1) (f := fun _ => avL ns) (i := 0) rfl rfl (Nat.le_refl _) (fun w Z u h => h.at_congr (g := fun _ => avL ns) (fun j hj => by rcases j with _ | j <;> first | rfl | omega)) hnew hB) ?_
  refine VC.region ?_
  refine VO.val rfl rfl (OpV.load_at rfl hB OutW.no Tryz.isAgg28 rfl rfl) ?_
  refine VO.val rfl rfl (OpV.len_im rfl Tryz.underlying28 rfl) ?_
  refine VO.op rfl (OpE.make rfl hB rfl Tryz.underlying22 (infoOf Tryz.t3 1 (by kernel_rfl) rfl rfl) (by decide) rfl rfl (n := ns.length) rfl rfl (by omega) (made_ints _) ?_)
  intro g21
  rw [intsL_len, List.length_replicate]
  refine VO.ma rfl rfl rfl rfl ?_
  refine VO.nil ?_
  refine VC.seq ?_
  refine VC.sr ?_
  refine VO.mv rfl rfl rfl rfl ?_
  refine VO.val rfl rfl (OpV.len_v rfl Tryz.underlying22 rfl) ?_
  refine VO.mv rfl rfl rfl rfl ?_
  refine VO.nil ?_
  refine VC.block ?_
  refine VC.loopK [(0, _), (3, _), (6, _), (23, _)] ⟨rfl, rfl, rfl, rfl, trivial⟩ ({q : Nat // q ≤ ns.length}) (fun (iZ : {q : Nat // q ≤ ns.length}) => match iZ with | ⟨q, hq⟩ => [(24, avI (q : Int))]) (fun (iZ : {q : Nat // q ≤ ns.length}) => match iZ with | ⟨q, hq⟩ => [.box g21 ⟨intsL (mixI q ns.length), 3, ns.length⟩]) (fun (iZ : {q : Nat // q ≤ ns.length}) => match iZ with | ⟨q, hq⟩ => 0) (fun (iZ : {q : Nat // q ≤ ns.length}) => match iZ with | ⟨q, hq⟩ => ns.length - q) ⟨0, Nat.zero_le _⟩ (Le.mk hB [0] ⟨rfl, rfl, rfl, rfl, rfl, trivial⟩ rfl rfl (Nat.le_refl _)) ?_
  rintro ⟨q, hq⟩
  show VC _ _ _ _ ⟨[(24, avI (q : Int))] ++ [(0, _), (3, _), (6, _), (23, _)], [.box g21 ⟨intsL (mixI q ns.length), 3, ns.length⟩], 0⟩
  have hml := mixI_len hq
  refine VC.sr ?_
  refine VO.val rfl rfl (OpV.lss rfl rfl rfl) ?_
  refine VO.nil ?_
  refine VC.seq ?_
  refine VC.cond rfl (fun aH1b => ?_) (fun aH1b => ?_)
  · have aH1 := aH1b
    try simp only [qqT, qqF, qqN, qqM, qqL, qqE] at aH1
    refine VC.skip ?_
    refine VC.seq ?_
    refine VC.block ?_
    refine VC.sr ?_
    refine VO.mv rfl rfl rfl rfl ?_
    refine VO.ma rfl rfl rfl rfl ?_
    refine VO.nil ?_
    refine VC.region ?_
    refine VO.mv rfl rfl rfl rfl ?_
    refine VO.mv rfl rfl rfl rfl ?_
    refine VO.mv rfl rfl rfl rfl ?_
    refine VO.val rfl rfl (OpV.indexAddr_o rfl Tryz.underlying22 Tryz.sizeOf3 rfl rfl rfl (by omega)) ?_
    refine VO.op rfl (OpE.store1 (i := 0) rfl hB rfl Tryz.sizeOf3 rfl rfl rfl rfl rfl rfl (by rw [intsL_len]; omega) ((intsL_set _ _ _).trans (congrArg intsL (mixI_set (by omega)))) trivial ?_)
    refine VO.nil ?_
    refine VC.region ?_
    refine VO.val rfl rfl (OpV.add rfl rfl rfl (by unfold fits; omega)) ?_
    refine VO.mv rfl rfl rfl rfl ?_
    refine VO.nil ?_
    exact Exists.intro (⟨q + 1, by omega⟩) (And.intro (Le.mk hB [0] ⟨rfl, rfl, rfl, rfl, rfl, trivial⟩ rfl rfl (Nat.le_refl _)) (by first | omega | (show _ < _; omega) | (simp only []; omega)))
  · have aH1 := aH1b
    try simp only [qqT, qqF, qqN, qqM, qqL, qqE] at aH1
    refine VC.exit ?_
    refine VC.seq ?_
    obtain rfl : q = ns.length := by omega
    rw [mixI_all]
    refine VC.le _ (Le.boxRow1 (i := 0) rfl (by rw [intsL_len, idO_len]) (by simp only [maxLen]; omega)) ?_
    refine VC.le _ (Le.pickH (hp := [.row (.slice (some ⟨g21, 0, none⟩) ns.length ns.length) (idO ns.length).length 1 (intsL (idO ns.length)) 3]) [0] rfl (by rw [idO_len]; rfl)) ?_
    refine VC.region ?_
    refine VO.mv rfl rfl rfl rfl ?_
    refine VO.val rfl rfl (OpV.makeFuncF1 rfl rfl) ?_
    refine VO.op rfl (OpE.callH0 rfl hB rfl Tryz.call86 rfl rfl (sortStable_int (c := fstO1 ns) (by rw [idO_len]; omega) Tryz.call87 (fun x y hx hy => rf_FirstPlan1 hnf (idO_mF hx) (idO_mF hy))) (List.Perm.refl _) (fun _ _ => trivial) ?_)
    rintro _ _ ⟨rfl, rfl⟩
    refine VO.nil ?_
    refine VC.seq ?_
    have hfl : (fstL ns).length = ns.length := by rw [(fstL_perm ns).length_eq, idO_len]
    refine VC.le _ (Le.rowI (t := 6) (i := 0) (xs := fstL ns) hB hnew rfl rfl (by rw [idO_len, hfl])) ?_
    refine VC.region ?_
    refine VO.op rfl (OpE.buildSlice (zc := #[.int .i64 0]) rfl hB rfl Tryz.underlying22 Tryz.sizeOf3 Tryz.zeroValue3 (by decide) (by decide) (by kernel_rfl) rfl rfl ?_)
    refine VO.le _ (Le.lits (t := 35) (xs := [-1]) rfl rfl) ?_
    refine VO.val rfl rfl (OpV.load_at rfl hB OutW.no Tryz.isAgg28 rfl rfl) ?_
    refine VO.val rfl rfl (OpV.len_im rfl Tryz.underlying28 rfl) ?_
    refine VO.op rfl (OpE.callR rfl hB rfl Tryz.call89 (slices_Repeat_R (x := -1) (n := ns.length) (by omega)) (ArgsP.cons (ArgP.ev rfl) (ArgsP.cons (ArgP.ev rfl) (ArgsP.nil))) ?_)
    intro u38
    obtain ⟨G0, hG0⟩ : ∃ G0, List.replicate ns.length (-1 : Int) = G0 := ⟨_, rfl⟩
    rw [hG0]
    have hI0 := FstI.zero (ns := ns) hmf (fstL ns)
    rw [hG0] at hI0
    have hR0 : fstG ms ns (fstL ns) G0 = fstR ms ns := by rw [← hG0]; rfl
    refine VO.ma rfl rfl rfl rfl ?_
    refine VO.nil ?_
    refine VC.seq ?_
    refine VC.sr ?_
    refine VO.mv rfl rfl rfl rfl ?_
    refine VO.val rfl rfl (OpV.len_im rfl Tryz.underlying22 rfl) ?_
    refine VO.mv rfl rfl rfl rfl ?_
    refine VO.nil ?_
    refine VC.block ?_
    refine VC.loopK [(0, _), (3, _), (39, _), (40, _)] ⟨rfl, rfl, rfl, rfl, trivial⟩ ({z : Value × Nat × List Int // z.2.1 ≤ ns.length ∧ FstI ms ns (fstL ns) z.2.1 z.2.2 ∧ fstG ms ns ((fstL ns).drop z.2.1) z.2.2 = fstR ms ns}) (fun (iZ : {z : Value × Nat × List Int // z.2.1 ≤ ns.length ∧ FstI ms ns (fstL ns) z.2.1 z.2.2 ∧ fstG ms ns ((fstL ns).drop z.2.1) z.2.2 = fstR ms ns}) => match iZ with | ⟨⟨u, q, g⟩, hq, hI, hG⟩ => [(8, .v u), (41, avI (q : Int))]) (fun (iZ : {z : Value × Nat × List Int // z.2.1 ≤ ns.length ∧ FstI ms ns (fstL ns) z.2.1 z.2.2 ∧ fstG ms ns ((fstL ns).drop z.2.1) z.2.2 = fstR ms ns}) => match iZ with | ⟨⟨u, q, g⟩, hq, hI, hG⟩ => [.row u ns.length 1 (intsL g) 3]) (fun (iZ : {z : Value × Nat × List Int // z.2.1 ≤ ns.length ∧ FstI ms ns (fstL ns) z.2.1 z.2.2 ∧ fstG ms ns ((fstL ns).drop z.2.1) z.2.2 = fstR ms ns}) => match iZ with | ⟨⟨u, q, g⟩, hq, hI, hG⟩ => 0) (fun (iZ : {z : Value × Nat × List Int // z.2.1 ≤ ns.length ∧ FstI ms ns (fstL ns) z.2.1 z.2.2 ∧ fstG ms ns ((fstL ns).drop z.2.1) z.2.2 = fstR ms ns}) => match iZ with | ⟨⟨u, q, g⟩, hq, hI, hG⟩ => ns.length - q) ⟨(u38, 0, G0), Nat.zero_le _, hI0, hR0⟩ (Le.mk hB [0] ⟨rfl, rfl, rfl, rfl, rfl, rfl, trivial⟩ rfl rfl (Nat.le_refl _)) ?_
    rintro ⟨⟨u, q, g⟩, hq, hI, hG⟩
    show VC _ _ _ _ ⟨[(8, .v u), (41, avI (q : Int))] ++ [(0, _), (3, _), (39, _), (40, _)], [.row u ns.length 1 (intsL g) 3], 0⟩
    simp only at hq hI hG
    have hgl := hI.len
    refine VC.sr ?_
    refine VO.val rfl rfl (OpV.lss rfl rfl rfl) ?_
    refine VO.nil ?_
    refine VC.seq ?_
    refine VC.cond rfl (fun aH2b => ?_) (fun aH2b => ?_)
    · have aH2 := aH2b
      try simp only [qqT, qqF, qqN, qqM, qqL, qqE] at aH2
      obtain ⟨i, hi, hin⟩ : ∃ i : Nat, (fstL ns).getD q 0 = (i : Int) ∧ i < ns.length := by
        have hx := (fstL_ord ns).lt ((fstL ns).getD q 0) (by rw [List.getD_eq_getElem?_getD, List.getElem?_eq_getElem (by omega)]; exact List.getElem_mem _)
        exact ⟨((fstL ns).getD q 0).toNat, by omega, by omega⟩
      have hnone := hI.none (fstL_ord ns).nd (by omega) hi hin
      refine VC.asBox (i := 0) (n := ns.length) (sz := 1) rfl (by omega) (fun gp cap hu hcap hmx => ?_)
      subst hu
      refine VC.skip ?_
      refine VC.seq ?_
      refine VC.block ?_
      refine VC.sr ?_
      refine VO.val rfl rfl (OpV.indexAddr_1 rfl Tryz.underlying22 Tryz.sizeOf3 rfl rfl rfl (by omega)) ?_
      refine VO.val rfl rfl (OpV.load_at rfl hB OutW.no Tryz.isAgg3 rfl rfl) ?_
      refine VO.le _ (Le.recast (t := 44) (y := avI (i : Int)) rfl (fun w Z u h => by rw [← hi]; exact h)) ?_
      refine VO.ma rfl rfl rfl rfl ?_
      refine VO.nil ?_
      refine VC.sr ?_
      refine VO.ma rfl rfl rfl rfl ?_
      refine VO.ma rfl rfl rfl rfl ?_
      refine VO.nil ?_
      refine VC.seq ?_
      refine VC.sr ?_
      refine VO.mv rfl rfl rfl rfl ?_
      refine VO.val rfl rfl (OpV.len_im rfl Tryz.underlying26 rfl) ?_
      refine VO.mv rfl rfl rfl rfl ?_
      refine VO.nil ?_
      refine VC.block ?_
      refine VC.loopK [(0, _), (3, _), (8, _), (10, _), (39, _), (40, _), (41, _), (45, _), (46, _)] ⟨rfl, rfl, rfl, rfl, rfl, rfl, rfl, rfl, rfl, trivial⟩ ({k : Nat // k ≤ ms.length}) (fun (iZ : {k : Nat // k ≤ ms.length}) => match iZ with | ⟨k, hk⟩ => [(11, avI (pckF (fstC ms ns g i) (fstO ms ns g i) k)), (12, avI (lsF (fstC ms ns g i) (pckF (fstC ms ns g i) (fstO ms ns g i) k))), (47, avI (k : Int))]) (fun (iZ : {k : Nat // k ≤ ms.length}) => match iZ with | ⟨k, hk⟩ => [.box gp ⟨intsL g, 3, cap * 1⟩]) (fun (iZ : {k : Nat // k ≤ ms.length}) => match iZ with | ⟨k, hk⟩ => 0) (fun (iZ : {k : Nat // k ≤ ms.length}) => match iZ with | ⟨k, hk⟩ => ms.length - k) ⟨0, Nat.zero_le _⟩ (Le.mk hB [0] ⟨rfl, rfl, rfl, rfl, rfl, rfl, rfl, rfl, rfl, rfl, rfl, rfl, trivial⟩ rfl rfl (Nat.le_refl _)) ?_
      rintro ⟨k, hk⟩
      show VC _ _ _ _ ⟨[(11, avI (pckF (fstC ms ns g i) (fstO ms ns g i) k)), (12, avI (lsF (fstC ms ns g i) (pckF (fstC ms ns g i) (fstO ms ns g i) k))), (47, avI (k : Int))] ++ [(0, _), (3, _), (8, _), (10, _), (39, _), (40, _), (41, _), (45, _), (46, _)], [.box gp ⟨intsL g, 3, cap * 1⟩], 0⟩
      have hpb := pck_bd (fstC ms ns g i) (fstO ms ns g i) k
      have hls : ¬ pckF (fstC ms ns g i) (fstO ms ns g i) k < 0 → lsF (fstC ms ns g i) (pckF (fstC ms ns g i) (fstO ms ns g i) k) = fstC ms ns g i (pckF (fstC ms ns g i) (fstO ms ns g i) k).toNat := fun h => if_neg h
      refine VC.sr ?_
      refine VO.val rfl rfl (OpV.lss rfl rfl rfl) ?_
      refine VO.nil ?_
      refine VC.seq ?_
      refine VC.cond rfl (fun aH3b => ?_) (fun aH3b => ?_)
      · have aH3 := aH3b
        try simp only [qqT, qqF, qqN, qqM, qqL, qqE] at aH3
        refine VC.skip ?_
        refine VC.seq ?_
        refine VC.block ?_
        refine VC.sr ?_
        refine VO.mv rfl rfl rfl rfl ?_
        refine VO.val rfl rfl (OpV.indexAddr_E rfl Tryz.underlying26 Tryz.sizeOf106 rfl rfl rfl (by omega)) ?_
        refine VO.val rfl rfl (OpV.loadK_at rfl hB OutW.no Tryz.isAgg106 Tryz.sizeOf106 rfl rfl) ?_
        refine VO.op rfl (OpE.alloc rfl hB rfl Tryz.zeroValue106 rfl ?_)
        intro g14
        refine VO.ma rfl rfl rfl rfl ?_
        refine VO.op rfl (OpE.store (i := 1) rfl hB rfl Tryz.sizeOf106 rfl rfl rfl rfl rfl rfl (Nle rfl) trivial ?_)
        refine VO.nil ?_
        refine VC.sr ?_
        refine VO.ma rfl rfl rfl rfl ?_
        refine VO.nil ?_
        refine VC.seq ?_
        refine VC.sr ?_
        refine VO.mv rfl rfl rfl rfl ?_
        refine VO.val rfl rfl (OpV.len_v rfl Tryz.underlying22 rfl) ?_
        refine VO.mv rfl rfl rfl rfl ?_
        refine VO.nil ?_
        refine VC.block ?_
        refine VC.loopK [(0, _), (3, _), (8, _), (10, _), (11, _), (12, _), (13, _), (14, _), (39, _), (40, _), (41, _), (45, _), (46, _), (47, _), (52, _), (53, _)] ⟨rfl, rfl, rfl, rfl, rfl, rfl, rfl, rfl, rfl, rfl, rfl, rfl, rfl, rfl, rfl, rfl, trivial⟩ ({r : Nat // r ≤ ns.length}) (fun (iZ : {r : Nat // r ≤ ns.length}) => match iZ with | ⟨r, hr⟩ => [(15, avI (cnt g k r)), (54, avI (r : Int))]) (fun (iZ : {r : Nat // r ≤ ns.length}) => match iZ with | ⟨r, hr⟩ => [.box gp ⟨intsL g, 3, cap * 1⟩, .box g14 ⟨tab 5 (Sxc.cell (ms.getD k default)), 106, 5⟩]) (fun (iZ : {r : Nat // r ≤ ns.length}) => match iZ with | ⟨r, hr⟩ => 0) (fun (iZ : {r : Nat // r ≤ ns.length}) => match iZ with | ⟨r, hr⟩ => ns.length - r) ⟨0, Nat.zero_le _⟩ (Le.mk hB [0, 1] ⟨rfl, rfl, rfl, rfl, rfl, rfl, rfl, rfl, rfl, rfl, rfl, rfl, rfl, rfl, rfl, rfl, rfl, rfl, trivial⟩ rfl rfl (Nat.le_refl _)) ?_
        rintro ⟨r, hr⟩
        show VC _ _ _ _ ⟨[(15, avI (cnt g k r)), (54, avI (r : Int))] ++ [(0, _), (3, _), (8, _), (10, _), (11, _), (12, _), (13, _), (14, _), (39, _), (40, _), (41, _), (45, _), (46, _), (47, _), (52, _), (53, _)], [.box gp ⟨intsL g, 3, cap * 1⟩, .box g14 ⟨tab 5 (Sxc.cell (ms.getD k default)), 106, 5⟩], 0⟩
        have hcn := cnt_le g k r
        refine VC.sr ?_
        refine VO.val rfl rfl (OpV.lss rfl rfl rfl) ?_
        refine VO.nil ?_
        refine VC.seq ?_
        refine VC.cond rfl (fun aH4b => ?_) (fun aH4b => ?_)
        · have aH4 := aH4b
          try simp only [qqT, qqF, qqN, qqM, qqL, qqE] at aH4
          refine VC.skip ?_
          refine VC.seq ?_
          refine VC.block ?_
          refine VC.sr ?_
          refine VO.val rfl rfl (OpV.indexAddr_o rfl Tryz.underlying22 Tryz.sizeOf3 rfl rfl rfl (by omega)) ?_
          refine VO.val rfl rfl (OpV.load_own (i := 0) rfl hB Tryz.isAgg3 rfl rfl (intsL_get (by omega)) (fun h => h)) ?_
          refine VO.ma rfl rfl rfl rfl ?_
          refine VO.nil ?_
          refine VC.sr ?_
          refine VO.mv rfl rfl rfl rfl ?_
          refine VO.mv rfl rfl rfl rfl ?_
          refine VO.val rfl rfl (OpV.eql rfl rfl rfl) ?_
          refine VO.nil ?_
          refine VC.cond rfl (fun h4b => ?_) (fun h4b => ?_)
          · have h4 := h4b
            try simp only [qqT, qqF, qqN, qqM, qqL, qqE] at h4
            refine VC.region ?_
            refine VO.mv rfl rfl rfl rfl ?_
            refine VO.val rfl rfl (OpV.add rfl rfl rfl (by unfold fits; omega)) ?_
            refine VO.ma rfl rfl rfl rfl ?_
            refine VO.nil ?_
            refine VC.region ?_
            refine VO.val rfl rfl (OpV.add rfl rfl rfl (by unfold fits; omega)) ?_
            refine VO.mv rfl rfl rfl rfl ?_
            refine VO.nil ?_
            exact Exists.intro (⟨r + 1, by omega⟩) (And.intro (Le.mk hB [0, 1] ⟨(by dsimp only; rw [cnt]; first | (rw [if_pos (by assumption)]; rfl) | (rw [if_neg (by assumption), Int.add_zero]; rfl)), rfl, rfl, rfl, rfl, rfl, rfl, rfl, rfl, rfl, rfl, rfl, rfl, rfl, rfl, rfl, rfl, rfl, trivial⟩ rfl rfl (Nat.le_refl _)) (by first | omega | (show _ < _; omega) | (simp only []; omega)))
          · have h4 := h4b
            try simp only [qqT, qqF, qqN, qqM, qqL, qqE] at h4
            refine VC.skip ?_
            refine VC.region ?_
            refine VO.val rfl rfl (OpV.add rfl rfl rfl (by unfold fits; omega)) ?_
            refine VO.mv rfl rfl rfl rfl ?_
            refine VO.nil ?_
            exact Exists.intro (⟨r + 1, by omega⟩) (And.intro (Le.mk hB [0, 1] ⟨(by dsimp only; rw [cnt]; first | (rw [if_pos (by assumption)]; rfl) | (rw [if_neg (by assumption), Int.add_zero]; rfl)), rfl, rfl, rfl, rfl, rfl, rfl, rfl, rfl, rfl, rfl, rfl, rfl, rfl, rfl, rfl, rfl, rfl, trivial⟩ rfl rfl (Nat.le_refl _)) (by first | omega | (show _ < _; omega) | (simp only []; omega)))
        · have aH4 := aH4b
          try simp only [qqT, qqF, qqN, qqM, qqL, qqE] at aH4
          obtain rfl : r = g.length := by omega
          refine VC.exit ?_
          refine VC.seq ?_
          refine VC.seq ?_
          refine VC.draw (fun _ => NoB) hB (by kernel_rfl) ?_
          refine VA.take (i := 0) rfl (by kernel_rfl) (by kernel_rfl) (by kernel_rfl) rfl rfl (OpV.move (.inl rfl) rfl) ?_
          refine VA.take (i := 1) rfl (by kernel_rfl) (by kernel_rfl) (by kernel_rfl) rfl rfl (OpV.fieldAddrO 3 rfl Tryz.underlying106 rfl rfl Tryz.sizeOf3 rfl) ?_
          refine VA.take (i := 2) rfl (by kernel_rfl) (by kernel_rfl) (by kernel_rfl) rfl rfl (OpV.load_own (i := 1) rfl hB Tryz.isAgg3 rfl rfl rfl Wi.not0) ?_
          refine VA.take (i := 3) rfl (by kernel_rfl) (by kernel_rfl) (by kernel_rfl) rfl rfl (OpV.geq rfl rfl rfl) ?_
          refine VA.take (i := 4) rfl (by kernel_rfl) (by kernel_rfl) (by kernel_rfl) rfl rfl (OpV.move (.inl rfl) rfl) ?_
          refine VA.split (t := 68) rfl (fun aK5b => ?_) (fun aK5b => ?_)
          · have aK5 := aK5b
            try simp only [qqT, qqF, qqN, qqM, qqL, qqE] at aK5
            refine VA.takeX (i := 5) rfl (by kernel_rfl) (by kernel_rfl) (by kernel_rfl) rfl rfl rfl rfl aK5b ?_
            refine VA.takeX (i := 6) rfl (by kernel_rfl) (by kernel_rfl) (by kernel_rfl) rfl rfl rfl rfl aK5b ?_
            refine VA.takeX (i := 7) rfl (by kernel_rfl) (by kernel_rfl) (by kernel_rfl) rfl rfl rfl rfl aK5b ?_
            refine VA.takeX (i := 8) rfl (by kernel_rfl) (by kernel_rfl) (by kernel_rfl) rfl rfl rfl rfl aK5b ?_
            refine VA.takeX (i := 9) rfl (by kernel_rfl) (by kernel_rfl) (by kernel_rfl) rfl rfl rfl rfl aK5b ?_
            refine VA.takeX (i := 10) rfl (by kernel_rfl) (by kernel_rfl) (by kernel_rfl) rfl rfl rfl rfl aK5b ?_
            refine VA.takeX (i := 11) rfl (by kernel_rfl) (by kernel_rfl) (by kernel_rfl) rfl rfl rfl rfl aK5b ?_
            refine VA.takeX (i := 12) rfl (by kernel_rfl) (by kernel_rfl) (by kernel_rfl) rfl rfl rfl rfl aK5b ?_
            refine VA.takeX (i := 13) rfl (by kernel_rfl) (by kernel_rfl) (by kernel_rfl) rfl rfl rfl rfl aK5b ?_
            refine VA.take (i := 14) rfl (by kernel_rfl) (by kernel_rfl) (by kernel_rfl) rfl rfl (OpV.pickT rfl rfl rfl rfl aK5b) ?_
            refine VA.done (by kernel_rfl) ?_
            refine VC.condT rfl rfl ?_
            refine VC.exit ?_
            refine VC.region ?_
            refine VO.val rfl rfl (OpV.add rfl rfl rfl (by unfold fits; omega)) ?_
            refine VO.mv rfl rfl rfl rfl ?_
            refine VO.nil ?_
            exact Exists.intro (⟨k + 1, by omega⟩) (And.intro (Le.mk hB [0] ⟨(by dsimp only; first | (rw [pck_n1 (fstO_f1 (by assumption))]; rfl) | (rw [pck_n1 (fstO_f2 (by omega))]; rfl) | (rw [pck_y (fstO_t (by assumption) (by omega)) (.inl (by assumption))]; rfl) | (rw [pck_y (fstO_t (by assumption) (by omega)) (.inr (by have := hls (by omega); omega))]; rfl) | (rw [pck_n2 (by omega) (by have := hls (by omega); omega)]; rfl)), (by dsimp only; first | (rw [pck_n1 (fstO_f1 (by assumption))]; rfl) | (rw [pck_n1 (fstO_f2 (by omega))]; rfl) | (rw [pck_y (fstO_t (by assumption) (by omega)) (.inl (by assumption))]; rfl) | (rw [pck_y (fstO_t (by assumption) (by omega)) (.inr (by have := hls (by omega); omega))]; rfl) | (rw [pck_n2 (by omega) (by have := hls (by omega); omega)]; rfl)), rfl, rfl, rfl, rfl, rfl, rfl, rfl, rfl, rfl, rfl, trivial⟩ rfl rfl (Nat.le_refl _)) (by first | omega | (show _ < _; omega) | (simp only []; omega)))
          · have aK5 := aK5b
            try simp only [qqT, qqF, qqN, qqM, qqL, qqE] at aK5
            refine VA.takeY (i := 5) rfl (by kernel_rfl) (by kernel_rfl) (by kernel_rfl) rfl rfl rfl rfl aK5b (OpV.fieldAddrO 4 rfl Tryz.underlying106 rfl rfl Tryz.sizeOf40 rfl) ?_
            refine VA.takeY (i := 6) rfl (by kernel_rfl) (by kernel_rfl) (by kernel_rfl) rfl rfl rfl rfl aK5b (OpV.load_own (i := 1) rfl hB Tryz.isAgg40 rfl rfl rfl Wi.not0) ?_
            refine VA.takeY (i := 7) rfl (by kernel_rfl) (by kernel_rfl) (by kernel_rfl) rfl rfl rfl rfl aK5b (OpV.load_at rfl hB OutW.wi0 Tryz.isAgg28 rfl rfl) ?_
            refine VA.takeY (i := 8) rfl (by kernel_rfl) (by kernel_rfl) (by kernel_rfl) rfl rfl rfl rfl aK5b (OpV.move (.inl rfl) rfl) ?_
            refine VA.takeY (i := 9) rfl (by kernel_rfl) (by kernel_rfl) (by kernel_rfl) rfl rfl rfl rfl aK5b (OpV.indexAddr_E rfl Tryz.underlying28 Tryz.sizeOf111 rfl rfl rfl (by omega)) ?_
            refine VA.takeY (i := 10) rfl (by kernel_rfl) (by kernel_rfl) (by kernel_rfl) rfl rfl rfl rfl aK5b (OpV.fieldAddr_atO 0 rfl Tryz.underlying111 rfl rfl Tryz.sizeOf9 rfl rfl) ?_
            refine VA.takeY (i := 11) rfl (by kernel_rfl) (by kernel_rfl) (by kernel_rfl) rfl rfl rfl rfl aK5b (OpV.load_at rfl hB OutW.wi0 Tryz.isAgg9 rfl rfl) ?_
            refine VA.all (rs := [12]) (by kernel_rfl) (by decide) ?_
            refine ⟨⟨_, rfl, .inr ⟨_, _, _, rfl, rfl, (look_k rfl aK5b)⟩, ?_⟩, trivial⟩
            refine OpE.call rfl hB rfl Tryz.call67 rfl (SpecN.spec (slices_Contains_str (by have := canF_keys (machF_each hmf (i := k) (by omega)).2; omega))) ?_
            rintro _ rfl
            refine VA.takeY (i := 13) rfl (by kernel_rfl) (by kernel_rfl) (by kernel_rfl) rfl rfl rfl rfl aK5b (OpV.not rfl rfl) ?_
            refine VA.take (i := 14) rfl (by kernel_rfl) (by kernel_rfl) (by kernel_rfl) rfl rfl (OpV.pickF rfl rfl rfl rfl aK5b) ?_
            refine VA.done (by kernel_rfl) ?_
            refine VC.cond rfl (fun h5b => ?_) (fun h5b => ?_)
            · have h5 := h5b
              try simp only [qqT, qqF, qqN, qqM, qqL, qqE] at h5
              refine VC.exit ?_
              refine VC.region ?_
              refine VO.val rfl rfl (OpV.add rfl rfl rfl (by unfold fits; omega)) ?_
              refine VO.mv rfl rfl rfl rfl ?_
              refine VO.nil ?_
              exact Exists.intro (⟨k + 1, by omega⟩) (And.intro (Le.mk hB [0] ⟨(by dsimp only; first | (rw [pck_n1 (fstO_f1 (by assumption))]; rfl) | (rw [pck_n1 (fstO_f2 (by omega))]; rfl) | (rw [pck_y (fstO_t (by assumption) (by omega)) (.inl (by assumption))]; rfl) | (rw [pck_y (fstO_t (by assumption) (by omega)) (.inr (by have := hls (by omega); omega))]; rfl) | (rw [pck_n2 (by omega) (by have := hls (by omega); omega)]; rfl)), (by dsimp only; first | (rw [pck_n1 (fstO_f1 (by assumption))]; rfl) | (rw [pck_n1 (fstO_f2 (by omega))]; rfl) | (rw [pck_y (fstO_t (by assumption) (by omega)) (.inl (by assumption))]; rfl) | (rw [pck_y (fstO_t (by assumption) (by omega)) (.inr (by have := hls (by omega); omega))]; rfl) | (rw [pck_n2 (by omega) (by have := hls (by omega); omega)]; rfl)), rfl, rfl, rfl, rfl, rfl, rfl, rfl, rfl, rfl, rfl, trivial⟩ rfl rfl (Nat.le_refl _)) (by first | omega | (show _ < _; omega) | (simp only []; omega)))
            · have h5 := h5b
              try simp only [qqT, qqF, qqN, qqM, qqL, qqE] at h5
              refine VC.skip ?_
              refine VC.sr ?_
              refine VO.mv rfl rfl rfl rfl ?_
              refine VO.mv rfl rfl rfl rfl ?_
              refine VO.mv rfl rfl rfl rfl ?_
              refine VO.val rfl rfl (OpV.indexAddr_o rfl Tryz.underlying22 Tryz.sizeOf3 rfl rfl rfl (by omega)) ?_
              refine VO.op rfl (OpE.store1 (i := 0) rfl hB rfl Tryz.sizeOf3 rfl rfl rfl rfl rfl rfl (by rw [intsL_len]; omega) (intsL_set _ _ _) trivial ?_)
              refine VO.nil ?_
              refine VC.seq ?_
              refine VC.sr ?_
              refine VO.mv rfl rfl rfl rfl ?_
              refine VO.val rfl rfl (OpV.load_at rfl hB OutW.no Tryz.isAgg28 rfl rfl) ?_
              refine VO.mv rfl rfl rfl rfl ?_
              refine VO.op rfl (OpE.callL rfl hB rfl Tryz.call90 (rf_CyclesOf_G hmf hnf (by rw [List.length_set]; omega)) (ArgsP.cons (ArgP.ev rfl) (ArgsP.cons (ArgP.ev rfl) (ArgsP.cons (ArgP.boxI (i := 0) rfl rfl (by rw [List.length_set, hgl]) hcap hmx) (ArgsP.nil)))) ?_)
              rintro _ rfl
              refine VO.mv rfl rfl rfl rfl ?_
              refine VO.val rfl rfl (OpV.indexAddr_1 rfl Tryz.underlying22 Tryz.sizeOf3 rfl rfl rfl (by rw [cycL_len]; omega)) ?_
              refine VO.val rfl rfl (OpV.load_at rfl hB OutW.no Tryz.isAgg3 rfl rfl) ?_
              refine VO.le _ (Le.recast (t := 89) (y := avI (fstC ms ns g i k)) rfl (fun w Z u h => by rw [← cyc_new (by omega) hnone (by omega)]; exact h)) ?_
              refine VO.ma rfl rfl rfl rfl ?_
              refine VO.nil ?_
              refine VC.sr ?_
              refine VO.mv rfl rfl rfl rfl ?_
              refine VO.val rfl rfl (OpV.lss rfl rfl rfl) ?_
              refine VO.mv rfl rfl rfl rfl ?_
              refine VO.opG rfl rfl rfl rfl (fun aK6b => ?_) (fun aK6b => ?_)
              · replace aK6b : _ = false := aK6b
                have aK6 := aK6b
                try simp only [qqT, qqF, qqN, qqM, qqL, qqE] at aK6
                refine OpE.val (W := NoB) (OpV.move (.inl rfl) rfl) rfl ?_
                refine VO.opY rfl rfl rfl rfl aK6b ?_
                refine OpE.val (W := NoB) (OpV.move (.inl rfl) rfl) rfl ?_
                refine VO.opY rfl rfl rfl rfl aK6b ?_
                refine OpE.val (W := NoB) (OpV.lss rfl rfl rfl) rfl ?_
                refine VO.val rfl rfl (OpV.pickF rfl rfl rfl rfl aK6b) ?_
                refine VO.nil ?_
                refine VC.cond rfl (fun h6b => ?_) (fun h6b => ?_)
                · have h6 := h6b
                  try simp only [qqT, qqF, qqN, qqM, qqL, qqE] at h6
                  refine VC.region ?_
                  refine VO.mv rfl rfl rfl rfl ?_
                  refine VO.mv rfl rfl rfl rfl ?_
                  refine VO.ma rfl rfl rfl rfl ?_
                  refine VO.ma rfl rfl rfl rfl ?_
                  refine VO.nil ?_
                  refine VC.region ?_
                  refine VO.mv rfl rfl rfl rfl ?_
                  refine VO.mv rfl rfl rfl rfl ?_
                  refine VO.val rfl rfl (OpV.indexAddr_o rfl Tryz.underlying22 Tryz.sizeOf3 rfl rfl rfl (by omega)) ?_
                  refine VO.op rfl (OpE.store1 (i := 0) rfl hB rfl Tryz.sizeOf3 rfl rfl rfl rfl rfl rfl (by rw [intsL_len, List.length_set]; omega) ((intsL_set _ _ _).trans (congrArg intsL (set_back (by omega) hnone))) trivial ?_)
                  refine VO.nil ?_
                  refine VC.region ?_
                  refine VO.val rfl rfl (OpV.add rfl rfl rfl (by unfold fits; omega)) ?_
                  refine VO.mv rfl rfl rfl rfl ?_
                  refine VO.nil ?_
                  exact Exists.intro (⟨k + 1, by omega⟩) (And.intro (Le.mk hB [0] ⟨(by dsimp only; first | (rw [pck_n1 (fstO_f1 (by assumption))]; rfl) | (rw [pck_n1 (fstO_f2 (by omega))]; rfl) | (rw [pck_y (fstO_t (by assumption) (by omega)) (.inl (by assumption))]; rfl) | (rw [pck_y (fstO_t (by assumption) (by omega)) (.inr (by have := hls (by omega); omega))]; rfl) | (rw [pck_n2 (by omega) (by have := hls (by omega); omega)]; rfl)), (by dsimp only; first | (rw [pck_n1 (fstO_f1 (by assumption))]; rfl) | (rw [pck_n1 (fstO_f2 (by omega))]; rfl) | (rw [pck_y (fstO_t (by assumption) (by omega)) (.inl (by assumption))]; rfl) | (rw [pck_y (fstO_t (by assumption) (by omega)) (.inr (by have := hls (by omega); omega))]; rfl) | (rw [pck_n2 (by omega) (by have := hls (by omega); omega)]; rfl)), rfl, rfl, rfl, rfl, rfl, rfl, rfl, rfl, rfl, rfl, trivial⟩ rfl rfl (Nat.le_refl _)) (by first | omega | (show _ < _; omega) | (simp only []; omega)))
                · have h6 := h6b
                  try simp only [qqT, qqF, qqN, qqM, qqL, qqE] at h6
                  refine VC.skip ?_
                  refine VC.region ?_
                  refine VO.mv rfl rfl rfl rfl ?_
                  refine VO.mv rfl rfl rfl rfl ?_
                  refine VO.val rfl rfl (OpV.indexAddr_o rfl Tryz.underlying22 Tryz.sizeOf3 rfl rfl rfl (by omega)) ?_
                  refine VO.op rfl (OpE.store1 (i := 0) rfl hB rfl Tryz.sizeOf3 rfl rfl rfl rfl rfl rfl (by rw [intsL_len, List.length_set]; omega) ((intsL_set _ _ _).trans (congrArg intsL (set_back (by omega) hnone))) trivial ?_)
                  refine VO.nil ?_
                  refine VC.region ?_
                  refine VO.val rfl rfl (OpV.add rfl rfl rfl (by unfold fits; omega)) ?_
                  refine VO.mv rfl rfl rfl rfl ?_
                  refine VO.nil ?_
                  exact Exists.intro (⟨k + 1, by omega⟩) (And.intro (Le.mk hB [0] ⟨(by dsimp only; first | (rw [pck_n1 (fstO_f1 (by assumption))]; rfl) | (rw [pck_n1 (fstO_f2 (by omega))]; rfl) | (rw [pck_y (fstO_t (by assumption) (by omega)) (.inl (by assumption))]; rfl) | (rw [pck_y (fstO_t (by assumption) (by omega)) (.inr (by have := hls (by omega); omega))]; rfl) | (rw [pck_n2 (by omega) (by have := hls (by omega); omega)]; rfl)), (by dsimp only; first | (rw [pck_n1 (fstO_f1 (by assumption))]; rfl) | (rw [pck_n1 (fstO_f2 (by omega))]; rfl) | (rw [pck_y (fstO_t (by assumption) (by omega)) (.inl (by assumption))]; rfl) | (rw [pck_y (fstO_t (by assumption) (by omega)) (.inr (by have := hls (by omega); omega))]; rfl) | (rw [pck_n2 (by omega) (by have := hls (by omega); omega)]; rfl)), rfl, rfl, rfl, rfl, rfl, rfl, rfl, rfl, rfl, rfl, trivial⟩ rfl rfl (Nat.le_refl _)) (by first | omega | (show _ < _; omega) | (simp only []; omega)))
              · replace aK6b : _ = true := aK6b
                have aK6 := aK6b
                try simp only [qqT, qqF, qqN, qqM, qqL, qqE] at aK6
                refine VO.opX rfl rfl rfl rfl aK6b ?_
                refine VO.opX rfl rfl rfl rfl aK6b ?_
                refine VO.val rfl rfl (OpV.pickT rfl rfl rfl rfl aK6b) ?_
                refine VO.nil ?_
                refine VC.condT rfl rfl ?_
                refine VC.region ?_
                refine VO.mv rfl rfl rfl rfl ?_
                refine VO.mv rfl rfl rfl rfl ?_
                refine VO.ma rfl rfl rfl rfl ?_
                refine VO.ma rfl rfl rfl rfl ?_
                refine VO.nil ?_
                refine VC.region ?_
                refine VO.mv rfl rfl rfl rfl ?_
                refine VO.mv rfl rfl rfl rfl ?_
                refine VO.val rfl rfl (OpV.indexAddr_o rfl Tryz.underlying22 Tryz.sizeOf3 rfl rfl rfl (by omega)) ?_
                refine VO.op rfl (OpE.store1 (i := 0) rfl hB rfl Tryz.sizeOf3 rfl rfl rfl rfl rfl rfl (by rw [intsL_len, List.length_set]; omega) ((intsL_set _ _ _).trans (congrArg intsL (set_back (by omega) hnone))) trivial ?_)
                refine VO.nil ?_
                refine VC.region ?_
                refine VO.val rfl rfl (OpV.add rfl rfl rfl (by unfold fits; omega)) ?_
                refine VO.mv rfl rfl rfl rfl ?_
                refine VO.nil ?_
                exact Exists.intro (⟨k + 1, by omega⟩) (And.intro (Le.mk hB [0] ⟨(by dsimp only; first | (rw [pck_n1 (fstO_f1 (by assumption))]; rfl) | (rw [pck_n1 (fstO_f2 (by omega))]; rfl) | (rw [pck_y (fstO_t (by assumption) (by omega)) (.inl (by assumption))]; rfl) | (rw [pck_y (fstO_t (by assumption) (by omega)) (.inr (by have := hls (by omega); omega))]; rfl) | (rw [pck_n2 (by omega) (by have := hls (by omega); omega)]; rfl)), (by dsimp only; first | (rw [pck_n1 (fstO_f1 (by assumption))]; rfl) | (rw [pck_n1 (fstO_f2 (by omega))]; rfl) | (rw [pck_y (fstO_t (by assumption) (by omega)) (.inl (by assumption))]; rfl) | (rw [pck_y (fstO_t (by assumption) (by omega)) (.inr (by have := hls (by omega); omega))]; rfl) | (rw [pck_n2 (by omega) (by have := hls (by omega); omega)]; rfl)), rfl, rfl, rfl, rfl, rfl, rfl, rfl, rfl, rfl, rfl, trivial⟩ rfl rfl (Nat.le_refl _)) (by first | omega | (show _ < _; omega) | (simp only []; omega)))
      · have aH3 := aH3b
        try simp only [qqT, qqF, qqN, qqM, qqL, qqE] at aH3
        refine VC.exit ?_
        refine VC.seq ?_
        refine VC.sr ?_
        refine VO.mv rfl rfl rfl rfl ?_
        refine VO.val rfl rfl (OpV.lss rfl rfl rfl) ?_
        refine VO.nil ?_
        refine VC.cond rfl (fun h7b => ?_) (fun h7b => ?_)
        · have h7 := h7b
          try simp only [qqT, qqF, qqN, qqM, qqL, qqE] at h7
          have hnn : fstR ms ns = none := by
            obtain rfl : k = ms.length := by omega
            rw [← hG, fstG_step (by omega), hi, Int.toNat_natCast, if_pos (show fstB ms ns g i < 0 from h7)]
          refine VC.sr ?_
          refine VO.ma rfl rfl rfl rfl ?_
          refine VO.ma rfl rfl rfl rfl ?_
          refine VO.nil ?_
          refine VC.le _ (Le.recast (t := 4) (y := avInts []) rfl (fun w Z u h => by rw [h.eq_v]; exact .nil _ _)) ?_
          refine VC.ret ?_
          exact Exists.intro _ (And.intro (RetV.two Tryz.results19 (ResV.tmp rfl) (ResV.tmp rfl)) (by rw [fstQ, hnn]; rfl))
        · have h7 := h7b
          try simp only [qqT, qqF, qqN, qqM, qqL, qqE] at h7
          obtain rfl : k = ms.length := by omega
          obtain ⟨kb, hkb, hkl, hk1, hk2⟩ := fstB_in (ms := ms) (ns := ns) (g := g) (i := i) (show ¬ fstB ms ns g i < 0 from Int.not_lt.2 h7)
          have hG2 : fstG ms ns ((fstL ns).drop (q + 1)) (g.set i (kb : Int)) = fstR ms ns := by
            have h := fstG_step (ms := ms) (ns := ns) (l := fstL ns) (g := g) (q := q) (by omega)
            rw [hG, hi, Int.toNat_natCast, if_neg (by omega), hkb] at h; exact h.symm
          refine VC.le _ (Le.recast (t := 11) (y := avI (kb : Int)) rfl (fun w Z u h => by rw [← hkb]; exact h)) ?_
          refine VC.skip ?_
          refine VC.region ?_
          refine VO.mv rfl rfl rfl rfl ?_
          refine VO.mv rfl rfl rfl rfl ?_
          refine VO.mv rfl rfl rfl rfl ?_
          refine VO.val rfl rfl (OpV.indexAddr_o rfl Tryz.underlying22 Tryz.sizeOf3 rfl rfl rfl (by omega)) ?_
          refine VO.op rfl (OpE.store1 (i := 0) rfl hB rfl Tryz.sizeOf3 rfl rfl rfl rfl rfl rfl (by rw [intsL_len]; omega) (intsL_set _ _ _) trivial ?_)
          refine VO.nil ?_
          refine VC.le _ (Le.boxRow (i := 0) (n := ns.length) (sz := 1) (cap := cap) rfl (by rw [intsL_len, List.length_set, hgl, Nat.mul_one]) hcap hmx) ?_
          refine VC.region ?_
          refine VO.val rfl rfl (OpV.add rfl rfl rfl (by unfold fits; omega)) ?_
          refine VO.mv rfl rfl rfl rfl ?_
          refine VO.nil ?_
          exact Exists.intro (⟨(.slice (some ⟨gp, 0, none⟩) ns.length cap, q + 1, g.set i (kb : Int)), by show q + 1 ≤ _; omega, hI.step (fstL_ord ns).nd (by omega) hi hin hkl hk1 hk2, hG2⟩) (And.intro (Le.mk hB [0] ⟨rfl, rfl, rfl, rfl, rfl, rfl, trivial⟩ rfl rfl (Nat.le_refl _)) (by first | omega | (show _ < _; omega) | (simp only []; omega)))
    · have aH2 := aH2b
      try simp only [qqT, qqF, qqN, qqM, qqL, qqE] at aH2
      refine VC.exit ?_
      refine VC.sr ?_
      refine VO.mv rfl rfl rfl rfl ?_
      refine VO.ma rfl rfl rfl rfl ?_
      refine VO.ma rfl rfl rfl rfl ?_
      refine VO.nil ?_
      obtain rfl : q = ns.length := by omega
      have hsm : fstR ms ns = some g := by rw [← hG, fstG_end (by omega)]
      refine VC.le _ (Le.rowI (t := 4) (i := 0) (xs := g) hB hnew rfl rfl hgl.symm) ?_
      refine VC.ret ?_
      exact Exists.intro _ (And.intro (RetV.two Tryz.results19 (ResV.tmp rfl) (ResV.tmp rfl)) (by rw [fstQ, hsm]; rfl))
end Go.Proofs.YtemnnmohdpabhaaGreatDoor
namespace Go.Proofs.YtemnnmohdpabhaaGreatDoor
open Go.RowKit
set_option linter.unusedVariables false
set_option linter.unusedSimpArgs false
abbrev tryV (gf gw gl gn gp gb gm gy gt : Nat) : AV := .v (.func (.func 92) #[] #[.pointer (some ⟨gf, 0, none⟩), .pointer (some ⟨gw, 0, none⟩), .pointer (some ⟨gl, 0, none⟩), .pointer (some ⟨gn, 0, none⟩), .pointer (some ⟨gp, 0, none⟩), .pointer (some ⟨gb, 0, none⟩), .pointer (some ⟨gm, 0, none⟩), .pointer (some ⟨gy, 0, none⟩), .pointer (some ⟨gt, 0, none⟩)])
abbrev ownB (ms : List Mach) (ns : List NeedS) (pl : List Int) (gf gw gl gn gp gb gm gy gt gpa gwa gya cw : Nat) (z : List Int) (ub : Value) (a : BalS) : List Ent :=
 [.box gt ⟨[tryV gf gw gl gn gp gb gm gy gt], 127, 1⟩,
  .box gp ⟨[.v (.slice (some ⟨gpa, 0, none⟩) ns.length ns.length)], 22, 1⟩, .box gpa ⟨intsL z, 3, ns.length⟩,
  .box gw ⟨[.v (.slice (some ⟨gwa, 0, none⟩) ms.length cw)], 22, 1⟩, .box gwa ⟨intsL (nowL ms ns pl), 3, cw * 1⟩,
  .box gy ⟨[.v (.slice (some ⟨gya, 0, none⟩) ms.length ms.length)], 22, 1⟩, .box gya ⟨intsL (manL ms ns pl), 3, ms.length⟩,
  .box gl ⟨[avI a.least], 3, 1⟩, .box gf ⟨[avB a.found], 4, 1⟩, .box gb ⟨[.v ub], 22, 1⟩, .row ub a.best.length 1 (intsL a.best) 3,
  .box gn ⟨[avL ns], 28, 1⟩, .box gm ⟨[avL ms], 26, 1⟩]
theorem take_set1 {zz pl : List Int} {q : Int} (h : zz.take pl.length = pl) (hl : pl.length < zz.length) : (zz.set pl.length q).take (pl ++ [q]).length = pl ++ [q] := by
 rw [List.length_append]
 show (zz.set pl.length q).take (pl.length + 1) = _
 rw [take_snocD (by rw [List.length_set]; exact hl) 0, List.take_set_of_le (Nat.le_refl _), h, getDs hl, if_pos rfl]
theorem take_less {z pl : List Int} {q : Int} (h : z.take (pl.length + [q].length) = pl ++ [q]) : z.take pl.length = pl := by
 have := congrArg (fun l => l.take pl.length) h
 simpa [List.take_take] using this
theorem nowL_back' {ms : List Mach} {ns : List NeedS} {pl : List Int} {k : Nat} (hl : pl.length < ns.length) : (nowL ms ns (pl ++ [(k : Int)])).set k (timB (ms.getD k default) ns (plB pl k) ns.length + (ms.getD k default).each * (ns.getD pl.length default).count - (ms.getD k default).each * (ns.getD pl.length default).count) = nowL ms ns pl := by
 rw [Int.add_sub_cancel]; exact nowL_back hl
theorem manL_back' {ms : List Mach} {ns : List NeedS} {pl : List Int} {k : Nat} (hl : pl.length < ns.length) : (manL ms ns (pl ++ [(k : Int)])).set k ((numB (plB pl k) ns.length : Int) + 1 - 1) = manL ms ns pl := by
 rw [Int.add_sub_cancel]; exact manL_back hl
set_option maxRecDepth 100000 in
set_option maxHeartbeats 16000000 in
theorem rf_BalanceOf1_step {ms : List Mach} {ns : List NeedS} {d : Nat} {pl z : List Int} {a : BalS} {ub : Value} {gf gw gl gn gp gb gm gy gt gpa gwa gya cw : Nat} (hm : machF ms = 0) (hn : needsF ns 1 1000 = 0) (hcw : ms.length ≤ cw ∧ cw ≤ maxLen) (ih : ∀ d', d = d' + 1 → ∀ (pl z : List Int) (a : BalS) (ub : Value), okP ms ns pl → pl.length + d' = ns.length → z.length = ns.length → z.take pl.length = pl → SpecH Tryz.prog 92 [avI (pl.length : Int), pt gf, pt gw, pt gl, pt gn, pt gp, pt gb, pt gm, pt gy, pt gt] (ownB ms ns pl gf gw gl gn gp gb gm gy gt gpa gwa gya cw z ub a) (fun y hp' => ∃ z' ub', z'.length = ns.length ∧ z'.take pl.length = pl ∧ hp' = ownB ms ns pl gf gw gl gn gp gb gm gy gt gpa gwa gya cw z' ub' (dfsB ms ns d' pl a))) (hok : okP ms ns pl) (hpd : pl.length + d = ns.length) (hz : z.length = ns.length) (hzt : z.take pl.length = pl) :
  SpecH Tryz.prog 92 [avI (pl.length : Int), pt gf, pt gw, pt gl, pt gn, pt gp, pt gb, pt gm, pt gy, pt gt] (ownB ms ns pl gf gw gl gn gp gb gm gy gt gpa gwa gya cw z ub a) (fun y hp' => ∃ z' ub', z'.length = ns.length ∧ z'.take pl.length = pl ∧ hp' = ownB ms ns pl gf gw gl gn gp gb gm gy gt gpa gwa gya cw z' ub' (dfsB ms ns d pl a)) := by
 have hM := MnOk.mk' hm hn
 have hlen := machF_len hm
 have hnl := needsF_len hn
 refine SpecH.of_VC Tryz.func92 rfl Tryz.ntmps92 (Nle rfl) fun w A hB => ?_
 have hnew : True := trivial
 refine VC.seq ?_
 refine VC.seq ?_
 refine VC.draw (fun _ => NoB) hB (by kernel_rfl) ?_
 refine VA.take (i := 0) rfl (by kernel_rfl) (by kernel_rfl) (by kernel_rfl) rfl rfl (OpV.load_own (i := 8) rfl hB Tryz.isAgg4 rfl rfl rfl Wi.not0) ?_
 refine VA.take (i := 1) rfl (by kernel_rfl) (by kernel_rfl) (by kernel_rfl) rfl rfl (OpV.move (.inl rfl) rfl) ?_
 refine VA.split (t := 14) rfl (fun aK1b => ?_) (fun aK1b => ?_)
 ·have aK1 := aK1b
  try simp only [qqT, qqF, qqN, qqM, qqL, qqE] at aK1
  refine VA.takeY (i := 2) rfl (by kernel_rfl) (by kernel_rfl) (by kernel_rfl) rfl rfl rfl rfl aK1b (OpV.load_own (i := 3) rfl hB Tryz.isAgg22 rfl rfl rfl Wi.not0) ?_
  refine VA.takeY (i := 4) rfl (by kernel_rfl) (by kernel_rfl) (by kernel_rfl) rfl rfl rfl rfl aK1b (OpV.load_own (i := 7) rfl hB Tryz.isAgg3 rfl rfl rfl Wi.not0) ?_
  refine VA.all (rs := [3]) (by kernel_rfl) (by decide) ?_
  refine ⟨⟨_, rfl, .inr ⟨_, _, _, rfl, rfl, (look_k rfl aK1b)⟩, ?_⟩, trivial⟩
  refine OpE.callL rfl hB rfl Tryz.call93 (slices_Max_int (by rw [nowL_len]; omega) (by rw [nowL_len]; omega)) (ArgsP.cons (ArgP.boxI (i := 4) rfl rfl (nowL_len _).symm hcw.1 hcw.2) (ArgsP.nil)) ?_
  rintro _ rfl
  refine VA.le _ (Le.recast (t := 16) (y := avI (mxT ms ns pl)) rfl (fun w Z u h => by rw [← nowL_max hM hlen.1]; exact h)) ?_
  refine VA.takeY (i := 5) rfl (by kernel_rfl) (by kernel_rfl) (by kernel_rfl) rfl rfl rfl rfl aK1b (OpV.geq rfl rfl rfl) ?_
  refine VA.take (i := 6) rfl (by kernel_rfl) (by kernel_rfl) (by kernel_rfl) rfl rfl (OpV.pickT rfl rfl rfl rfl aK1b) ?_
  refine VA.done (by kernel_rfl) ?_
  refine VC.cond rfl (fun h0b => ?_) (fun h0b => ?_)
  ·have h0 := h0b
   try simp only [qqT, qqF, qqN, qqM, qqL, qqE] at h0
   refine VC.ret ?_
   exact Exists.intro _ (And.intro (RetV.none Tryz.results92) (⟨z, ub, hz, hzt, by rw [dfsB_cut (by assumption) (by omega)]; rfl⟩))
  ·have h0 := h0b
   try simp only [qqT, qqF, qqN, qqM, qqL, qqE] at h0
   refine VC.skip ?_
   refine VC.seq ?_
   refine VC.seq ?_
   have hcut : ¬ (a.found = true ∧ a.least ≤ mxT ms ns pl) := fun ⟨e1, e2⟩ => by first | omega | (simp_all; done)
   refine VC.region ?_
   refine VO.mv rfl rfl rfl rfl ?_
   refine VO.val rfl rfl (OpV.load_own (i := 11) rfl hB Tryz.isAgg28 rfl rfl rfl (fun h => h)) ?_
   refine VO.val rfl rfl (OpV.len_im rfl Tryz.underlying28 rfl) ?_
   refine VO.val rfl rfl (OpV.eql rfl rfl rfl) ?_
   refine VO.nil ?_
   refine VC.cond rfl (fun h1b => ?_) (fun h1b => ?_)
   ·have h1 := h1b
    try simp only [qqT, qqF, qqN, qqM, qqL, qqE] at h1
    obtain rfl : d = 0 := by omega
    have hzp : z = pl := by rw [← hzt, List.take_of_length_le (by omega)]
    subst hzp
    refine VC.seq ?_
    refine VC.hap (fun hap => ?_)
    have n1f := apart_ne hap (i := 1) (j := 8) rfl rfl (by decide)
    have n1l := apart_ne hap (i := 1) (j := 7) rfl rfl (by decide)
    have n1b := apart_ne hap (i := 1) (j := 9) rfl rfl (by decide)
    have n3f := apart_ne hap (i := 3) (j := 8) rfl rfl (by decide)
    have n3l := apart_ne hap (i := 3) (j := 7) rfl rfl (by decide)
    have n3b := apart_ne hap (i := 3) (j := 9) rfl rfl (by decide)
    refine VC.draw (fun j b => j ∈ [4, 5, 6] ∧ (b = gb ∨ b = gl ∨ b = gf)) hB (by kernel_rfl) ?_
    refine VA.take (i := 0) rfl (by kernel_rfl) (by kernel_rfl) (by kernel_rfl) rfl rfl (OpV.load_own (i := 1) rfl hB Tryz.isAgg22 rfl rfl rfl (fun ⟨_, _, _, h⟩ => h.elim n1b (fun h => h.elim n1l n1f))) ?_
    refine VA.take (i := 2) rfl (by kernel_rfl) (by kernel_rfl) (by kernel_rfl) rfl rfl (OpV.load_own (i := 3) rfl hB Tryz.isAgg22 rfl rfl rfl (fun ⟨_, _, _, h⟩ => h.elim n3b (fun h => h.elim n3l n3f))) ?_
    refine VA.all (rs := [1]) (by kernel_rfl) (by decide) ?_
    refine ⟨⟨_, rfl, .inl rfl, ?_⟩, trivial⟩
    refine OpE.callR rfl hB rfl Tryz.call94 (slices_Clone_R (by omega)) (ArgsP.cons (ArgP.boxI (i := 2) rfl rfl hz.symm (Nat.le_refl _) (capM (by omega))) (ArgsP.nil)) ?_
    intro u25
    refine VA.le _ (Le.pickH [0, 1, 2, 3, 4, 5, 6, 7, 8, 9, 13, 11, 12] rfl rfl) ?_
    refine VA.rowIs (i := 10) rfl (fun b25 c25 hu25 => ?_)
    subst hu25
    refine VA.all (rs := [3]) (by kernel_rfl) (by decide) ?_
    refine ⟨⟨_, rfl, .inl rfl, ?_⟩, trivial⟩
    refine OpE.callL rfl hB rfl Tryz.call93 (slices_Max_int (by rw [nowL_len]; omega) (by rw [nowL_len]; omega)) (ArgsP.cons (ArgP.boxI (i := 4) rfl rfl (nowL_len _).symm hcw.1 hcw.2) (ArgsP.nil)) ?_
    rintro _ rfl
    refine VA.le _ (Le.recast (t := 27) (y := avI (mxT ms ns z)) rfl (fun w Z u h => by rw [← nowL_max hM hlen.1]; exact h)) ?_
    refine VA.all (rs := [4]) (by kernel_rfl) (by decide) ?_
    refine ⟨⟨_, rfl, .inl rfl, ?_⟩, trivial⟩
    refine OpE.store (i := 9) rfl hB rfl Tryz.sizeOf22 rfl rfl rfl rfl rfl rfl (Nle rfl) (⟨by decide, by first | exact .inl rfl | exact .inr (.inl rfl) | exact .inr (.inr rfl)⟩) ?_
    refine VA.all (rs := [5]) (by kernel_rfl) (by decide) ?_
    refine ⟨⟨_, rfl, .inl rfl, ?_⟩, trivial⟩
    refine OpE.store (i := 7) rfl hB rfl Tryz.sizeOf3 rfl rfl rfl rfl rfl rfl (Nle rfl) (⟨by decide, by first | exact .inl rfl | exact .inr (.inl rfl) | exact .inr (.inr rfl)⟩) ?_
    refine VA.all (rs := [6]) (by kernel_rfl) (by decide) ?_
    refine ⟨⟨_, rfl, .inl rfl, ?_⟩, trivial⟩
    refine OpE.store (i := 8) rfl hB rfl Tryz.sizeOf4 rfl rfl rfl rfl rfl rfl (Nle rfl) (⟨by decide, by first | exact .inl rfl | exact .inr (.inl rfl) | exact .inr (.inr rfl)⟩) ?_
    refine VA.done (by kernel_rfl) ?_
    refine VC.ret ?_
    exact Exists.intro _ (And.intro (RetV.none Tryz.results92) ((by (try clear hap); exact ⟨z, .slice b25 z.length c25, hz, hzt, by rw [dfsB_zero hcut]; rfl⟩)))
   ·have h1 := h1b
    try simp only [qqT, qqF, qqN, qqM, qqL, qqE] at h1
    obtain ⟨d', rfl⟩ : ∃ d', d = d' + 1 := ⟨d - 1, by omega⟩
    have hpl : pl.length < ns.length := by omega
    refine VC.skip ?_
    refine VC.sr ?_
    refine VO.val rfl rfl (OpV.load_own (i := 12) rfl hB Tryz.isAgg26 rfl rfl rfl (fun h => h)) ?_
    refine VO.val rfl rfl (OpV.len_im rfl Tryz.underlying26 rfl) ?_
    refine VO.mv rfl rfl rfl rfl ?_
    refine VO.nil ?_
    refine VC.block ?_
    refine VC.loopK [(0, _), (2, _), (4, _), (5, _), (8, _), (9, _), (28, _), (29, _)] ⟨rfl, rfl, rfl, rfl, rfl, rfl, rfl, rfl, trivial⟩ ({t : (Value × List Int × BalS) × Nat // t.2 ≤ ms.length ∧ t.1.2.1.length = ns.length ∧ t.1.2.1.take pl.length = pl ∧ t.1.2.2 = dfsK ms ns d' pl a t.2}) (fun (iZ : {t : (Value × List Int × BalS) × Nat // t.2 ≤ ms.length ∧ t.1.2.1.length = ns.length ∧ t.1.2.1.take pl.length = pl ∧ t.1.2.2 = dfsK ms ns d' pl a t.2}) => match iZ with | ⟨⟨⟨uu, zz, aa⟩, q⟩, hq, hzz, hzzt, haa⟩ => [(30, avI (q : Int))]) (fun (iZ : {t : (Value × List Int × BalS) × Nat // t.2 ≤ ms.length ∧ t.1.2.1.length = ns.length ∧ t.1.2.1.take pl.length = pl ∧ t.1.2.2 = dfsK ms ns d' pl a t.2}) => match iZ with | ⟨⟨⟨uu, zz, aa⟩, q⟩, hq, hzz, hzzt, haa⟩ => ownB ms ns pl gf gw gl gn gp gb gm gy gt gpa gwa gya cw zz uu aa) (fun (iZ : {t : (Value × List Int × BalS) × Nat // t.2 ≤ ms.length ∧ t.1.2.1.length = ns.length ∧ t.1.2.1.take pl.length = pl ∧ t.1.2.2 = dfsK ms ns d' pl a t.2}) => match iZ with | ⟨⟨⟨uu, zz, aa⟩, q⟩, hq, hzz, hzzt, haa⟩ => 0) (fun (iZ : {t : (Value × List Int × BalS) × Nat // t.2 ≤ ms.length ∧ t.1.2.1.length = ns.length ∧ t.1.2.1.take pl.length = pl ∧ t.1.2.2 = dfsK ms ns d' pl a t.2}) => match iZ with | ⟨⟨⟨uu, zz, aa⟩, q⟩, hq, hzz, hzzt, haa⟩ => ms.length - q) ⟨((ub, z, a), 0), Nat.zero_le _, hz, hzt, rfl⟩ (Le.mkP hB ⟨rfl, rfl, rfl, rfl, rfl, rfl, rfl, rfl, rfl, trivial⟩ (List.Sublist.refl _) (List.Perm.refl _) (Nat.le_refl _)) ?_
    rintro ⟨⟨⟨uu, zz, aa⟩, q⟩, hq, hzz, hzzt, haa⟩
    show VC _ _ _ _ ⟨[(30, avI (q : Int))] ++ [(0, _), (2, _), (4, _), (5, _), (8, _), (9, _), (28, _), (29, _)], ownB ms ns pl gf gw gl gn gp gb gm gy gt gpa gwa gya cw zz uu aa, 0⟩
    simp only at hq hzz hzzt haa
    have hti := timB_in hM q (plB pl q) ns.length
    have hmu := mul_in2 (hM.each q) (hM.cnt pl.length)
    have hnb := numB_le (plB pl q) ns.length
    refine VC.sr ?_
    refine VO.val rfl rfl (OpV.lss rfl rfl rfl) ?_
    refine VO.nil ?_
    refine VC.seq ?_
    refine VC.cond rfl (fun aH2b => ?_) (fun aH2b => ?_)
    ·have aH2 := aH2b
     try simp only [qqT, qqF, qqN, qqM, qqL, qqE] at aH2
     refine VC.skip ?_
     refine VC.seq ?_
     refine VC.block ?_
     refine VC.sr ?_
     refine VO.mv rfl rfl rfl rfl ?_
     refine VO.val rfl rfl (OpV.indexAddr_E rfl Tryz.underlying26 Tryz.sizeOf106 rfl rfl rfl (by omega)) ?_
     refine VO.val rfl rfl (OpV.loadK_at rfl hB OutW.no Tryz.isAgg106 Tryz.sizeOf106 rfl rfl) ?_
     refine VO.op rfl (OpE.alloc rfl hB rfl Tryz.zeroValue106 rfl ?_)
     intro g12
     refine VO.ma rfl rfl rfl rfl ?_
     refine VO.op rfl (OpE.store (i := 13) rfl hB rfl Tryz.sizeOf106 rfl rfl rfl rfl rfl rfl (Nle rfl) trivial ?_)
     refine VO.nil ?_
     refine VC.seq ?_
     refine VC.seq ?_
     refine VC.draw (fun _ => NoB) hB (by kernel_rfl) ?_
     refine VA.take (i := 0) rfl (by kernel_rfl) (by kernel_rfl) (by kernel_rfl) rfl rfl (OpV.load_own (i := 5) rfl hB Tryz.isAgg22 rfl rfl rfl Wi.not0) ?_
     refine VA.take (i := 1) rfl (by kernel_rfl) (by kernel_rfl) (by kernel_rfl) rfl rfl (OpV.move (.inl rfl) rfl) ?_
     refine VA.take (i := 2) rfl (by kernel_rfl) (by kernel_rfl) (by kernel_rfl) rfl rfl (OpV.indexAddr_o rfl Tryz.underlying22 Tryz.sizeOf3 rfl rfl rfl (by omega)) ?_
     refine VA.take (i := 3) rfl (by kernel_rfl) (by kernel_rfl) (by kernel_rfl) rfl rfl (OpV.load_own (i := 6) rfl hB Tryz.isAgg3 rfl rfl (intsL_getV (by rw [manL_len]; omega) (manL_get (by omega))) Wi.not0) ?_
     refine VA.take (i := 4) rfl (by kernel_rfl) (by kernel_rfl) (by kernel_rfl) rfl rfl (OpV.fieldAddrO 3 rfl Tryz.underlying106 rfl rfl Tryz.sizeOf3 rfl) ?_
     refine VA.take (i := 5) rfl (by kernel_rfl) (by kernel_rfl) (by kernel_rfl) rfl rfl (OpV.load_own (i := 13) rfl hB Tryz.isAgg3 rfl rfl rfl Wi.not0) ?_
     refine VA.take (i := 6) rfl (by kernel_rfl) (by kernel_rfl) (by kernel_rfl) rfl rfl (OpV.eql rfl rfl rfl) ?_
     refine VA.take (i := 7) rfl (by kernel_rfl) (by kernel_rfl) (by kernel_rfl) rfl rfl (OpV.move (.inl rfl) rfl) ?_
     refine VA.split (t := 42) rfl (fun aK3b => ?_) (fun aK3b => ?_)
     ·have aK3 := aK3b
      try simp only [qqT, qqF, qqN, qqM, qqL, qqE] at aK3
      refine VA.takeX (i := 8) rfl (by kernel_rfl) (by kernel_rfl) (by kernel_rfl) rfl rfl rfl rfl aK3b ?_
      refine VA.takeX (i := 9) rfl (by kernel_rfl) (by kernel_rfl) (by kernel_rfl) rfl rfl rfl rfl aK3b ?_
      refine VA.takeX (i := 10) rfl (by kernel_rfl) (by kernel_rfl) (by kernel_rfl) rfl rfl rfl rfl aK3b ?_
      refine VA.takeX (i := 11) rfl (by kernel_rfl) (by kernel_rfl) (by kernel_rfl) rfl rfl rfl rfl aK3b ?_
      refine VA.takeX (i := 12) rfl (by kernel_rfl) (by kernel_rfl) (by kernel_rfl) rfl rfl rfl rfl aK3b ?_
      refine VA.takeX (i := 13) rfl (by kernel_rfl) (by kernel_rfl) (by kernel_rfl) rfl rfl rfl rfl aK3b ?_
      refine VA.takeX (i := 14) rfl (by kernel_rfl) (by kernel_rfl) (by kernel_rfl) rfl rfl rfl rfl aK3b ?_
      refine VA.takeX (i := 15) rfl (by kernel_rfl) (by kernel_rfl) (by kernel_rfl) rfl rfl rfl rfl aK3b ?_
      refine VA.takeX (i := 16) rfl (by kernel_rfl) (by kernel_rfl) (by kernel_rfl) rfl rfl rfl rfl aK3b ?_
      refine VA.take (i := 17) rfl (by kernel_rfl) (by kernel_rfl) (by kernel_rfl) rfl rfl (OpV.pickT rfl rfl rfl rfl aK3b) ?_
      refine VA.done (by kernel_rfl) ?_
      refine VC.condT rfl rfl ?_
      refine VC.exit ?_
      refine VC.le _ (Le.pickH [0, 1, 2, 3, 4, 5, 6, 7, 8, 9, 10, 11, 12] rfl rfl) ?_
      refine VC.region ?_
      refine VO.val rfl rfl (OpV.add rfl rfl rfl (by unfold fits; omega)) ?_
      refine VO.mv rfl rfl rfl rfl ?_
      refine VO.nil ?_
      exact Exists.intro (⟨((uu, zz, aa), q + 1), by show q + 1 ≤ ms.length; omega, hzz, hzzt, by show aa = dfsK ms ns d' pl a (q + 1); first | rw [dfsK_no hmy, haa] | rw [dfsK_no (fun hc => by rw [mayP_iff (by omega)] at hc; omega), haa]⟩) (And.intro (Le.mkP hB ⟨rfl, rfl, rfl, rfl, rfl, rfl, rfl, rfl, rfl, trivial⟩ (List.Sublist.refl _) (List.Perm.refl _) (Nat.le_refl _)) (by first | omega | (show _ < _; omega) | (simp only []; omega)))
     ·have aK3 := aK3b
      try simp only [qqT, qqF, qqN, qqM, qqL, qqE] at aK3
      refine VA.takeY (i := 8) rfl (by kernel_rfl) (by kernel_rfl) (by kernel_rfl) rfl rfl rfl rfl aK3b (OpV.fieldAddrO 4 rfl Tryz.underlying106 rfl rfl Tryz.sizeOf40 rfl) ?_
      refine VA.takeY (i := 9) rfl (by kernel_rfl) (by kernel_rfl) (by kernel_rfl) rfl rfl rfl rfl aK3b (OpV.load_own (i := 13) rfl hB Tryz.isAgg40 rfl rfl rfl Wi.not0) ?_
      refine VA.takeY (i := 10) rfl (by kernel_rfl) (by kernel_rfl) (by kernel_rfl) rfl rfl rfl rfl aK3b (OpV.load_own (i := 11) rfl hB Tryz.isAgg28 rfl rfl rfl Wi.not0) ?_
      refine VA.takeY (i := 11) rfl (by kernel_rfl) (by kernel_rfl) (by kernel_rfl) rfl rfl rfl rfl aK3b (OpV.move (.inl rfl) rfl) ?_
      refine VA.takeY (i := 12) rfl (by kernel_rfl) (by kernel_rfl) (by kernel_rfl) rfl rfl rfl rfl aK3b (OpV.indexAddr_E rfl Tryz.underlying28 Tryz.sizeOf111 rfl rfl rfl (by omega)) ?_
      refine VA.takeY (i := 13) rfl (by kernel_rfl) (by kernel_rfl) (by kernel_rfl) rfl rfl rfl rfl aK3b (OpV.fieldAddr_atO 0 rfl Tryz.underlying111 rfl rfl Tryz.sizeOf9 rfl rfl) ?_
      refine VA.takeY (i := 14) rfl (by kernel_rfl) (by kernel_rfl) (by kernel_rfl) rfl rfl rfl rfl aK3b (OpV.load_at rfl hB OutW.wi0 Tryz.isAgg9 rfl rfl) ?_
      refine VA.all (rs := [15]) (by kernel_rfl) (by decide) ?_
      refine ⟨⟨_, rfl, .inr ⟨_, _, _, rfl, rfl, (look_k rfl aK3b)⟩, ?_⟩, trivial⟩
      refine OpE.call rfl hB rfl Tryz.call67 rfl (SpecN.spec (slices_Contains_str (by have := canF_keys (machF_each hm (i := q) (by omega)).2; omega))) ?_
      rintro _ rfl
      refine VA.takeY (i := 16) rfl (by kernel_rfl) (by kernel_rfl) (by kernel_rfl) rfl rfl rfl rfl aK3b (OpV.not rfl rfl) ?_
      refine VA.take (i := 17) rfl (by kernel_rfl) (by kernel_rfl) (by kernel_rfl) rfl rfl (OpV.pickF rfl rfl rfl rfl aK3b) ?_
      refine VA.done (by kernel_rfl) ?_
      refine VC.cond rfl (fun h3b => ?_) (fun h3b => ?_)
      ·have h3 := h3b
       try simp only [qqT, qqF, qqN, qqM, qqL, qqE] at h3
       have hmy : ¬ mayP ms ns pl q := fun hc => by
        rw [mayP_iff (by omega)] at hc
        first | (have h9 := hc.1; unfold hasK at h9; rw [h3] at h9; cases h9) | (have := hc.2; omega)
       refine VC.exit ?_
       refine VC.le _ (Le.pickH [0, 1, 2, 3, 4, 5, 6, 7, 8, 9, 10, 11, 12] rfl rfl) ?_
       refine VC.region ?_
       refine VO.val rfl rfl (OpV.add rfl rfl rfl (by unfold fits; omega)) ?_
       refine VO.mv rfl rfl rfl rfl ?_
       refine VO.nil ?_
       exact Exists.intro (⟨((uu, zz, aa), q + 1), by show q + 1 ≤ ms.length; omega, hzz, hzzt, by show aa = dfsK ms ns d' pl a (q + 1); first | rw [dfsK_no hmy, haa] | rw [dfsK_no (fun hc => by rw [mayP_iff (by omega)] at hc; omega), haa]⟩) (And.intro (Le.mkP hB ⟨rfl, rfl, rfl, rfl, rfl, rfl, rfl, rfl, rfl, trivial⟩ (List.Sublist.refl _) (List.Perm.refl _) (Nat.le_refl _)) (by first | omega | (show _ < _; omega) | (simp only []; omega)))
      ·have h3 := h3b
       try simp only [qqT, qqF, qqN, qqM, qqL, qqE] at h3
       have hmy : mayP ms ns pl q := by
        rw [mayP_iff (by omega)]
        have := okB_num (hok q (by omega)) (machF_each hm (i := q) (by omega)).1.2.2.1 ns.length (Nat.le_refl _)
        exact ⟨by simp_all [hasK], by omega⟩
       refine VC.skip ?_
       refine VC.sr ?_
       refine VO.val rfl rfl (OpV.load_own (i := 5) rfl hB Tryz.isAgg22 rfl rfl rfl (fun h => h)) ?_
       refine VO.mv rfl rfl rfl rfl ?_
       refine VO.val rfl rfl (OpV.indexAddr_o rfl Tryz.underlying22 Tryz.sizeOf3 rfl rfl rfl (by omega)) ?_
       refine VO.val rfl rfl (OpV.load_own (i := 6) rfl hB Tryz.isAgg3 rfl rfl (intsL_getV (by rw [manL_len]; omega) (manL_get (by omega))) (fun h => h)) ?_
       refine VO.val rfl rfl (OpV.add rfl rfl rfl (by unfold fits; omega)) ?_
       refine VO.val rfl rfl (OpV.indexAddr_o rfl Tryz.underlying22 Tryz.sizeOf3 rfl rfl rfl (by omega)) ?_
       refine VO.op rfl (OpE.store1 (i := 6) rfl hB rfl Tryz.sizeOf3 rfl rfl rfl rfl rfl rfl (by rw [intsL_len, manL_len]; omega) ((intsL_set _ _ _).trans (congrArg intsL (manL_set hpl))) trivial ?_)
       refine VO.nil ?_
       refine VC.seq ?_
       refine VC.draw (fun j b => j = 14 ∧ b = gwa) hB (by kernel_rfl) ?_
       refine VA.take (i := 0) rfl (by kernel_rfl) (by kernel_rfl) (by kernel_rfl) rfl rfl (OpV.load_own (i := 3) rfl hB Tryz.isAgg22 rfl rfl rfl (by first | exact Wi.not1 (by kernel_rfl) | exact Wi.not2 (by kernel_rfl) (by kernel_rfl) | exact Wi.notX (by kernel_rfl))) ?_
       refine VA.take (i := 1) rfl (by kernel_rfl) (by kernel_rfl) (by kernel_rfl) rfl rfl (OpV.move (.inl rfl) rfl) ?_
       refine VA.take (i := 2) rfl (by kernel_rfl) (by kernel_rfl) (by kernel_rfl) rfl rfl (OpV.indexAddr_o rfl Tryz.underlying22 Tryz.sizeOf3 rfl rfl rfl (by omega)) ?_
       refine VA.take (i := 3) rfl (by kernel_rfl) (by kernel_rfl) (by kernel_rfl) rfl rfl (OpV.load_own (i := 4) rfl hB Tryz.isAgg3 rfl rfl (intsL_getV (by rw [nowL_len]; omega) (nowL_get (by omega))) (by first | exact Wi.not1 (by kernel_rfl) | exact Wi.not2 (by kernel_rfl) (by kernel_rfl) | exact Wi.notX (by kernel_rfl))) ?_
       refine VA.take (i := 4) rfl (by kernel_rfl) (by kernel_rfl) (by kernel_rfl) rfl rfl (OpV.fieldAddrO 1 rfl Tryz.underlying106 rfl rfl Tryz.sizeOf3 rfl) ?_
       refine VA.take (i := 5) rfl (by kernel_rfl) (by kernel_rfl) (by kernel_rfl) rfl rfl (OpV.load_own (i := 13) rfl hB Tryz.isAgg3 rfl rfl rfl (by first | exact Wi.not1 (by kernel_rfl) | exact Wi.not2 (by kernel_rfl) (by kernel_rfl) | exact Wi.notX (by kernel_rfl))) ?_
       refine VA.take (i := 6) rfl (by kernel_rfl) (by kernel_rfl) (by kernel_rfl) rfl rfl (OpV.load_own (i := 11) rfl hB Tryz.isAgg28 rfl rfl rfl (by first | exact Wi.not1 (by kernel_rfl) | exact Wi.not2 (by kernel_rfl) (by kernel_rfl) | exact Wi.notX (by kernel_rfl))) ?_
       refine VA.take (i := 7) rfl (by kernel_rfl) (by kernel_rfl) (by kernel_rfl) rfl rfl (OpV.move (.inl rfl) rfl) ?_
       refine VA.take (i := 8) rfl (by kernel_rfl) (by kernel_rfl) (by kernel_rfl) rfl rfl (OpV.indexAddr_E rfl Tryz.underlying28 Tryz.sizeOf111 rfl rfl rfl (by omega)) ?_
       refine VA.take (i := 9) rfl (by kernel_rfl) (by kernel_rfl) (by kernel_rfl) rfl rfl (OpV.fieldAddr_atO 1 rfl Tryz.underlying111 rfl rfl Tryz.sizeOf3 rfl rfl) ?_
       refine VA.take (i := 10) rfl (by kernel_rfl) (by kernel_rfl) (by kernel_rfl) rfl rfl (OpV.load_at rfl hB (by first | exact OutW.wi1 (k := 0) rfl rfl | exact OutW.wi1 (k := 1) rfl rfl | exact OutW.wi1 (k := 2) rfl rfl | exact OutW.wi1 (k := 3) rfl rfl | exact OutW.wi1 (k := 4) rfl rfl | exact OutW.wi1 (k := 5) rfl rfl | exact OutW.wi1 (k := 6) rfl rfl | exact OutW.wi1 (k := 7) rfl rfl | exact OutW.wi1 (k := 8) rfl rfl | exact OutW.wi1 (k := 9) rfl rfl | exact OutW.wi1 (k := 10) rfl rfl | exact OutW.wi1 (k := 11) rfl rfl | exact OutW.wi1 (k := 12) rfl rfl | exact OutW.wi1 (k := 13) rfl rfl) Tryz.isAgg3 rfl rfl) ?_
       refine VA.take (i := 11) rfl (by kernel_rfl) (by kernel_rfl) (by kernel_rfl) rfl rfl (OpV.mul rfl rfl rfl (by unfold fits; omega)) ?_
       refine VA.take (i := 12) rfl (by kernel_rfl) (by kernel_rfl) (by kernel_rfl) rfl rfl (OpV.add rfl rfl rfl (by unfold fits; omega)) ?_
       refine VA.take (i := 13) rfl (by kernel_rfl) (by kernel_rfl) (by kernel_rfl) rfl rfl (OpV.indexAddr_o rfl Tryz.underlying22 Tryz.sizeOf3 rfl rfl rfl (by omega)) ?_
       refine VA.all (rs := [14]) (by kernel_rfl) (by decide) ?_
       refine ⟨⟨_, rfl, .inl rfl, ?_⟩, trivial⟩
       refine OpE.store1 (i := 4) rfl hB rfl Tryz.sizeOf3 rfl rfl rfl rfl rfl rfl (by rw [intsL_len, nowL_len]; omega) ((intsL_set _ _ _).trans (congrArg intsL (nowL_set hpl))) (by first | exact ⟨rfl, rfl⟩ | exact .inl ⟨rfl, rfl⟩ | exact .inr ⟨rfl, rfl⟩ | exact ⟨rfl, trivial⟩ | exact .inl ⟨rfl, trivial⟩ | exact .inr ⟨rfl, trivial⟩ | exact ⟨by decide, rfl⟩) ?_
       refine VA.done (by kernel_rfl) ?_
       refine VC.sr ?_
       refine VO.val rfl rfl (OpV.load_own (i := 1) rfl hB Tryz.isAgg22 rfl rfl rfl (fun h => h)) ?_
       refine VO.mv rfl rfl rfl rfl ?_
       refine VO.mv rfl rfl rfl rfl ?_
       refine VO.val rfl rfl (OpV.indexAddr_o rfl Tryz.underlying22 Tryz.sizeOf3 rfl rfl rfl (by omega)) ?_
       refine VO.op rfl (OpE.store1 (i := 2) rfl hB rfl Tryz.sizeOf3 rfl rfl rfl rfl rfl rfl (by rw [intsL_len]; omega) (intsL_set _ _ _) trivial ?_)
       refine VO.nil ?_
       refine VC.sr ?_
       refine VO.val rfl rfl (OpV.load_own (i := 0) rfl hB Tryz.isAgg127 rfl rfl rfl (fun h => h)) ?_
       refine VO.mv rfl rfl rfl rfl ?_
       refine VO.val rfl rfl (OpV.add rfl rfl rfl (by unfold fits; omega)) ?_
       refine VO.op rfl (OpE.callH (rest := [_]) rfl hB rfl Tryz.call92 rfl rfl (by have hi := ih d' rfl (pl ++ [(q : Int)]) (zz.set pl.length (q : Int)) aa uu (okP_snoc hok hpl hmy) (by rw [List.length_append]; show pl.length + 1 + d' = _; omega) (by rw [List.length_set]; exact hzz) (take_set1 hzzt (by omega)); rw [List.length_append] at hi; exact hi) (List.Perm.refl _) (fun _ _ => trivial) ?_)
       rintro _ _ ⟨z3, u3, hz3, hz3t', rfl⟩
       have hz3t : z3.take pl.length = pl := take_less hz3t'
       refine VO.nil ?_
       refine VC.seq ?_
       refine VC.draw (fun j b => j = 14 ∧ b = gwa) hB (by kernel_rfl) ?_
       refine VA.take (i := 0) rfl (by kernel_rfl) (by kernel_rfl) (by kernel_rfl) rfl rfl (OpV.load_own (i := 3) rfl hB Tryz.isAgg22 rfl rfl rfl (by first | exact Wi.not1 (by kernel_rfl) | exact Wi.not2 (by kernel_rfl) (by kernel_rfl) | exact Wi.notX (by kernel_rfl))) ?_
       refine VA.take (i := 1) rfl (by kernel_rfl) (by kernel_rfl) (by kernel_rfl) rfl rfl (OpV.move (.inl rfl) rfl) ?_
       refine VA.take (i := 2) rfl (by kernel_rfl) (by kernel_rfl) (by kernel_rfl) rfl rfl (OpV.indexAddr_o rfl Tryz.underlying22 Tryz.sizeOf3 rfl rfl rfl (by omega)) ?_
       refine VA.take (i := 3) rfl (by kernel_rfl) (by kernel_rfl) (by kernel_rfl) rfl rfl (OpV.load_own (i := 4) rfl hB Tryz.isAgg3 rfl rfl (intsL_getV (by rw [nowL_len]; omega) (nowL_snoc hpl (by omega))) (by first | exact Wi.not1 (by kernel_rfl) | exact Wi.not2 (by kernel_rfl) (by kernel_rfl) | exact Wi.notX (by kernel_rfl))) ?_
       refine VA.take (i := 4) rfl (by kernel_rfl) (by kernel_rfl) (by kernel_rfl) rfl rfl (OpV.fieldAddrO 1 rfl Tryz.underlying106 rfl rfl Tryz.sizeOf3 rfl) ?_
       refine VA.take (i := 5) rfl (by kernel_rfl) (by kernel_rfl) (by kernel_rfl) rfl rfl (OpV.load_own (i := 13) rfl hB Tryz.isAgg3 rfl rfl rfl (by first | exact Wi.not1 (by kernel_rfl) | exact Wi.not2 (by kernel_rfl) (by kernel_rfl) | exact Wi.notX (by kernel_rfl))) ?_
       refine VA.take (i := 6) rfl (by kernel_rfl) (by kernel_rfl) (by kernel_rfl) rfl rfl (OpV.load_own (i := 11) rfl hB Tryz.isAgg28 rfl rfl rfl (by first | exact Wi.not1 (by kernel_rfl) | exact Wi.not2 (by kernel_rfl) (by kernel_rfl) | exact Wi.notX (by kernel_rfl))) ?_
       refine VA.take (i := 7) rfl (by kernel_rfl) (by kernel_rfl) (by kernel_rfl) rfl rfl (OpV.move (.inl rfl) rfl) ?_
       refine VA.take (i := 8) rfl (by kernel_rfl) (by kernel_rfl) (by kernel_rfl) rfl rfl (OpV.indexAddr_E rfl Tryz.underlying28 Tryz.sizeOf111 rfl rfl rfl (by omega)) ?_
       refine VA.take (i := 9) rfl (by kernel_rfl) (by kernel_rfl) (by kernel_rfl) rfl rfl (OpV.fieldAddr_atO 1 rfl Tryz.underlying111 rfl rfl Tryz.sizeOf3 rfl rfl) ?_
       refine VA.take (i := 10) rfl (by kernel_rfl) (by kernel_rfl) (by kernel_rfl) rfl rfl (OpV.load_at rfl hB (by first | exact OutW.wi1 (k := 0) rfl rfl | exact OutW.wi1 (k := 1) rfl rfl | exact OutW.wi1 (k := 2) rfl rfl | exact OutW.wi1 (k := 3) rfl rfl | exact OutW.wi1 (k := 4) rfl rfl | exact OutW.wi1 (k := 5) rfl rfl | exact OutW.wi1 (k := 6) rfl rfl | exact OutW.wi1 (k := 7) rfl rfl | exact OutW.wi1 (k := 8) rfl rfl | exact OutW.wi1 (k := 9) rfl rfl | exact OutW.wi1 (k := 10) rfl rfl | exact OutW.wi1 (k := 11) rfl rfl | exact OutW.wi1 (k := 12) rfl rfl | exact OutW.wi1 (k := 13) rfl rfl) Tryz.isAgg3 rfl rfl) ?_
       refine VA.take (i := 11) rfl (by kernel_rfl) (by kernel_rfl) (by kernel_rfl) rfl rfl (OpV.mul rfl rfl rfl (by unfold fits; omega)) ?_
       refine VA.take (i := 12) rfl (by kernel_rfl) (by kernel_rfl) (by kernel_rfl) rfl rfl (OpV.sub rfl rfl rfl (by unfold fits; omega)) ?_
       refine VA.take (i := 13) rfl (by kernel_rfl) (by kernel_rfl) (by kernel_rfl) rfl rfl (OpV.indexAddr_o rfl Tryz.underlying22 Tryz.sizeOf3 rfl rfl rfl (by omega)) ?_
       refine VA.all (rs := [14]) (by kernel_rfl) (by decide) ?_
       refine ⟨⟨_, rfl, .inl rfl, ?_⟩, trivial⟩
       refine OpE.store1 (i := 4) rfl hB rfl Tryz.sizeOf3 rfl rfl rfl rfl rfl rfl (by rw [intsL_len, nowL_len]; omega) ((intsL_set _ _ _).trans (congrArg intsL (nowL_back' hpl))) (by first | exact ⟨rfl, rfl⟩ | exact .inl ⟨rfl, rfl⟩ | exact .inr ⟨rfl, rfl⟩ | exact ⟨rfl, trivial⟩ | exact .inl ⟨rfl, trivial⟩ | exact .inr ⟨rfl, trivial⟩ | exact ⟨by decide, rfl⟩) ?_
       refine VA.done (by kernel_rfl) ?_
       refine VC.region ?_
       refine VO.val rfl rfl (OpV.load_own (i := 5) rfl hB Tryz.isAgg22 rfl rfl rfl (fun h => h)) ?_
       refine VO.mv rfl rfl rfl rfl ?_
       refine VO.val rfl rfl (OpV.indexAddr_o rfl Tryz.underlying22 Tryz.sizeOf3 rfl rfl rfl (by omega)) ?_
       refine VO.val rfl rfl (OpV.load_own (i := 6) rfl hB Tryz.isAgg3 rfl rfl (intsL_getV (by rw [manL_len]; omega) (manL_snoc hpl (by omega))) (fun h => h)) ?_
       refine VO.val rfl rfl (OpV.sub rfl rfl rfl (by unfold fits; omega)) ?_
       refine VO.val rfl rfl (OpV.indexAddr_o rfl Tryz.underlying22 Tryz.sizeOf3 rfl rfl rfl (by omega)) ?_
       refine VO.op rfl (OpE.store1 (i := 6) rfl hB rfl Tryz.sizeOf3 rfl rfl rfl rfl rfl rfl (by rw [intsL_len, manL_len]; omega) ((intsL_set _ _ _).trans (congrArg intsL (manL_back' hpl))) trivial ?_)
       refine VO.nil ?_
       refine VC.le _ (Le.pickH [0, 1, 2, 3, 4, 5, 6, 7, 8, 9, 10, 11, 12] rfl rfl) ?_
       refine VC.region ?_
       refine VO.val rfl rfl (OpV.add rfl rfl rfl (by unfold fits; omega)) ?_
       refine VO.mv rfl rfl rfl rfl ?_
       refine VO.nil ?_
       exact Exists.intro (⟨((u3, z3, dfsB ms ns d' (pl ++ [(q : Int)]) aa), q + 1), by show q + 1 ≤ ms.length; omega, hz3, hz3t, by show dfsB ms ns d' (pl ++ [(q : Int)]) aa = dfsK ms ns d' pl a (q + 1); rw [dfsK_yes hmy, ← haa]⟩) (And.intro (Le.mkP hB ⟨rfl, rfl, rfl, rfl, rfl, rfl, rfl, rfl, rfl, trivial⟩ (List.Sublist.refl _) (List.Perm.refl _) (Nat.le_refl _)) (by first | omega | (show _ < _; omega) | (simp only []; omega)))
    ·have aH2 := aH2b
     try simp only [qqT, qqF, qqN, qqM, qqL, qqE] at aH2
     obtain rfl : q = ms.length := by omega
     refine VC.exit ?_
     exact Exists.intro _ (And.intro (RetV.none Tryz.results92) (⟨zz, uu, hzz, hzzt, by rw [dfsB_succ hcut, ← haa]; rfl⟩))
 ·have aK1 := aK1b
  try simp only [qqT, qqF, qqN, qqM, qqL, qqE] at aK1
  refine VA.takeX (i := 2) rfl (by kernel_rfl) (by kernel_rfl) (by kernel_rfl) rfl rfl rfl rfl aK1b ?_
  refine VA.takeX (i := 3) rfl (by kernel_rfl) (by kernel_rfl) (by kernel_rfl) rfl rfl rfl rfl aK1b ?_
  refine VA.takeX (i := 4) rfl (by kernel_rfl) (by kernel_rfl) (by kernel_rfl) rfl rfl rfl rfl aK1b ?_
  refine VA.takeX (i := 5) rfl (by kernel_rfl) (by kernel_rfl) (by kernel_rfl) rfl rfl rfl rfl aK1b ?_
  refine VA.take (i := 6) rfl (by kernel_rfl) (by kernel_rfl) (by kernel_rfl) rfl rfl (OpV.pickF rfl rfl rfl rfl aK1b) ?_
  refine VA.done (by kernel_rfl) ?_
  refine VC.condF rfl rfl ?_
  refine VC.skip ?_
  refine VC.seq ?_
  refine VC.seq ?_
  have hcut : ¬ (a.found = true ∧ a.least ≤ mxT ms ns pl) := fun ⟨e1, e2⟩ => by first | omega | (simp_all; done)
  refine VC.region ?_
  refine VO.mv rfl rfl rfl rfl ?_
  refine VO.val rfl rfl (OpV.load_own (i := 11) rfl hB Tryz.isAgg28 rfl rfl rfl (fun h => h)) ?_
  refine VO.val rfl rfl (OpV.len_im rfl Tryz.underlying28 rfl) ?_
  refine VO.val rfl rfl (OpV.eql rfl rfl rfl) ?_
  refine VO.nil ?_
  refine VC.cond rfl (fun h1b => ?_) (fun h1b => ?_)
  ·have h1 := h1b
   try simp only [qqT, qqF, qqN, qqM, qqL, qqE] at h1
   obtain rfl : d = 0 := by omega
   have hzp : z = pl := by rw [← hzt, List.take_of_length_le (by omega)]
   subst hzp
   refine VC.seq ?_
   refine VC.hap (fun hap => ?_)
   have n1f := apart_ne hap (i := 1) (j := 8) rfl rfl (by decide)
   have n1l := apart_ne hap (i := 1) (j := 7) rfl rfl (by decide)
   have n1b := apart_ne hap (i := 1) (j := 9) rfl rfl (by decide)
   have n3f := apart_ne hap (i := 3) (j := 8) rfl rfl (by decide)
   have n3l := apart_ne hap (i := 3) (j := 7) rfl rfl (by decide)
   have n3b := apart_ne hap (i := 3) (j := 9) rfl rfl (by decide)
   refine VC.draw (fun j b => j ∈ [4, 5, 6] ∧ (b = gb ∨ b = gl ∨ b = gf)) hB (by kernel_rfl) ?_
   refine VA.take (i := 0) rfl (by kernel_rfl) (by kernel_rfl) (by kernel_rfl) rfl rfl (OpV.load_own (i := 1) rfl hB Tryz.isAgg22 rfl rfl rfl (fun ⟨_, _, _, h⟩ => h.elim n1b (fun h => h.elim n1l n1f))) ?_
   refine VA.take (i := 2) rfl (by kernel_rfl) (by kernel_rfl) (by kernel_rfl) rfl rfl (OpV.load_own (i := 3) rfl hB Tryz.isAgg22 rfl rfl rfl (fun ⟨_, _, _, h⟩ => h.elim n3b (fun h => h.elim n3l n3f))) ?_
   refine VA.all (rs := [1]) (by kernel_rfl) (by decide) ?_
   refine ⟨⟨_, rfl, .inl rfl, ?_⟩, trivial⟩
   refine OpE.callR rfl hB rfl Tryz.call94 (slices_Clone_R (by omega)) (ArgsP.cons (ArgP.boxI (i := 2) rfl rfl hz.symm (Nat.le_refl _) (capM (by omega))) (ArgsP.nil)) ?_
   intro u25
   refine VA.le _ (Le.pickH [0, 1, 2, 3, 4, 5, 6, 7, 8, 9, 13, 11, 12] rfl rfl) ?_
   refine VA.rowIs (i := 10) rfl (fun b25 c25 hu25 => ?_)
   subst hu25
   refine VA.all (rs := [3]) (by kernel_rfl) (by decide) ?_
   refine ⟨⟨_, rfl, .inl rfl, ?_⟩, trivial⟩
   refine OpE.callL rfl hB rfl Tryz.call93 (slices_Max_int (by rw [nowL_len]; omega) (by rw [nowL_len]; omega)) (ArgsP.cons (ArgP.boxI (i := 4) rfl rfl (nowL_len _).symm hcw.1 hcw.2) (ArgsP.nil)) ?_
   rintro _ rfl
   refine VA.le _ (Le.recast (t := 27) (y := avI (mxT ms ns z)) rfl (fun w Z u h => by rw [← nowL_max hM hlen.1]; exact h)) ?_
   refine VA.all (rs := [4]) (by kernel_rfl) (by decide) ?_
   refine ⟨⟨_, rfl, .inl rfl, ?_⟩, trivial⟩
   refine OpE.store (i := 9) rfl hB rfl Tryz.sizeOf22 rfl rfl rfl rfl rfl rfl (Nle rfl) (⟨by decide, by first | exact .inl rfl | exact .inr (.inl rfl) | exact .inr (.inr rfl)⟩) ?_
   refine VA.all (rs := [5]) (by kernel_rfl) (by decide) ?_
   refine ⟨⟨_, rfl, .inl rfl, ?_⟩, trivial⟩
   refine OpE.store (i := 7) rfl hB rfl Tryz.sizeOf3 rfl rfl rfl rfl rfl rfl (Nle rfl) (⟨by decide, by first | exact .inl rfl | exact .inr (.inl rfl) | exact .inr (.inr rfl)⟩) ?_
   refine VA.all (rs := [6]) (by kernel_rfl) (by decide) ?_
   refine ⟨⟨_, rfl, .inl rfl, ?_⟩, trivial⟩
   refine OpE.store (i := 8) rfl hB rfl Tryz.sizeOf4 rfl rfl rfl rfl rfl rfl (Nle rfl) (⟨by decide, by first | exact .inl rfl | exact .inr (.inl rfl) | exact .inr (.inr rfl)⟩) ?_
   refine VA.done (by kernel_rfl) ?_
   refine VC.ret ?_
   exact Exists.intro _ (And.intro (RetV.none Tryz.results92) ((by (try clear hap); exact ⟨z, .slice b25 z.length c25, hz, hzt, by rw [dfsB_zero hcut]; rfl⟩)))
  ·have h1 := h1b
   try simp only [qqT, qqF, qqN, qqM, qqL, qqE] at h1
   obtain ⟨d', rfl⟩ : ∃ d', d = d' + 1 := ⟨d - 1, by omega⟩
   have hpl : pl.length < ns.length := by omega
   refine VC.skip ?_
   refine VC.sr ?_
   refine VO.val rfl rfl (OpV.load_own (i := 12) rfl hB Tryz.isAgg26 rfl rfl rfl (fun h => h)) ?_
   refine VO.val rfl rfl (OpV.len_im rfl Tryz.underlying26 rfl) ?_
   refine VO.mv rfl rfl rfl rfl ?_
   refine VO.nil ?_
   refine VC.block ?_
   refine VC.loopK [(0, _), (2, _), (4, _), (5, _), (8, _), (9, _), (28, _), (29, _)] ⟨rfl, rfl, rfl, rfl, rfl, rfl, rfl, rfl, trivial⟩ ({t : (Value × List Int × BalS) × Nat // t.2 ≤ ms.length ∧ t.1.2.1.length = ns.length ∧ t.1.2.1.take pl.length = pl ∧ t.1.2.2 = dfsK ms ns d' pl a t.2}) (fun (iZ : {t : (Value × List Int × BalS) × Nat // t.2 ≤ ms.length ∧ t.1.2.1.length = ns.length ∧ t.1.2.1.take pl.length = pl ∧ t.1.2.2 = dfsK ms ns d' pl a t.2}) => match iZ with | ⟨⟨⟨uu, zz, aa⟩, q⟩, hq, hzz, hzzt, haa⟩ => [(30, avI (q : Int))]) (fun (iZ : {t : (Value × List Int × BalS) × Nat // t.2 ≤ ms.length ∧ t.1.2.1.length = ns.length ∧ t.1.2.1.take pl.length = pl ∧ t.1.2.2 = dfsK ms ns d' pl a t.2}) => match iZ with | ⟨⟨⟨uu, zz, aa⟩, q⟩, hq, hzz, hzzt, haa⟩ => ownB ms ns pl gf gw gl gn gp gb gm gy gt gpa gwa gya cw zz uu aa) (fun (iZ : {t : (Value × List Int × BalS) × Nat // t.2 ≤ ms.length ∧ t.1.2.1.length = ns.length ∧ t.1.2.1.take pl.length = pl ∧ t.1.2.2 = dfsK ms ns d' pl a t.2}) => match iZ with | ⟨⟨⟨uu, zz, aa⟩, q⟩, hq, hzz, hzzt, haa⟩ => 0) (fun (iZ : {t : (Value × List Int × BalS) × Nat // t.2 ≤ ms.length ∧ t.1.2.1.length = ns.length ∧ t.1.2.1.take pl.length = pl ∧ t.1.2.2 = dfsK ms ns d' pl a t.2}) => match iZ with | ⟨⟨⟨uu, zz, aa⟩, q⟩, hq, hzz, hzzt, haa⟩ => ms.length - q) ⟨((ub, z, a), 0), Nat.zero_le _, hz, hzt, rfl⟩ (Le.mkP hB ⟨rfl, rfl, rfl, rfl, rfl, rfl, rfl, rfl, rfl, trivial⟩ (List.Sublist.refl _) (List.Perm.refl _) (Nat.le_refl _)) ?_
   rintro ⟨⟨⟨uu, zz, aa⟩, q⟩, hq, hzz, hzzt, haa⟩
   show VC _ _ _ _ ⟨[(30, avI (q : Int))] ++ [(0, _), (2, _), (4, _), (5, _), (8, _), (9, _), (28, _), (29, _)], ownB ms ns pl gf gw gl gn gp gb gm gy gt gpa gwa gya cw zz uu aa, 0⟩
   simp only at hq hzz hzzt haa
   have hti := timB_in hM q (plB pl q) ns.length
   have hmu := mul_in2 (hM.each q) (hM.cnt pl.length)
   have hnb := numB_le (plB pl q) ns.length
   refine VC.sr ?_
   refine VO.val rfl rfl (OpV.lss rfl rfl rfl) ?_
   refine VO.nil ?_
   refine VC.seq ?_
   refine VC.cond rfl (fun aH4b => ?_) (fun aH4b => ?_)
   ·have aH4 := aH4b
    try simp only [qqT, qqF, qqN, qqM, qqL, qqE] at aH4
    refine VC.skip ?_
    refine VC.seq ?_
    refine VC.block ?_
    refine VC.sr ?_
    refine VO.mv rfl rfl rfl rfl ?_
    refine VO.val rfl rfl (OpV.indexAddr_E rfl Tryz.underlying26 Tryz.sizeOf106 rfl rfl rfl (by omega)) ?_
    refine VO.val rfl rfl (OpV.loadK_at rfl hB OutW.no Tryz.isAgg106 Tryz.sizeOf106 rfl rfl) ?_
    refine VO.op rfl (OpE.alloc rfl hB rfl Tryz.zeroValue106 rfl ?_)
    intro g12
    refine VO.ma rfl rfl rfl rfl ?_
    refine VO.op rfl (OpE.store (i := 13) rfl hB rfl Tryz.sizeOf106 rfl rfl rfl rfl rfl rfl (Nle rfl) trivial ?_)
    refine VO.nil ?_
    refine VC.seq ?_
    refine VC.seq ?_
    refine VC.draw (fun _ => NoB) hB (by kernel_rfl) ?_
    refine VA.take (i := 0) rfl (by kernel_rfl) (by kernel_rfl) (by kernel_rfl) rfl rfl (OpV.load_own (i := 5) rfl hB Tryz.isAgg22 rfl rfl rfl Wi.not0) ?_
    refine VA.take (i := 1) rfl (by kernel_rfl) (by kernel_rfl) (by kernel_rfl) rfl rfl (OpV.move (.inl rfl) rfl) ?_
    refine VA.take (i := 2) rfl (by kernel_rfl) (by kernel_rfl) (by kernel_rfl) rfl rfl (OpV.indexAddr_o rfl Tryz.underlying22 Tryz.sizeOf3 rfl rfl rfl (by omega)) ?_
    refine VA.take (i := 3) rfl (by kernel_rfl) (by kernel_rfl) (by kernel_rfl) rfl rfl (OpV.load_own (i := 6) rfl hB Tryz.isAgg3 rfl rfl (intsL_getV (by rw [manL_len]; omega) (manL_get (by omega))) Wi.not0) ?_
    refine VA.take (i := 4) rfl (by kernel_rfl) (by kernel_rfl) (by kernel_rfl) rfl rfl (OpV.fieldAddrO 3 rfl Tryz.underlying106 rfl rfl Tryz.sizeOf3 rfl) ?_
    refine VA.take (i := 5) rfl (by kernel_rfl) (by kernel_rfl) (by kernel_rfl) rfl rfl (OpV.load_own (i := 13) rfl hB Tryz.isAgg3 rfl rfl rfl Wi.not0) ?_
    refine VA.take (i := 6) rfl (by kernel_rfl) (by kernel_rfl) (by kernel_rfl) rfl rfl (OpV.eql rfl rfl rfl) ?_
    refine VA.take (i := 7) rfl (by kernel_rfl) (by kernel_rfl) (by kernel_rfl) rfl rfl (OpV.move (.inl rfl) rfl) ?_
    refine VA.split (t := 42) rfl (fun aK5b => ?_) (fun aK5b => ?_)
    ·have aK5 := aK5b
     try simp only [qqT, qqF, qqN, qqM, qqL, qqE] at aK5
     refine VA.takeX (i := 8) rfl (by kernel_rfl) (by kernel_rfl) (by kernel_rfl) rfl rfl rfl rfl aK5b ?_
     refine VA.takeX (i := 9) rfl (by kernel_rfl) (by kernel_rfl) (by kernel_rfl) rfl rfl rfl rfl aK5b ?_
     refine VA.takeX (i := 10) rfl (by kernel_rfl) (by kernel_rfl) (by kernel_rfl) rfl rfl rfl rfl aK5b ?_
     refine VA.takeX (i := 11) rfl (by kernel_rfl) (by kernel_rfl) (by kernel_rfl) rfl rfl rfl rfl aK5b ?_
     refine VA.takeX (i := 12) rfl (by kernel_rfl) (by kernel_rfl) (by kernel_rfl) rfl rfl rfl rfl aK5b ?_
     refine VA.takeX (i := 13) rfl (by kernel_rfl) (by kernel_rfl) (by kernel_rfl) rfl rfl rfl rfl aK5b ?_
     refine VA.takeX (i := 14) rfl (by kernel_rfl) (by kernel_rfl) (by kernel_rfl) rfl rfl rfl rfl aK5b ?_
     refine VA.takeX (i := 15) rfl (by kernel_rfl) (by kernel_rfl) (by kernel_rfl) rfl rfl rfl rfl aK5b ?_
     refine VA.takeX (i := 16) rfl (by kernel_rfl) (by kernel_rfl) (by kernel_rfl) rfl rfl rfl rfl aK5b ?_
     refine VA.take (i := 17) rfl (by kernel_rfl) (by kernel_rfl) (by kernel_rfl) rfl rfl (OpV.pickT rfl rfl rfl rfl aK5b) ?_
     refine VA.done (by kernel_rfl) ?_
     refine VC.condT rfl rfl ?_
     refine VC.exit ?_
     refine VC.le _ (Le.pickH [0, 1, 2, 3, 4, 5, 6, 7, 8, 9, 10, 11, 12] rfl rfl) ?_
     refine VC.region ?_
     refine VO.val rfl rfl (OpV.add rfl rfl rfl (by unfold fits; omega)) ?_
     refine VO.mv rfl rfl rfl rfl ?_
     refine VO.nil ?_
     exact Exists.intro (⟨((uu, zz, aa), q + 1), by show q + 1 ≤ ms.length; omega, hzz, hzzt, by show aa = dfsK ms ns d' pl a (q + 1); first | rw [dfsK_no hmy, haa] | rw [dfsK_no (fun hc => by rw [mayP_iff (by omega)] at hc; omega), haa]⟩) (And.intro (Le.mkP hB ⟨rfl, rfl, rfl, rfl, rfl, rfl, rfl, rfl, rfl, trivial⟩ (List.Sublist.refl _) (List.Perm.refl _) (Nat.le_refl _)) (by first | omega | (show _ < _; omega) | (simp only []; omega)))
    ·have aK5 := aK5b
     try simp only [qqT, qqF, qqN, qqM, qqL, qqE] at aK5
     refine VA.takeY (i := 8) rfl (by kernel_rfl) (by kernel_rfl) (by kernel_rfl) rfl rfl rfl rfl aK5b (OpV.fieldAddrO 4 rfl Tryz.underlying106 rfl rfl Tryz.sizeOf40 rfl) ?_
     refine VA.takeY (i := 9) rfl (by kernel_rfl) (by kernel_rfl) (by kernel_rfl) rfl rfl rfl rfl aK5b (OpV.load_own (i := 13) rfl hB Tryz.isAgg40 rfl rfl rfl Wi.not0) ?_
     refine VA.takeY (i := 10) rfl (by kernel_rfl) (by kernel_rfl) (by kernel_rfl) rfl rfl rfl rfl aK5b (OpV.load_own (i := 11) rfl hB Tryz.isAgg28 rfl rfl rfl Wi.not0) ?_
     refine VA.takeY (i := 11) rfl (by kernel_rfl) (by kernel_rfl) (by kernel_rfl) rfl rfl rfl rfl aK5b (OpV.move (.inl rfl) rfl) ?_
     refine VA.takeY (i := 12) rfl (by kernel_rfl) (by kernel_rfl) (by kernel_rfl) rfl rfl rfl rfl aK5b (OpV.indexAddr_E rfl Tryz.underlying28 Tryz.sizeOf111 rfl rfl rfl (by omega)) ?_
     refine VA.takeY (i := 13) rfl (by kernel_rfl) (by kernel_rfl) (by kernel_rfl) rfl rfl rfl rfl aK5b (OpV.fieldAddr_atO 0 rfl Tryz.underlying111 rfl rfl Tryz.sizeOf9 rfl rfl) ?_
     refine VA.takeY (i := 14) rfl (by kernel_rfl) (by kernel_rfl) (by kernel_rfl) rfl rfl rfl rfl aK5b (OpV.load_at rfl hB OutW.wi0 Tryz.isAgg9 rfl rfl) ?_
     refine VA.all (rs := [15]) (by kernel_rfl) (by decide) ?_
     refine ⟨⟨_, rfl, .inr ⟨_, _, _, rfl, rfl, (look_k rfl aK5b)⟩, ?_⟩, trivial⟩
     refine OpE.call rfl hB rfl Tryz.call67 rfl (SpecN.spec (slices_Contains_str (by have := canF_keys (machF_each hm (i := q) (by omega)).2; omega))) ?_
     rintro _ rfl
     refine VA.takeY (i := 16) rfl (by kernel_rfl) (by kernel_rfl) (by kernel_rfl) rfl rfl rfl rfl aK5b (OpV.not rfl rfl) ?_
     refine VA.take (i := 17) rfl (by kernel_rfl) (by kernel_rfl) (by kernel_rfl) rfl rfl (OpV.pickF rfl rfl rfl rfl aK5b) ?_
     refine VA.done (by kernel_rfl) ?_
     refine VC.cond rfl (fun h3b => ?_) (fun h3b => ?_)
     ·have h3 := h3b
      try simp only [qqT, qqF, qqN, qqM, qqL, qqE] at h3
      have hmy : ¬ mayP ms ns pl q := fun hc => by
       rw [mayP_iff (by omega)] at hc
       first | (have h9 := hc.1; unfold hasK at h9; rw [h3] at h9; cases h9) | (have := hc.2; omega)
      refine VC.exit ?_
      refine VC.le _ (Le.pickH [0, 1, 2, 3, 4, 5, 6, 7, 8, 9, 10, 11, 12] rfl rfl) ?_
      refine VC.region ?_
      refine VO.val rfl rfl (OpV.add rfl rfl rfl (by unfold fits; omega)) ?_
      refine VO.mv rfl rfl rfl rfl ?_
      refine VO.nil ?_
      exact Exists.intro (⟨((uu, zz, aa), q + 1), by show q + 1 ≤ ms.length; omega, hzz, hzzt, by show aa = dfsK ms ns d' pl a (q + 1); first | rw [dfsK_no hmy, haa] | rw [dfsK_no (fun hc => by rw [mayP_iff (by omega)] at hc; omega), haa]⟩) (And.intro (Le.mkP hB ⟨rfl, rfl, rfl, rfl, rfl, rfl, rfl, rfl, rfl, trivial⟩ (List.Sublist.refl _) (List.Perm.refl _) (Nat.le_refl _)) (by first | omega | (show _ < _; omega) | (simp only []; omega)))
     ·have h3 := h3b
      try simp only [qqT, qqF, qqN, qqM, qqL, qqE] at h3
      have hmy : mayP ms ns pl q := by
       rw [mayP_iff (by omega)]
       have := okB_num (hok q (by omega)) (machF_each hm (i := q) (by omega)).1.2.2.1 ns.length (Nat.le_refl _)
       exact ⟨by simp_all [hasK], by omega⟩
      refine VC.skip ?_
      refine VC.sr ?_
      refine VO.val rfl rfl (OpV.load_own (i := 5) rfl hB Tryz.isAgg22 rfl rfl rfl (fun h => h)) ?_
      refine VO.mv rfl rfl rfl rfl ?_
      refine VO.val rfl rfl (OpV.indexAddr_o rfl Tryz.underlying22 Tryz.sizeOf3 rfl rfl rfl (by omega)) ?_
      refine VO.val rfl rfl (OpV.load_own (i := 6) rfl hB Tryz.isAgg3 rfl rfl (intsL_getV (by rw [manL_len]; omega) (manL_get (by omega))) (fun h => h)) ?_
      refine VO.val rfl rfl (OpV.add rfl rfl rfl (by unfold fits; omega)) ?_
      refine VO.val rfl rfl (OpV.indexAddr_o rfl Tryz.underlying22 Tryz.sizeOf3 rfl rfl rfl (by omega)) ?_
      refine VO.op rfl (OpE.store1 (i := 6) rfl hB rfl Tryz.sizeOf3 rfl rfl rfl rfl rfl rfl (by rw [intsL_len, manL_len]; omega) ((intsL_set _ _ _).trans (congrArg intsL (manL_set hpl))) trivial ?_)
      refine VO.nil ?_
      refine VC.seq ?_
      refine VC.draw (fun j b => j = 14 ∧ b = gwa) hB (by kernel_rfl) ?_
      refine VA.take (i := 0) rfl (by kernel_rfl) (by kernel_rfl) (by kernel_rfl) rfl rfl (OpV.load_own (i := 3) rfl hB Tryz.isAgg22 rfl rfl rfl (by first | exact Wi.not1 (by kernel_rfl) | exact Wi.not2 (by kernel_rfl) (by kernel_rfl) | exact Wi.notX (by kernel_rfl))) ?_
      refine VA.take (i := 1) rfl (by kernel_rfl) (by kernel_rfl) (by kernel_rfl) rfl rfl (OpV.move (.inl rfl) rfl) ?_
      refine VA.take (i := 2) rfl (by kernel_rfl) (by kernel_rfl) (by kernel_rfl) rfl rfl (OpV.indexAddr_o rfl Tryz.underlying22 Tryz.sizeOf3 rfl rfl rfl (by omega)) ?_
      refine VA.take (i := 3) rfl (by kernel_rfl) (by kernel_rfl) (by kernel_rfl) rfl rfl (OpV.load_own (i := 4) rfl hB Tryz.isAgg3 rfl rfl (intsL_getV (by rw [nowL_len]; omega) (nowL_get (by omega))) (by first | exact Wi.not1 (by kernel_rfl) | exact Wi.not2 (by kernel_rfl) (by kernel_rfl) | exact Wi.notX (by kernel_rfl))) ?_
      refine VA.take (i := 4) rfl (by kernel_rfl) (by kernel_rfl) (by kernel_rfl) rfl rfl (OpV.fieldAddrO 1 rfl Tryz.underlying106 rfl rfl Tryz.sizeOf3 rfl) ?_
      refine VA.take (i := 5) rfl (by kernel_rfl) (by kernel_rfl) (by kernel_rfl) rfl rfl (OpV.load_own (i := 13) rfl hB Tryz.isAgg3 rfl rfl rfl (by first | exact Wi.not1 (by kernel_rfl) | exact Wi.not2 (by kernel_rfl) (by kernel_rfl) | exact Wi.notX (by kernel_rfl))) ?_
      refine VA.take (i := 6) rfl (by kernel_rfl) (by kernel_rfl) (by kernel_rfl) rfl rfl (OpV.load_own (i := 11) rfl hB Tryz.isAgg28 rfl rfl rfl (by first | exact Wi.not1 (by kernel_rfl) | exact Wi.not2 (by kernel_rfl) (by kernel_rfl) | exact Wi.notX (by kernel_rfl))) ?_
      refine VA.take (i := 7) rfl (by kernel_rfl) (by kernel_rfl) (by kernel_rfl) rfl rfl (OpV.move (.inl rfl) rfl) ?_
      refine VA.take (i := 8) rfl (by kernel_rfl) (by kernel_rfl) (by kernel_rfl) rfl rfl (OpV.indexAddr_E rfl Tryz.underlying28 Tryz.sizeOf111 rfl rfl rfl (by omega)) ?_
      refine VA.take (i := 9) rfl (by kernel_rfl) (by kernel_rfl) (by kernel_rfl) rfl rfl (OpV.fieldAddr_atO 1 rfl Tryz.underlying111 rfl rfl Tryz.sizeOf3 rfl rfl) ?_
      refine VA.take (i := 10) rfl (by kernel_rfl) (by kernel_rfl) (by kernel_rfl) rfl rfl (OpV.load_at rfl hB (by first | exact OutW.wi1 (k := 0) rfl rfl | exact OutW.wi1 (k := 1) rfl rfl | exact OutW.wi1 (k := 2) rfl rfl | exact OutW.wi1 (k := 3) rfl rfl | exact OutW.wi1 (k := 4) rfl rfl | exact OutW.wi1 (k := 5) rfl rfl | exact OutW.wi1 (k := 6) rfl rfl | exact OutW.wi1 (k := 7) rfl rfl | exact OutW.wi1 (k := 8) rfl rfl | exact OutW.wi1 (k := 9) rfl rfl | exact OutW.wi1 (k := 10) rfl rfl | exact OutW.wi1 (k := 11) rfl rfl | exact OutW.wi1 (k := 12) rfl rfl | exact OutW.wi1 (k := 13) rfl rfl) Tryz.isAgg3 rfl rfl) ?_
      refine VA.take (i := 11) rfl (by kernel_rfl) (by kernel_rfl) (by kernel_rfl) rfl rfl (OpV.mul rfl rfl rfl (by unfold fits; omega)) ?_
      refine VA.take (i := 12) rfl (by kernel_rfl) (by kernel_rfl) (by kernel_rfl) rfl rfl (OpV.add rfl rfl rfl (by unfold fits; omega)) ?_
      refine VA.take (i := 13) rfl (by kernel_rfl) (by kernel_rfl) (by kernel_rfl) rfl rfl (OpV.indexAddr_o rfl Tryz.underlying22 Tryz.sizeOf3 rfl rfl rfl (by omega)) ?_
      refine VA.all (rs := [14]) (by kernel_rfl) (by decide) ?_
      refine ⟨⟨_, rfl, .inl rfl, ?_⟩, trivial⟩
      refine OpE.store1 (i := 4) rfl hB rfl Tryz.sizeOf3 rfl rfl rfl rfl rfl rfl (by rw [intsL_len, nowL_len]; omega) ((intsL_set _ _ _).trans (congrArg intsL (nowL_set hpl))) (by first | exact ⟨rfl, rfl⟩ | exact .inl ⟨rfl, rfl⟩ | exact .inr ⟨rfl, rfl⟩ | exact ⟨rfl, trivial⟩ | exact .inl ⟨rfl, trivial⟩ | exact .inr ⟨rfl, trivial⟩ | exact ⟨by decide, rfl⟩) ?_
      refine VA.done (by kernel_rfl) ?_
      refine VC.sr ?_
      refine VO.val rfl rfl (OpV.load_own (i := 1) rfl hB Tryz.isAgg22 rfl rfl rfl (fun h => h)) ?_
      refine VO.mv rfl rfl rfl rfl ?_
      refine VO.mv rfl rfl rfl rfl ?_
      refine VO.val rfl rfl (OpV.indexAddr_o rfl Tryz.underlying22 Tryz.sizeOf3 rfl rfl rfl (by omega)) ?_
      refine VO.op rfl (OpE.store1 (i := 2) rfl hB rfl Tryz.sizeOf3 rfl rfl rfl rfl rfl rfl (by rw [intsL_len]; omega) (intsL_set _ _ _) trivial ?_)
      refine VO.nil ?_
      refine VC.sr ?_
      refine VO.val rfl rfl (OpV.load_own (i := 0) rfl hB Tryz.isAgg127 rfl rfl rfl (fun h => h)) ?_
      refine VO.mv rfl rfl rfl rfl ?_
      refine VO.val rfl rfl (OpV.add rfl rfl rfl (by unfold fits; omega)) ?_
      refine VO.op rfl (OpE.callH (rest := [_]) rfl hB rfl Tryz.call92 rfl rfl (by have hi := ih d' rfl (pl ++ [(q : Int)]) (zz.set pl.length (q : Int)) aa uu (okP_snoc hok hpl hmy) (by rw [List.length_append]; show pl.length + 1 + d' = _; omega) (by rw [List.length_set]; exact hzz) (take_set1 hzzt (by omega)); rw [List.length_append] at hi; exact hi) (List.Perm.refl _) (fun _ _ => trivial) ?_)
      rintro _ _ ⟨z3, u3, hz3, hz3t', rfl⟩
      have hz3t : z3.take pl.length = pl := take_less hz3t'
      refine VO.nil ?_
      refine VC.seq ?_
      refine VC.draw (fun j b => j = 14 ∧ b = gwa) hB (by kernel_rfl) ?_
      refine VA.take (i := 0) rfl (by kernel_rfl) (by kernel_rfl) (by kernel_rfl) rfl rfl (OpV.load_own (i := 3) rfl hB Tryz.isAgg22 rfl rfl rfl (by first | exact Wi.not1 (by kernel_rfl) | exact Wi.not2 (by kernel_rfl) (by kernel_rfl) | exact Wi.notX (by kernel_rfl))) ?_
      refine VA.take (i := 1) rfl (by kernel_rfl) (by kernel_rfl) (by kernel_rfl) rfl rfl (OpV.move (.inl rfl) rfl) ?_
      refine VA.take (i := 2) rfl (by kernel_rfl) (by kernel_rfl) (by kernel_rfl) rfl rfl (OpV.indexAddr_o rfl Tryz.underlying22 Tryz.sizeOf3 rfl rfl rfl (by omega)) ?_
      refine VA.take (i := 3) rfl (by kernel_rfl) (by kernel_rfl) (by kernel_rfl) rfl rfl (OpV.load_own (i := 4) rfl hB Tryz.isAgg3 rfl rfl (intsL_getV (by rw [nowL_len]; omega) (nowL_snoc hpl (by omega))) (by first | exact Wi.not1 (by kernel_rfl) | exact Wi.not2 (by kernel_rfl) (by kernel_rfl) | exact Wi.notX (by kernel_rfl))) ?_
      refine VA.take (i := 4) rfl (by kernel_rfl) (by kernel_rfl) (by kernel_rfl) rfl rfl (OpV.fieldAddrO 1 rfl Tryz.underlying106 rfl rfl Tryz.sizeOf3 rfl) ?_
      refine VA.take (i := 5) rfl (by kernel_rfl) (by kernel_rfl) (by kernel_rfl) rfl rfl (OpV.load_own (i := 13) rfl hB Tryz.isAgg3 rfl rfl rfl (by first | exact Wi.not1 (by kernel_rfl) | exact Wi.not2 (by kernel_rfl) (by kernel_rfl) | exact Wi.notX (by kernel_rfl))) ?_
      refine VA.take (i := 6) rfl (by kernel_rfl) (by kernel_rfl) (by kernel_rfl) rfl rfl (OpV.load_own (i := 11) rfl hB Tryz.isAgg28 rfl rfl rfl (by first | exact Wi.not1 (by kernel_rfl) | exact Wi.not2 (by kernel_rfl) (by kernel_rfl) | exact Wi.notX (by kernel_rfl))) ?_
      refine VA.take (i := 7) rfl (by kernel_rfl) (by kernel_rfl) (by kernel_rfl) rfl rfl (OpV.move (.inl rfl) rfl) ?_
      refine VA.take (i := 8) rfl (by kernel_rfl) (by kernel_rfl) (by kernel_rfl) rfl rfl (OpV.indexAddr_E rfl Tryz.underlying28 Tryz.sizeOf111 rfl rfl rfl (by omega)) ?_
      refine VA.take (i := 9) rfl (by kernel_rfl) (by kernel_rfl) (by kernel_rfl) rfl rfl (OpV.fieldAddr_atO 1 rfl Tryz.underlying111 rfl rfl Tryz.sizeOf3 rfl rfl) ?_
      refine VA.take (i := 10) rfl (by kernel_rfl) (by kernel_rfl) (by kernel_rfl) rfl rfl (OpV.load_at rfl hB (by first | exact OutW.wi1 (k := 0) rfl rfl | exact OutW.wi1 (k := 1) rfl rfl | exact OutW.wi1 (k := 2) rfl rfl | exact OutW.wi1 (k := 3) rfl rfl | exact OutW.wi1 (k := 4) rfl rfl | exact OutW.wi1 (k := 5) rfl rfl | exact OutW.wi1 (k := 6) rfl rfl | exact OutW.wi1 (k := 7) rfl rfl | exact OutW.wi1 (k := 8) rfl rfl | exact OutW.wi1 (k := 9) rfl rfl | exact OutW.wi1 (k := 10) rfl rfl | exact OutW.wi1 (k := 11) rfl rfl | exact OutW.wi1 (k := 12) rfl rfl | exact OutW.wi1 (k := 13) rfl rfl) Tryz.isAgg3 rfl rfl) ?_
      refine VA.take (i := 11) rfl (by kernel_rfl) (by kernel_rfl) (by kernel_rfl) rfl rfl (OpV.mul rfl rfl rfl (by unfold fits; omega)) ?_
      refine VA.take (i := 12) rfl (by kernel_rfl) (by kernel_rfl) (by kernel_rfl) rfl rfl (OpV.sub rfl rfl rfl (by unfold fits; omega)) ?_
      refine VA.take (i := 13) rfl (by kernel_rfl) (by kernel_rfl) (by kernel_rfl) rfl rfl (OpV.indexAddr_o rfl Tryz.underlying22 Tryz.sizeOf3 rfl rfl rfl (by omega)) ?_
      refine VA.all (rs := [14]) (by kernel_rfl) (by decide) ?_
      refine ⟨⟨_, rfl, .inl rfl, ?_⟩, trivial⟩
      refine OpE.store1 (i := 4) rfl hB rfl Tryz.sizeOf3 rfl rfl rfl rfl rfl rfl (by rw [intsL_len, nowL_len]; omega) ((intsL_set _ _ _).trans (congrArg intsL (nowL_back' hpl))) (by first | exact ⟨rfl, rfl⟩ | exact .inl ⟨rfl, rfl⟩ | exact .inr ⟨rfl, rfl⟩ | exact ⟨rfl, trivial⟩ | exact .inl ⟨rfl, trivial⟩ | exact .inr ⟨rfl, trivial⟩ | exact ⟨by decide, rfl⟩) ?_
      refine VA.done (by kernel_rfl) ?_
      refine VC.region ?_
      refine VO.val rfl rfl (OpV.load_own (i := 5) rfl hB Tryz.isAgg22 rfl rfl rfl (fun h => h)) ?_
      refine VO.mv rfl rfl rfl rfl ?_
      refine VO.val rfl rfl (OpV.indexAddr_o rfl Tryz.underlying22 Tryz.sizeOf3 rfl rfl rfl (by omega)) ?_
      refine VO.val rfl rfl (OpV.load_own (i := 6) rfl hB Tryz.isAgg3 rfl rfl (intsL_getV (by rw [manL_len]; omega) (manL_snoc hpl (by omega))) (fun h => h)) ?_
      refine VO.val rfl rfl (OpV.sub rfl rfl rfl (by unfold fits; omega)) ?_
      refine VO.val rfl rfl (OpV.indexAddr_o rfl Tryz.underlying22 Tryz.sizeOf3 rfl rfl rfl (by omega)) ?_
      refine VO.op rfl (OpE.store1 (i := 6) rfl hB rfl Tryz.sizeOf3 rfl rfl rfl rfl rfl rfl (by rw [intsL_len, manL_len]; omega) ((intsL_set _ _ _).trans (congrArg intsL (manL_back' hpl))) trivial ?_)
      refine VO.nil ?_
      refine VC.le _ (Le.pickH [0, 1, 2, 3, 4, 5, 6, 7, 8, 9, 10, 11, 12] rfl rfl) ?_
      refine VC.region ?_
      refine VO.val rfl rfl (OpV.add rfl rfl rfl (by unfold fits; omega)) ?_
      refine VO.mv rfl rfl rfl rfl ?_
      refine VO.nil ?_
      exact Exists.intro (⟨((u3, z3, dfsB ms ns d' (pl ++ [(q : Int)]) aa), q + 1), by show q + 1 ≤ ms.length; omega, hz3, hz3t, by show dfsB ms ns d' (pl ++ [(q : Int)]) aa = dfsK ms ns d' pl a (q + 1); rw [dfsK_yes hmy, ← haa]⟩) (And.intro (Le.mkP hB ⟨rfl, rfl, rfl, rfl, rfl, rfl, rfl, rfl, rfl, trivial⟩ (List.Sublist.refl _) (List.Perm.refl _) (Nat.le_refl _)) (by first | omega | (show _ < _; omega) | (simp only []; omega)))
   ·have aH4 := aH4b
    try simp only [qqT, qqF, qqN, qqM, qqL, qqE] at aH4
    obtain rfl : q = ms.length := by omega
    refine VC.exit ?_
    exact Exists.intro _ (And.intro (RetV.none Tryz.results92) (⟨zz, uu, hzz, hzzt, by rw [dfsB_succ hcut, ← haa]; rfl⟩))
theorem rf_BalanceOf1 {ms : List Mach} {ns : List NeedS} {gf gw gl gn gp gb gm gy gt gpa gwa gya cw : Nat} (hm : machF ms = 0) (hn : needsF ns 1 1000 = 0) (hcw : ms.length ≤ cw ∧ cw ≤ maxLen) : ∀ (d : Nat) (pl z : List Int) (a : BalS) (ub : Value), okP ms ns pl → pl.length + d = ns.length → z.length = ns.length → z.take pl.length = pl → SpecH Tryz.prog 92 [avI (pl.length : Int), pt gf, pt gw, pt gl, pt gn, pt gp, pt gb, pt gm, pt gy, pt gt] (ownB ms ns pl gf gw gl gn gp gb gm gy gt gpa gwa gya cw z ub a) (fun y hp' => ∃ z' ub', z'.length = ns.length ∧ z'.take pl.length = pl ∧ hp' = ownB ms ns pl gf gw gl gn gp gb gm gy gt gpa gwa gya cw z' ub' (dfsB ms ns d pl a))
 | 0, pl, z, a, ub, h1, h2, h3, h4 => rf_BalanceOf1_step hm hn hcw (fun d' e => by omega) h1 h2 h3 h4
 | d + 1, pl, z, a, ub, h1, h2, h3, h4 => rf_BalanceOf1_step hm hn hcw (fun d' e => by obtain rfl : d = d' := (by omega); exact rf_BalanceOf1 hm hn hcw d) h1 h2 h3 h4
end Go.Proofs.YtemnnmohdpabhaaGreatDoor
namespace Go.Proofs.YtemnnmohdpabhaaGreatDoor
open Go.RowKit
set_option linter.unusedVariables false
set_option linter.unusedSimpArgs false
theorem OpV.makeFunc9 {P : Program} {B : Bs} {W : Nat → Prop} {s : St'} {o : Oper} {fn : Fn} {c1 c2 c3 c4 c5 c6 c7 c8 c9 : Operand} {u1 u2 u3 u4 u5 u6 u7 u8 u9 : Value} (ho : o.op = .makeFunc fn #[] #[c1, c2, c3, c4, c5, c6, c7, c8, c9]) (h1 : evO s c1 = some (.v u1)) (h2 : evO s c2 = some (.v u2)) (h3 : evO s c3 = some (.v u3)) (h4 : evO s c4 = some (.v u4)) (h5 : evO s c5 = some (.v u5)) (h6 : evO s c6 = some (.v u6)) (h7 : evO s c7 = some (.v u7)) (h8 : evO s c8 = some (.v u8)) (h9 : evO s c9 = some (.v u9)) : OpV P B W s o (.v (.func fn #[] #[u1, u2, u3, u4, u5, u6, u7, u8, u9])) :=
 OpV.makeFunc ho fun a w hr => by simp [hr.evv h1, hr.evv h2, hr.evv h3, hr.evv h4, hr.evv h5, hr.evv h6, hr.evv h7, hr.evv h8, hr.evv h9]
abbrev ownV (ms : List Mach) (ns : List NeedS) (W Y : List Int) (gf gw gl gn gp gb gm gy gt gpa gwa gya cw : Nat) (z : List Int) (ub : Value) (a : BalS) : List Ent :=
 [.box gt ⟨[tryV gf gw gl gn gp gb gm gy gt], 127, 1⟩,
  .box gp ⟨[.v (.slice (some ⟨gpa, 0, none⟩) ns.length ns.length)], 22, 1⟩, .box gpa ⟨intsL z, 3, ns.length⟩,
  .box gw ⟨[.v (.slice (some ⟨gwa, 0, none⟩) ms.length cw)], 22, 1⟩, .box gwa ⟨intsL W, 3, cw * 1⟩,
  .box gy ⟨[.v (.slice (some ⟨gya, 0, none⟩) ms.length ms.length)], 22, 1⟩, .box gya ⟨intsL Y, 3, ms.length⟩,
  .box gl ⟨[avI a.least], 3, 1⟩, .box gf ⟨[avB a.found], 4, 1⟩, .box gb ⟨[.v ub], 22, 1⟩, .row ub a.best.length 1 (intsL a.best) 3,
  .box gn ⟨[avL ns], 28, 1⟩, .box gm ⟨[avL ms], 26, 1⟩]
theorem rf_BalanceOf0 {ms : List Mach} {ns : List NeedS} {gf gw gl gn gp gb gm gy gt gpa gwa gya cw : Nat} {W0 Y0 Z0 : List Int} {R : BalS} (hm : machF ms = 0) (hn : needsF ns 1 1000 = 0) (hcw : ms.length ≤ cw ∧ cw ≤ maxLen) (hW : cycL ms ns [] = W0) (hY : List.replicate ms.length (0 : Int) = Y0) (hZ : List.replicate ns.length (0 : Int) = Z0) (hR : dfsB ms ns ns.length [] ⟨[], 0, false⟩ = R) :
  SpecH Tryz.prog 92 [avI 0, pt gf, pt gw, pt gl, pt gn, pt gp, pt gb, pt gm, pt gy, pt gt] (ownV ms ns W0 Y0 gf gw gl gn gp gb gm gy gt gpa gwa gya cw Z0 (.slice none 0 0) ⟨[], 0, false⟩) (fun y hp' => ∃ z' ub', hp' = ownV ms ns W0 Y0 gf gw gl gn gp gb gm gy gt gpa gwa gya cw z' ub' R) := by
 have h := rf_BalanceOf1 (gf := gf) (gw := gw) (gl := gl) (gn := gn) (gp := gp) (gb := gb) (gm := gm) (gy := gy) (gt := gt) (gpa := gpa) (gwa := gwa) (gya := gya) hm hn hcw ns.length [] Z0 ⟨[], 0, false⟩ (.slice none 0 0) (okP_nil hm) (Nat.zero_add _) (by rw [← hZ, List.length_replicate]) rfl
 rw [hR] at h
 have e1 : nowL ms ns [] = W0 := nowL_nil.trans hW
 have e2 : manL ms ns [] = Y0 := manL_nil.trans hY
 subst e1 e2
 exact h.mono fun y hp' ⟨z', ub', _, _, h3⟩ => ⟨z', ub', h3⟩
def refB (ms : List Mach) (ns : List NeedS) : BalS := if 12 < ns.length then ⟨[], 0, false⟩ else dfsB ms ns ns.length [] ⟨[], 0, false⟩
theorem retB {ms : List Mach} {ns : List NeedS} {R : BalS} {e : Int} (h : refB ms ns = R) (he : e = 0) : AV.tup [avInts R.best, avI R.least, avB R.found, avI 0] = AV.tup [avInts (refB ms ns).best, avI (refB ms ns).least, avB (refB ms ns).found, avI e] := by rw [h, he]
set_option maxRecDepth 100000 in
set_option maxHeartbeats 16000000 in
theorem rf_BalanceOf {ms : List Mach} {ns : List NeedS} (hm : machF ms = 0) (hn : needsF ns 1 1000 = 0) :
  Spec Tryz.prog 22 [avL ms, avL ns] (fun y => y = .tup [avInts (refB ms ns).best, avI (refB ms ns).least, avB (refB ms ns).found, avI (if 12 < ns.length then 2 else 0)]) := by
 have hnl := needsF_len hn
 have hlen := machF_len hm
 obtain ⟨Z0, hZ0⟩ : ∃ Z0, List.replicate ns.length (0 : Int) = Z0 := ⟨_, rfl⟩
 obtain ⟨Y0, hY0⟩ : ∃ Y0, List.replicate ms.length (0 : Int) = Y0 := ⟨_, rfl⟩
 obtain ⟨W0, hW0⟩ : ∃ W0, cycL ms ns [] = W0 := ⟨_, rfl⟩
 obtain ⟨R, hR⟩ : ∃ R, dfsB ms ns ns.length [] ⟨[], 0, false⟩ = R := ⟨_, rfl⟩
 have hZl : Z0.length = ns.length := by rw [← hZ0, List.length_replicate]
 have hYl : Y0.length = ms.length := by rw [← hY0, List.length_replicate]
 have hcy := rf_CyclesOf_R (plan := []) hm hn (Nat.zero_le _)
 rw [hW0] at hcy
 refine Spec.of_VC Tryz.func22 rfl Tryz.ntmps22 (Nle rfl) fun w A hB => ?_
 have hnew : True := trivial
 refine VC.sr ?_
 refine VO.op rfl (OpE.box rfl hB rfl rfl rfl ?_)
 intro gm
 refine VO.op rfl (OpE.box rfl hB rfl rfl rfl ?_)
 intro gn
 refine VO.ma rfl rfl rfl rfl ?_
 refine VO.ma rfl rfl rfl rfl ?_
 refine VO.ma rfl rfl rfl rfl ?_
 refine VO.ma rfl rfl rfl rfl ?_
 refine VO.nil ?_
 refine VC.seq ?_
 refine VC.sr ?_
 refine VO.val rfl rfl (OpV.load_own (i := 1) rfl hB Tryz.isAgg28 rfl rfl rfl (fun h => h)) ?_
 refine VO.val rfl rfl (OpV.len_im rfl Tryz.underlying28 rfl) ?_
 refine VO.val rfl rfl (OpV.gtr rfl rfl rfl) ?_
 refine VO.nil ?_
 refine VC.cond rfl (fun h0b => ?_) (fun h0b => ?_)
 ·have h0 := h0b
  try simp only [qqT, qqF, qqN, qqM, qqL, qqE] at h0
  refine VC.sr ?_
  refine VO.ma rfl rfl rfl rfl ?_
  refine VO.ma rfl rfl rfl rfl ?_
  refine VO.ma rfl rfl rfl rfl ?_
  refine VO.ma rfl rfl rfl rfl ?_
  refine VO.nil ?_
  refine VC.le _ (Le.recast (t := 4) (y := avInts []) rfl (fun w Z u h => by rw [h.eq_v]; exact .nil _ _)) ?_
  refine VC.ret ?_
  exact Exists.intro _ (And.intro (RetV.four Tryz.results22 (ResV.tmp rfl) (ResV.tmp rfl) (ResV.tmp rfl) (ResV.tmp rfl)) (by rw [refB, if_pos (by omega), if_pos (by omega)]))
 ·have h0 := h0b
  try simp only [qqT, qqF, qqN, qqM, qqL, qqE] at h0
  have h12 : ¬ 12 < ns.length := by omega
  have hrb : refB ms ns = R := by rw [refB, if_neg h12, hR]
  refine VC.skip ?_
  refine VC.sr ?_
  refine VO.val rfl rfl (OpV.load_own (i := 1) rfl hB Tryz.isAgg28 rfl rfl rfl (fun h => h)) ?_
  refine VO.val rfl rfl (OpV.len_im rfl Tryz.underlying28 rfl) ?_
  refine VO.op rfl (OpE.make rfl hB rfl Tryz.underlying22 (infoOf Tryz.t3 1 (by kernel_rfl) rfl rfl) (by decide) rfl rfl (n := ns.length) rfl rfl (by omega) ((made_ints _).trans (congrArg intsL hZ0)) ?_)
  intro gpa
  rw [intsL_len, hZl]
  refine VO.op rfl (OpE.alloc rfl hB rfl Tryz.zeroValue22 rfl ?_)
  intro gp
  refine VO.op rfl (OpE.store (i := 3) rfl hB rfl Tryz.sizeOf22 rfl rfl rfl rfl rfl rfl (Nle rfl) trivial ?_)
  refine VO.nil ?_
  refine VC.sr ?_
  refine VO.op rfl (OpE.alloc rfl hB rfl Tryz.zeroValue22 rfl ?_)
  intro gb
  refine VO.nil ?_
  refine VC.sr ?_
  refine VO.op rfl (OpE.alloc rfl hB rfl Tryz.zeroValue3 rfl ?_)
  intro gl
  refine VO.op rfl (OpE.alloc rfl hB rfl Tryz.zeroValue4 rfl ?_)
  intro gf
  refine VO.op rfl (OpE.store (i := 5) rfl hB rfl Tryz.sizeOf3 rfl rfl rfl rfl rfl rfl (Nle rfl) trivial ?_)
  refine VO.op rfl (OpE.store (i := 6) rfl hB rfl Tryz.sizeOf4 rfl rfl rfl rfl rfl rfl (Nle rfl) trivial ?_)
  refine VO.nil ?_
  refine VC.sr ?_
  refine VO.val rfl rfl (OpV.load_own (i := 0) rfl hB Tryz.isAgg26 rfl rfl rfl (fun h => h)) ?_
  refine VO.val rfl rfl (OpV.len_im rfl Tryz.underlying26 rfl) ?_
  refine VO.op rfl (OpE.make rfl hB rfl Tryz.underlying22 (infoOf Tryz.t3 1 (by kernel_rfl) rfl rfl) (by decide) rfl rfl (n := ms.length) rfl rfl (by omega) ((made_ints _).trans (congrArg intsL hY0)) ?_)
  intro gya
  rw [intsL_len, hYl]
  refine VO.op rfl (OpE.alloc rfl hB rfl Tryz.zeroValue22 rfl ?_)
  intro gy
  refine VO.op rfl (OpE.store (i := 8) rfl hB rfl Tryz.sizeOf22 rfl rfl rfl rfl rfl rfl (Nle rfl) trivial ?_)
  refine VO.nil ?_
  refine VC.seq ?_
  refine VC.le ⟨[(2, _), (3, _), (8, _), (9, _), (10, _), (11, _), (12, _)], [.box gm ⟨[avL ms], 26, 1⟩, .box gn ⟨[avL ns], 28, 1⟩, .box gpa ⟨intsL Z0, 3, ns.length⟩, .box gp ⟨[.v (.slice (some ⟨gpa, 0, none⟩) ns.length ns.length)], 22, 1⟩, .box gb ⟨[.v (.slice none 0 0)], 22, 1⟩, .box gl ⟨[avI 0], 3, 1⟩, .box gf ⟨[avB false], 4, 1⟩, .box gya ⟨intsL Y0, 3, ms.length⟩, .box gy ⟨[.v (.slice (some ⟨gya, 0, none⟩) ms.length ms.length)], 22, 1⟩], _⟩ (Le.mk hB [0, 1, 2, 3, 4, 5, 6, 7, 8] ⟨rfl, rfl, rfl, rfl, rfl, rfl, rfl, trivial⟩ rfl rfl (Nat.le_refl _)) ?_
  refine VC.region ?_
  refine VO.val rfl rfl (OpV.load_own (i := 0) rfl hB Tryz.isAgg26 rfl rfl rfl (fun h => h)) ?_
  refine VO.val rfl rfl (OpV.load_own (i := 1) rfl hB Tryz.isAgg28 rfl rfl rfl (fun h => h)) ?_
  refine VO.op rfl (OpE.callR rfl hB rfl Tryz.call90 (hcy) (ArgsP.cons (ArgP.ev rfl) (ArgsP.cons (ArgP.ev rfl) (ArgsP.cons (ArgP.nil rfl) (ArgsP.nil)))) ?_)
  intro u26
  refine VO.asBox (i := 9) (n := ms.length) (sz := 1) rfl hlen.1 (fun gwa cw hu hcap hmx => ?_)
  subst hu
  refine VO.op rfl (OpE.alloc rfl hB rfl Tryz.zeroValue22 rfl ?_)
  intro gw
  refine VO.op rfl (OpE.store (i := 10) rfl hB rfl Tryz.sizeOf22 rfl rfl rfl rfl rfl rfl (Nle rfl) trivial ?_)
  refine VO.nil ?_
  refine VC.seq ?_
  refine VC.le ⟨[(2, _), (3, _), (8, _), (9, _), (10, _), (11, _), (12, _), (13, _)], [.box gm ⟨[avL ms], 26, 1⟩, .box gn ⟨[avL ns], 28, 1⟩, .box gpa ⟨intsL Z0, 3, ns.length⟩, .box gp ⟨[.v (.slice (some ⟨gpa, 0, none⟩) ns.length ns.length)], 22, 1⟩, .box gb ⟨[.v (.slice none 0 0)], 22, 1⟩, .box gl ⟨[avI 0], 3, 1⟩, .box gf ⟨[avB false], 4, 1⟩, .box gya ⟨intsL Y0, 3, ms.length⟩, .box gy ⟨[.v (.slice (some ⟨gya, 0, none⟩) ms.length ms.length)], 22, 1⟩, .box gwa ⟨intsL W0, 3, cw * 1⟩, .box gw ⟨[.v (.slice (some ⟨gwa, 0, none⟩) ms.length cw)], 22, 1⟩], _⟩ (Le.mk hB [0, 1, 2, 3, 4, 5, 6, 7, 8, 9, 10] ⟨rfl, rfl, rfl, rfl, rfl, rfl, rfl, rfl, trivial⟩ rfl rfl (Nat.le_refl _)) ?_
  refine VC.region ?_
  refine VO.op rfl (OpE.alloc rfl hB rfl Tryz.zeroValue127 rfl ?_)
  intro gt
  refine VO.nil ?_
  refine VC.sr ?_
  refine VO.val rfl rfl (OpV.makeFunc9 rfl rfl rfl rfl rfl rfl rfl rfl rfl rfl) ?_
  refine VO.op rfl (OpE.store (i := 11) rfl hB rfl Tryz.sizeOf127 rfl rfl rfl rfl rfl rfl (Nle rfl) trivial ?_)
  refine VO.nil ?_
  refine VC.seq ?_
  have hcc := rf_BalanceOf0 (gf := gf) (gw := gw) (gl := gl) (gn := gn) (gp := gp) (gb := gb) (gm := gm) (gy := gy) (gt := gt) (gpa := gpa) (gwa := gwa) (gya := gya) (cw := cw) hm hn ⟨hcap, hmx⟩ hW0 hY0 hZ0 hR
  refine VC.le _ (Le.nilRow 1 3) ?_
  refine VC.le _ (Le.pickH [11, 3, 2, 10, 9, 8, 7, 5, 6, 4, 12, 1, 0] rfl rfl) ?_
  refine VC.le ⟨[(9, _), (10, _), (11, _), (14, _)], [.box gt ⟨[tryV gf gw gl gn gp gb gm gy gt], 127, 1⟩, .box gp ⟨[.v (.slice (some ⟨gpa, 0, none⟩) ns.length ns.length)], 22, 1⟩, .box gpa ⟨intsL Z0, 3, ns.length⟩, .box gw ⟨[.v (.slice (some ⟨gwa, 0, none⟩) ms.length cw)], 22, 1⟩, .box gwa ⟨intsL W0, 3, cw * 1⟩, .box gy ⟨[.v (.slice (some ⟨gya, 0, none⟩) ms.length ms.length)], 22, 1⟩, .box gya ⟨intsL Y0, 3, ms.length⟩, .box gl ⟨[avI 0], 3, 1⟩, .box gf ⟨[avB false], 4, 1⟩, .box gb ⟨[.v (.slice none 0 0)], 22, 1⟩, .row (.slice none 0 0) 0 1 [] 3, .box gn ⟨[avL ns], 28, 1⟩, .box gm ⟨[avL ms], 26, 1⟩], _⟩ (Le.mk hB [0, 1, 2, 3, 4, 5, 6, 7, 8, 9, 10, 11, 12] ⟨rfl, rfl, rfl, rfl, trivial⟩ rfl rfl (Nat.le_refl _)) ?_
  refine VC.region ?_
  refine VO.val rfl rfl (OpV.load_own (i := 0) rfl hB Tryz.isAgg127 rfl rfl rfl (fun h => h)) ?_
  refine VO.op rfl (OpE.callH0 rfl hB rfl Tryz.call92 rfl rfl hcc (List.Perm.refl _) (fun _ _ => trivial) ?_)
  rintro _ _ ⟨z3, u3, rfl⟩
  refine VO.nil ?_
  refine VC.seq ?_
  refine VC.le _ (Le.pickH [7, 8, 9, 10] rfl rfl) ?_
  refine VC.le ⟨[(9, _), (10, _), (11, _)], [.box gl ⟨[avI R.least], 3, 1⟩, .box gf ⟨[avB R.found], 4, 1⟩, .box gb ⟨[.v u3], 22, 1⟩, .row u3 R.best.length 1 (intsL R.best) 3], _⟩ (Le.mk hB [0, 1, 2, 3] ⟨rfl, rfl, rfl, trivial⟩ rfl rfl (Nat.le_refl _)) ?_
  refine VC.draw (fun _ => NoB) hB (by kernel_rfl) ?_
  refine VA.take (i := 0) rfl (by kernel_rfl) (by kernel_rfl) (by kernel_rfl) rfl rfl (OpV.load_own (i := 2) rfl hB Tryz.isAgg22 rfl rfl rfl Wi.not0) ?_
  refine VA.take (i := 1) rfl (by kernel_rfl) (by kernel_rfl) (by kernel_rfl) rfl rfl (OpV.load_own (i := 0) rfl hB Tryz.isAgg3 rfl rfl rfl Wi.not0) ?_
  refine VA.take (i := 2) rfl (by kernel_rfl) (by kernel_rfl) (by kernel_rfl) rfl rfl (OpV.load_own (i := 1) rfl hB Tryz.isAgg4 rfl rfl rfl Wi.not0) ?_
  refine VA.take (i := 3) rfl (by kernel_rfl) (by kernel_rfl) (by kernel_rfl) rfl rfl (OpV.move (.inr rfl) rfl) ?_
  refine VA.take (i := 4) rfl (by kernel_rfl) (by kernel_rfl) (by kernel_rfl) rfl rfl (OpV.move (.inr rfl) rfl) ?_
  refine VA.take (i := 5) rfl (by kernel_rfl) (by kernel_rfl) (by kernel_rfl) rfl rfl (OpV.move (.inr rfl) rfl) ?_
  refine VA.take (i := 6) rfl (by kernel_rfl) (by kernel_rfl) (by kernel_rfl) rfl rfl (OpV.move (.inr rfl) rfl) ?_
  refine VA.done (by kernel_rfl) ?_
  refine VC.le _ (Le.rowI (t := 4) (i := 3) (xs := R.best) hB hnew rfl rfl rfl) ?_
  refine VC.ret ?_
  exact Exists.intro _ (And.intro (RetV.four Tryz.results22 (ResV.tmp rfl) (ResV.tmp rfl) (ResV.tmp rfl) (ResV.tmp rfl)) (by exact retB hrb (if_neg h12)))
end Go.Proofs.YtemnnmohdpabhaaGreatDoor
namespace Go.Proofs.YtemnnmohdpabhaaGreatDoor
open Go.RowKit
set_option linter.unusedVariables false
set_option linter.unusedSimpArgs false
set_option maxRecDepth 100000 in
set_option maxHeartbeats 8000000 in
theorem rf_BoundOf {ms : List Mach} {ns : List NeedS} (hmf : machF ms = 0) (hnf : needsF ns 1 1000 = 0) :
  SpecN Tryz.prog 20 [avL ms, avL ns] (fun y => y = avI (bndF ms ns)) := by
 have hM := MnOk.mk' hmf hnf
 have hlen := machF_len hmf
 have hnl := needsF_len hnf
 refine SpecN.of_VCN Tryz.func20 rfl Tryz.ntmps20 (Nle rfl) fun w A hB => ?_
 have hnew : True := trivial
 refine VC.sr ?_
 refine VO.ma rfl rfl rfl rfl ?_
 refine VO.nil ?_
 refine VC.sr ?_
 refine VO.ma rfl rfl rfl rfl ?_
 refine VO.ma rfl rfl rfl rfl ?_
 refine VO.nil ?_
 refine VC.seq ?_
 refine VC.sr ?_
 refine VO.mv rfl rfl rfl rfl ?_
 refine VO.val rfl rfl (OpV.len_im rfl Tryz.underlying26 rfl) ?_
 refine VO.mv rfl rfl rfl rfl ?_
 refine VO.nil ?_
 refine VC.block ?_
 refine VC.loopK [(0, _), (1, _), (14, _), (15, _)] ⟨rfl, rfl, rfl, rfl, trivial⟩ ({q : Nat // q ≤ ms.length}) (fun (iZ : {q : Nat // q ≤ ms.length}) => match iZ with | ⟨q, hq⟩ => [(5, avI (mxK (fun k => (ms.getD k default).fixed) q)), (6, avI (smN (fun k => (ms.getD k default).fixed) q)), (16, avI (q : Int))]) (fun (iZ : {q : Nat // q ≤ ms.length}) => match iZ with | ⟨q, hq⟩ => []) (fun (iZ : {q : Nat // q ≤ ms.length}) => match iZ with | ⟨q, hq⟩ => 0) (fun (iZ : {q : Nat // q ≤ ms.length}) => match iZ with | ⟨q, hq⟩ => ms.length - q) ⟨0, Nat.zero_le _⟩ (Le.mk hB [] ⟨rfl, rfl, rfl, rfl, rfl, rfl, rfl, trivial⟩ rfl rfl (Nat.le_refl _)) ?_
 rintro ⟨q, hq⟩
 show VC _ _ _ _ ⟨[(5, avI (mxK (fun k => (ms.getD k default).fixed) q)), (6, avI (smN (fun k => (ms.getD k default).fixed) q)), (16, avI (q : Int))] ++ [(0, _), (1, _), (14, _), (15, _)], [], 0⟩
 have hb1 := smN_fix hM q
 have hb2 := hM.fix q
 refine VC.sr ?_
 refine VO.val rfl rfl (OpV.lss rfl rfl rfl) ?_
 refine VO.nil ?_
 refine VC.seq ?_
 refine VC.cond rfl (fun aH1b => ?_) (fun aH1b => ?_)
 ·have aH1 := aH1b
  try simp only [qqT, qqF, qqN, qqM, qqL, qqE] at aH1
  refine VC.skip ?_
  refine VC.seq ?_
  refine VC.block ?_
  refine VC.sr ?_
  refine VO.val rfl rfl (OpV.indexAddr_E rfl Tryz.underlying26 Tryz.sizeOf106 rfl rfl rfl (by omega)) ?_
  refine VO.val rfl rfl (OpV.loadK_at rfl hB OutW.no Tryz.isAgg106 Tryz.sizeOf106 rfl rfl) ?_
  refine VO.op rfl (OpE.alloc rfl hB rfl Tryz.zeroValue106 rfl ?_)
  intro g8
  refine VO.op rfl (OpE.store (i := 0) rfl hB rfl Tryz.sizeOf106 rfl rfl rfl rfl rfl rfl (Nle rfl) trivial ?_)
  refine VO.nil ?_
  refine VC.draw (fun _ => NoB) hB (by kernel_rfl) ?_
  refine VA.take (i := 0) rfl (by kernel_rfl) (by kernel_rfl) (by kernel_rfl) rfl rfl (OpV.move (.inl rfl) rfl) ?_
  refine VA.take (i := 1) rfl (by kernel_rfl) (by kernel_rfl) (by kernel_rfl) rfl rfl (OpV.fieldAddrO 2 rfl Tryz.underlying106 rfl rfl Tryz.sizeOf3 rfl) ?_
  refine VA.take (i := 2) rfl (by kernel_rfl) (by kernel_rfl) (by kernel_rfl) rfl rfl (OpV.load_own (i := 0) rfl hB Tryz.isAgg3 rfl rfl rfl Wi.not0) ?_
  refine VA.take (i := 3) rfl (by kernel_rfl) (by kernel_rfl) (by kernel_rfl) rfl rfl (OpV.max2 rfl rfl rfl) ?_
  refine VA.take (i := 4) rfl (by kernel_rfl) (by kernel_rfl) (by kernel_rfl) rfl rfl (OpV.move (.inl rfl) rfl) ?_
  refine VA.take (i := 5) rfl (by kernel_rfl) (by kernel_rfl) (by kernel_rfl) rfl rfl (OpV.fieldAddrO 2 rfl Tryz.underlying106 rfl rfl Tryz.sizeOf3 rfl) ?_
  refine VA.take (i := 6) rfl (by kernel_rfl) (by kernel_rfl) (by kernel_rfl) rfl rfl (OpV.load_own (i := 0) rfl hB Tryz.isAgg3 rfl rfl rfl Wi.not0) ?_
  refine VA.take (i := 7) rfl (by kernel_rfl) (by kernel_rfl) (by kernel_rfl) rfl rfl (OpV.add rfl rfl rfl (by unfold fits; omega)) ?_
  refine VA.take (i := 8) rfl (by kernel_rfl) (by kernel_rfl) (by kernel_rfl) rfl rfl (OpV.move (.inr rfl) rfl) ?_
  refine VA.take (i := 9) rfl (by kernel_rfl) (by kernel_rfl) (by kernel_rfl) rfl rfl (OpV.move (.inr rfl) rfl) ?_
  refine VA.done (by kernel_rfl) ?_
  refine VC.region ?_
  refine VO.val rfl rfl (OpV.add rfl rfl rfl (by unfold fits; omega)) ?_
  refine VO.mv rfl rfl rfl rfl ?_
  refine VO.nil ?_
  exact Exists.intro (⟨q + 1, by omega⟩) (And.intro (Le.mk hB [] ⟨rfl, rfl, rfl, rfl, rfl, rfl, rfl, trivial⟩ rfl rfl (Nat.le_refl _)) (by first | omega | (show _ < _; omega) | (simp only []; omega)))
 ·have aH1 := aH1b
  try simp only [qqT, qqF, qqN, qqM, qqL, qqE] at aH1
  obtain rfl : q = ms.length := by omega
  have hb3 := mxK_fix hM ms.length
  refine VC.exit ?_
  refine VC.seq ?_
  refine VC.sr ?_
  refine VO.mv rfl rfl rfl rfl ?_
  refine VO.val rfl rfl (OpV.len_im rfl Tryz.underlying28 rfl) ?_
  refine VO.mv rfl rfl rfl rfl ?_
  refine VO.nil ?_
  refine VC.block ?_
  refine VC.loopK [(0, _), (5, _), (29, _), (30, _)] ⟨rfl, rfl, rfl, rfl, trivial⟩ ({r : Nat // r ≤ ns.length}) (fun (iZ : {r : Nat // r ≤ ns.length}) => match iZ with | ⟨r, hq1⟩ => [(6, avI (bndS ms ns r)), (31, avI (r : Int))]) (fun (iZ : {r : Nat // r ≤ ns.length}) => match iZ with | ⟨r, hq1⟩ => []) (fun (iZ : {r : Nat // r ≤ ns.length}) => match iZ with | ⟨r, hq1⟩ => 0) (fun (iZ : {r : Nat // r ≤ ns.length}) => match iZ with | ⟨r, hq1⟩ => ns.length - r) ⟨0, Nat.zero_le _⟩ (Le.mk hB [] ⟨rfl, rfl, rfl, rfl, rfl, rfl, trivial⟩ rfl rfl (Nat.le_refl _)) ?_
  rintro ⟨r, hq1⟩
  show VC _ _ _ _ ⟨[(6, avI (bndS ms ns r)), (31, avI (r : Int))] ++ [(0, _), (5, _), (29, _), (30, _)], [], 0⟩
  have hc1 := bndS_in hM r
  refine VC.sr ?_
  refine VO.val rfl rfl (OpV.lss rfl rfl rfl) ?_
  refine VO.nil ?_
  refine VC.seq ?_
  refine VC.cond rfl (fun aH2b => ?_) (fun aH2b => ?_)
  ·have aH2 := aH2b
   try simp only [qqT, qqF, qqN, qqM, qqL, qqE] at aH2
   refine VC.skip ?_
   refine VC.seq ?_
   refine VC.block ?_
   refine VC.sr ?_
   refine VO.val rfl rfl (OpV.indexAddr_E rfl Tryz.underlying28 Tryz.sizeOf111 rfl rfl rfl (by omega)) ?_
   refine VO.val rfl rfl (OpV.loadK_at rfl hB OutW.no Tryz.isAgg111 Tryz.sizeOf111 rfl rfl) ?_
   refine VO.op rfl (OpE.alloc rfl hB rfl Tryz.zeroValue111 rfl ?_)
   intro g10
   refine VO.op rfl (OpE.store (i := 0) rfl hB rfl Tryz.sizeOf111 rfl rfl rfl rfl rfl rfl (Nle rfl) trivial ?_)
   refine VO.nil ?_
   refine VC.sr ?_
   refine VO.ma rfl rfl rfl rfl ?_
   refine VO.nil ?_
   refine VC.seq ?_
   refine VC.sr ?_
   refine VO.mv rfl rfl rfl rfl ?_
   refine VO.val rfl rfl (OpV.len_im rfl Tryz.underlying26 rfl) ?_
   refine VO.mv rfl rfl rfl rfl ?_
   refine VO.nil ?_
   refine VC.block ?_
   refine VC.loopK [(0, _), (5, _), (6, _), (10, _), (29, _), (30, _), (31, _), (35, _), (36, _)] ⟨rfl, rfl, rfl, rfl, rfl, rfl, rfl, rfl, rfl, trivial⟩ ({k : Nat // k ≤ ms.length}) (fun (iZ : {k : Nat // k ≤ ms.length}) => match iZ with | ⟨k, hq2⟩ => [(11, avI (lstE ms (ns.getD r default).key k)), (37, avI (k : Int))]) (fun (iZ : {k : Nat // k ≤ ms.length}) => match iZ with | ⟨k, hq2⟩ => [.box g10 ⟨[avS (ns.getD r default).key, avI (ns.getD r default).count], 111, 2⟩]) (fun (iZ : {k : Nat // k ≤ ms.length}) => match iZ with | ⟨k, hq2⟩ => 0) (fun (iZ : {k : Nat // k ≤ ms.length}) => match iZ with | ⟨k, hq2⟩ => ms.length - k) ⟨0, Nat.zero_le _⟩ (Le.mk hB [0] ⟨rfl, rfl, rfl, rfl, rfl, rfl, rfl, rfl, rfl, rfl, rfl, trivial⟩ rfl rfl (Nat.le_refl _)) ?_
   rintro ⟨k, hq2⟩
   show VC _ _ _ _ ⟨[(11, avI (lstE ms (ns.getD r default).key k)), (37, avI (k : Int))] ++ [(0, _), (5, _), (6, _), (10, _), (29, _), (30, _), (31, _), (35, _), (36, _)], [.box g10 ⟨[avS (ns.getD r default).key, avI (ns.getD r default).count], 111, 2⟩], 0⟩
   have hl1 := lstE_each hM (key := (ns.getD r default).key) k
   refine VC.sr ?_
   refine VO.val rfl rfl (OpV.lss rfl rfl rfl) ?_
   refine VO.nil ?_
   refine VC.seq ?_
   refine VC.cond rfl (fun aH3b => ?_) (fun aH3b => ?_)
   ·have aH3 := aH3b
    try simp only [qqT, qqF, qqN, qqM, qqL, qqE] at aH3
    refine VC.skip ?_
    refine VC.seq ?_
    refine VC.block ?_
    refine VC.sr ?_
    refine VO.val rfl rfl (OpV.indexAddr_E rfl Tryz.underlying26 Tryz.sizeOf106 rfl rfl rfl (by omega)) ?_
    refine VO.val rfl rfl (OpV.loadK_at rfl hB OutW.no Tryz.isAgg106 Tryz.sizeOf106 rfl rfl) ?_
    refine VO.op rfl (OpE.alloc rfl hB rfl Tryz.zeroValue106 rfl ?_)
    intro g13
    refine VO.op rfl (OpE.store (i := 1) rfl hB rfl Tryz.sizeOf106 rfl rfl rfl rfl rfl rfl (Nle rfl) trivial ?_)
    refine VO.nil ?_
    refine VC.sr ?_
    refine VO.val rfl rfl (OpV.fieldAddrO 4 rfl Tryz.underlying106 rfl rfl Tryz.sizeOf40 rfl) ?_
    refine VO.val rfl rfl (OpV.load_own (i := 1) rfl hB Tryz.isAgg40 rfl rfl rfl (fun h => h)) ?_
    refine VO.val rfl rfl (OpV.fieldAddrO 0 rfl Tryz.underlying111 rfl rfl Tryz.sizeOf9 rfl) ?_
    refine VO.val rfl rfl (OpV.load_own (i := 0) rfl hB Tryz.isAgg9 rfl rfl rfl (fun h => h)) ?_
    refine VO.op rfl (OpE.call rfl hB rfl Tryz.call67 rfl (SpecN.spec (slices_Contains_str (by have := canF_keys (machF_each hmf (i := k) (by omega)).2; omega))) ?_)
    rintro _ rfl
    refine VO.mv rfl rfl rfl rfl ?_
    refine VO.opG rfl rfl rfl rfl (fun aK4b => ?_) (fun aK4b => ?_)
    ·replace aK4b : _ = true := aK4b
     have aK4 := aK4b
     try simp only [qqT, qqF, qqN, qqM, qqL, qqE] at aK4
     refine OpE.val (W := NoB) (OpV.move (.inl rfl) rfl) rfl ?_
     refine VO.opY rfl rfl rfl rfl aK4b ?_
     refine OpE.val (W := NoB) (OpV.lss rfl rfl rfl) rfl ?_
     refine VO.opY rfl rfl rfl rfl aK4b ?_
     refine OpE.val (W := NoB) (OpV.move (.inl rfl) rfl) rfl ?_
     refine VO.opG rfl rfl rfl rfl (fun aK5b => ?_) (fun aK5b => ?_)
     ·replace aK5b : _ = false := aK5b
      have aK5 := aK5b
      try simp only [qqT, qqF, qqN, qqM, qqL, qqE] at aK5
      refine OpE.val (W := NoB) (OpV.fieldAddrO 1 rfl Tryz.underlying106 rfl rfl Tryz.sizeOf3 rfl) rfl ?_
      refine VO.opY rfl rfl rfl rfl aK5b ?_
      refine OpE.val (W := NoB) (OpV.load_own (i := 1) rfl hB Tryz.isAgg3 rfl rfl rfl (fun h => h)) rfl ?_
      refine VO.opY rfl rfl rfl rfl aK5b ?_
      refine OpE.val (W := NoB) (OpV.move (.inl rfl) rfl) rfl ?_
      refine VO.opY rfl rfl rfl rfl aK5b ?_
      refine OpE.val (W := NoB) (OpV.lss rfl rfl rfl) rfl ?_
      refine VO.opY rfl rfl rfl rfl aK4b ?_
      refine OpE.val (W := NoB) (OpV.pickF rfl rfl rfl rfl aK5b) rfl ?_
      refine VO.val rfl rfl (OpV.pickT rfl rfl rfl rfl aK4b) ?_
      refine VO.nil ?_
      refine VC.cond rfl (fun aH6b => ?_) (fun aH6b => ?_)
      ·have aH6 := aH6b
       try simp only [qqT, qqF, qqN, qqM, qqL, qqE] at aH6
       refine VC.region ?_
       refine VO.val rfl rfl (OpV.fieldAddrO 1 rfl Tryz.underlying106 rfl rfl Tryz.sizeOf3 rfl) ?_
       refine VO.val rfl rfl (OpV.load_own (i := 1) rfl hB Tryz.isAgg3 rfl rfl rfl (fun h => h)) ?_
       refine VO.ma rfl rfl rfl rfl ?_
       refine VO.nil ?_
       refine VC.region ?_
       refine VO.val rfl rfl (OpV.add rfl rfl rfl (by unfold fits; omega)) ?_
       refine VO.mv rfl rfl rfl rfl ?_
       refine VO.nil ?_
       exact Exists.intro (⟨k + 1, by omega⟩) (And.intro (Le.mk hB [0] ⟨(by dsimp only; first | (rw [lst_y (by assumption) (by first | exact .inl (by omega) | exact .inr (by omega))]; rfl) | (rw [lst_n (by first | exact .inl (by assumption) | exact .inr (by omega))]; rfl)), rfl, rfl, rfl, rfl, rfl, rfl, rfl, rfl, rfl, rfl, trivial⟩ rfl rfl (Nat.le_refl _)) (by first | omega | (show _ < _; omega) | (simp only []; omega)))
      ·have aH6 := aH6b
       try simp only [qqT, qqF, qqN, qqM, qqL, qqE] at aH6
       refine VC.skip ?_
       refine VC.region ?_
       refine VO.val rfl rfl (OpV.add rfl rfl rfl (by unfold fits; omega)) ?_
       refine VO.mv rfl rfl rfl rfl ?_
       refine VO.nil ?_
       exact Exists.intro (⟨k + 1, by omega⟩) (And.intro (Le.mk hB [0] ⟨(by dsimp only; first | (rw [lst_y (by assumption) (by first | exact .inl (by omega) | exact .inr (by omega))]; rfl) | (rw [lst_n (by first | exact .inl (by assumption) | exact .inr (by omega))]; rfl)), rfl, rfl, rfl, rfl, rfl, rfl, rfl, rfl, rfl, rfl, trivial⟩ rfl rfl (Nat.le_refl _)) (by first | omega | (show _ < _; omega) | (simp only []; omega)))
     ·replace aK5b : _ = true := aK5b
      have aK5 := aK5b
      try simp only [qqT, qqF, qqN, qqM, qqL, qqE] at aK5
      refine VO.opX rfl rfl rfl rfl aK5b ?_
      refine VO.opX rfl rfl rfl rfl aK5b ?_
      refine VO.opX rfl rfl rfl rfl aK5b ?_
      refine VO.opY rfl rfl rfl rfl aK4b ?_
      refine OpE.val (W := NoB) (OpV.pickT rfl rfl rfl rfl aK5b) rfl ?_
      refine VO.val rfl rfl (OpV.pickT rfl rfl rfl rfl aK4b) ?_
      refine VO.nil ?_
      refine VC.condT rfl rfl ?_
      refine VC.region ?_
      refine VO.val rfl rfl (OpV.fieldAddrO 1 rfl Tryz.underlying106 rfl rfl Tryz.sizeOf3 rfl) ?_
      refine VO.val rfl rfl (OpV.load_own (i := 1) rfl hB Tryz.isAgg3 rfl rfl rfl (fun h => h)) ?_
      refine VO.ma rfl rfl rfl rfl ?_
      refine VO.nil ?_
      refine VC.region ?_
      refine VO.val rfl rfl (OpV.add rfl rfl rfl (by unfold fits; omega)) ?_
      refine VO.mv rfl rfl rfl rfl ?_
      refine VO.nil ?_
      exact Exists.intro (⟨k + 1, by omega⟩) (And.intro (Le.mk hB [0] ⟨(by dsimp only; first | (rw [lst_y (by assumption) (by first | exact .inl (by omega) | exact .inr (by omega))]; rfl) | (rw [lst_n (by first | exact .inl (by assumption) | exact .inr (by omega))]; rfl)), rfl, rfl, rfl, rfl, rfl, rfl, rfl, rfl, rfl, rfl, trivial⟩ rfl rfl (Nat.le_refl _)) (by first | omega | (show _ < _; omega) | (simp only []; omega)))
    ·replace aK4b : _ = false := aK4b
     have aK4 := aK4b
     try simp only [qqT, qqF, qqN, qqM, qqL, qqE] at aK4
     refine VO.opX rfl rfl rfl rfl aK4b ?_
     refine VO.opX rfl rfl rfl rfl aK4b ?_
     refine VO.opU rfl rfl rfl rfl ?_
     refine VO.opU rfl rfl rfl rfl ?_
     refine VO.opU rfl rfl rfl rfl ?_
     refine VO.opU rfl rfl rfl rfl ?_
     refine VO.opX rfl rfl rfl rfl aK4b ?_
     refine VO.val rfl rfl (OpV.pickF rfl rfl rfl rfl aK4b) ?_
     refine VO.nil ?_
     refine VC.condF rfl rfl ?_
     refine VC.skip ?_
     refine VC.region ?_
     refine VO.val rfl rfl (OpV.add rfl rfl rfl (by unfold fits; omega)) ?_
     refine VO.mv rfl rfl rfl rfl ?_
     refine VO.nil ?_
     exact Exists.intro (⟨k + 1, by omega⟩) (And.intro (Le.mk hB [0] ⟨(by dsimp only; first | (rw [lst_y (by assumption) (by first | exact .inl (by omega) | exact .inr (by omega))]; rfl) | (rw [lst_n (by first | exact .inl (by assumption) | exact .inr (by omega))]; rfl)), rfl, rfl, rfl, rfl, rfl, rfl, rfl, rfl, rfl, rfl, trivial⟩ rfl rfl (Nat.le_refl _)) (by first | omega | (show _ < _; omega) | (simp only []; omega)))
   ·have aH3 := aH3b
    try simp only [qqT, qqF, qqN, qqM, qqL, qqE] at aH3
    obtain rfl : k = ms.length := by omega
    have hl2 := lstE_each hM (key := (ns.getD r default).key) ms.length
    have hl3 := mul_in2 (a := max (lstE ms (ns.getD r default).key ms.length) 0) (by omega) (hM.cnt r)
    refine VC.exit ?_
    refine VC.region ?_
    refine VO.mv rfl rfl rfl rfl ?_
    refine VO.mv rfl rfl rfl rfl ?_
    refine VO.val rfl rfl (OpV.max2 rfl rfl rfl) ?_
    refine VO.val rfl rfl (OpV.fieldAddrO 1 rfl Tryz.underlying111 rfl rfl Tryz.sizeOf3 rfl) ?_
    refine VO.val rfl rfl (OpV.load_own (i := 0) rfl hB Tryz.isAgg3 rfl rfl rfl (fun h => h)) ?_
    refine VO.val rfl rfl (OpV.mul rfl rfl rfl (by unfold fits; omega)) ?_
    refine VO.val rfl rfl (OpV.add rfl rfl rfl (by unfold fits; omega)) ?_
    refine VO.ma rfl rfl rfl rfl ?_
    refine VO.nil ?_
    refine VC.region ?_
    refine VO.val rfl rfl (OpV.add rfl rfl rfl (by unfold fits; omega)) ?_
    refine VO.mv rfl rfl rfl rfl ?_
    refine VO.nil ?_
    exact Exists.intro (⟨r + 1, by omega⟩) (And.intro (Le.mk hB [] ⟨rfl, rfl, rfl, rfl, rfl, rfl, trivial⟩ rfl rfl (Nat.le_refl _)) (by first | omega | (show _ < _; omega) | (simp only []; omega)))
  ·have aH2 := aH2b
   try simp only [qqT, qqF, qqN, qqM, qqL, qqE] at aH2
   obtain rfl : r = ns.length := by omega
   have htd := tdiv_fit (a := bndS ms ns ns.length + ms.length - 1) (b := ms.length) (by omega) (by omega)
   refine VC.exit ?_
   refine VC.sr ?_
   refine VO.mv rfl rfl rfl rfl ?_
   refine VO.mv rfl rfl rfl rfl ?_
   refine VO.mv rfl rfl rfl rfl ?_
   refine VO.val rfl rfl (OpV.len_im rfl Tryz.underlying26 rfl) ?_
   refine VO.val rfl rfl (OpV.add rfl rfl rfl (by unfold fits; omega)) ?_
   refine VO.val rfl rfl (OpV.sub rfl rfl rfl (by unfold fits; omega)) ?_
   refine VO.mv rfl rfl rfl rfl ?_
   refine VO.val rfl rfl (OpV.len_im rfl Tryz.underlying26 rfl) ?_
   refine VO.val rfl rfl (OpV.quo rfl rfl rfl (by omega) (by unfold fits; omega)) ?_
   refine VO.val rfl rfl (OpV.max2 rfl rfl rfl) ?_
   refine VO.ma rfl rfl rfl rfl ?_
   refine VO.nil ?_
   refine VC.ret ?_
   exact Exists.intro _ (And.intro (RetN.one Tryz.results20 (ResN.v rfl)) (rfl))
set_option maxRecDepth 100000 in
theorem rf_NobodyOf1 {x : Mach} {n : NeedS} (hl : x.can.length ≤ 1000000000) :
  SpecN Tryz.prog 91 [avT x, .at_ 2 (Sxc.cell n)] (fun y => y = avB (hasK x n.key)) := by
 refine SpecN.of_VCN Tryz.func91 rfl Tryz.ntmps91 (Nle rfl) fun w A hB => ?_
 have hnew : True := trivial
 refine VC.sr ?_
 refine VO.op rfl (OpE.box rfl hB rfl rfl rfl ?_)
 intro g2
 refine VO.ma rfl rfl rfl rfl ?_
 refine VO.nil ?_
 refine VC.sr ?_
 refine VO.val rfl rfl (OpV.fieldAddrO 4 rfl Tryz.underlying106 rfl rfl Tryz.sizeOf40 rfl) ?_
 refine VO.val rfl rfl (OpV.load_own (i := 0) rfl hB Tryz.isAgg40 rfl rfl rfl (fun h => h)) ?_
 refine VO.val rfl rfl (OpV.fieldAddr_atO 0 rfl Tryz.underlying111 rfl rfl Tryz.sizeOf9 rfl rfl) ?_
 refine VO.val rfl rfl (OpV.load_at rfl hB OutW.no Tryz.isAgg9 rfl rfl) ?_
 refine VO.op rfl (OpE.call rfl hB rfl Tryz.call67 rfl (SpecN.spec (slices_Contains_str hl)) ?_)
 rintro _ rfl
 refine VO.ma rfl rfl rfl rfl ?_
 refine VO.nil ?_
 refine VC.ret ?_
 exact Exists.intro _ (And.intro (RetN.one Tryz.results91 (ResN.v rfl)) (rfl))
set_option maxRecDepth 100000 in
set_option maxHeartbeats 8000000 in
theorem rf_NobodyOf {ms : List Mach} {ns : List NeedS} (hmf : machF ms = 0) (hnf : needsF ns 1 1000 = 0) :
  SpecN Tryz.prog 21 [avL ms, avL ns] (fun y => y = avStrs (nobL ms ns)) := by
 have hlen := machF_len hmf
 have hnl := needsF_len hnf
 refine SpecN.of_VCN Tryz.func21 rfl Tryz.ntmps21 (Nle rfl) fun w A hB => ?_
 have hnew : True := trivial
 refine VC.sr ?_
 refine VO.ma rfl rfl rfl rfl ?_
 refine VO.nil ?_
 refine VC.sr ?_
 refine VO.ma rfl rfl rfl rfl ?_
 refine VO.nil ?_
 refine VC.seq ?_
 refine VC.sr ?_
 refine VO.mv rfl rfl rfl rfl ?_
 refine VO.val rfl rfl (OpV.len_im rfl Tryz.underlying28 rfl) ?_
 refine VO.mv rfl rfl rfl rfl ?_
 refine VO.nil ?_
 refine VC.block ?_
 refine VC.le _ (Le.nilRow 1 9) ?_
 refine VC.loopK [(0, _), (8, _), (9, _)] ⟨rfl, rfl, rfl, trivial⟩ ({zz : Value × Nat // zz.2 ≤ ns.length}) (fun (iZ : {zz : Value × Nat // zz.2 ≤ ns.length}) => match iZ with | ⟨⟨u, q⟩, hq⟩ => [(5, .v u), (10, avI (q : Int))]) (fun (iZ : {zz : Value × Nat // zz.2 ≤ ns.length}) => match iZ with | ⟨⟨u, q⟩, hq⟩ => [.row u (nobL ms (ns.take q)).length 1 (strsL (nobL ms (ns.take q))) 9]) (fun (iZ : {zz : Value × Nat // zz.2 ≤ ns.length}) => match iZ with | ⟨⟨u, q⟩, hq⟩ => 0) (fun (iZ : {zz : Value × Nat // zz.2 ≤ ns.length}) => match iZ with | ⟨⟨u, q⟩, hq⟩ => ns.length - q) ⟨(.slice none 0 0, 0), Nat.zero_le _⟩ (Le.mk hB [0] ⟨rfl, rfl, rfl, rfl, rfl, trivial⟩ rfl rfl (Nat.le_refl _)) ?_
 rintro ⟨⟨u, q⟩, hq⟩
 show VC _ _ _ _ ⟨[(5, .v u), (10, avI (q : Int))] ++ [(0, _), (8, _), (9, _)], [.row u (nobL ms (ns.take q)).length 1 (strsL (nobL ms (ns.take q))) 9], 0⟩
 simp only at hq
 have hno := nobL_len (ms := ms) (ns := ns.take q)
 have hno2 : (ns.take q).length ≤ q := by rw [List.length_take]; omega
 refine VC.sr ?_
 refine VO.val rfl rfl (OpV.lss rfl rfl rfl) ?_
 refine VO.nil ?_
 refine VC.seq ?_
 refine VC.cond rfl (fun aH1b => ?_) (fun aH1b => ?_)
 ·have aH1 := aH1b
  try simp only [qqT, qqF, qqN, qqM, qqL, qqE] at aH1
  refine VC.skip ?_
  refine VC.seq ?_
  refine VC.block ?_
  refine VC.sr ?_
  refine VO.val rfl rfl (OpV.indexAddr_E rfl Tryz.underlying28 Tryz.sizeOf111 rfl rfl rfl (by omega)) ?_
  refine VO.val rfl rfl (OpV.loadK_at rfl hB OutW.no Tryz.isAgg111 Tryz.sizeOf111 rfl rfl) ?_
  refine VO.op rfl (OpE.alloc rfl hB rfl Tryz.zeroValue111 rfl ?_)
  intro g7
  refine VO.op rfl (OpE.store (i := 1) rfl hB rfl Tryz.sizeOf111 rfl rfl rfl rfl rfl rfl (Nle rfl) trivial ?_)
  refine VO.nil ?_
  refine VC.sr ?_
  refine VO.mv rfl rfl rfl rfl ?_
  refine VO.val rfl rfl (OpV.makeFunc1 rfl rfl) ?_
  refine VO.op rfl (OpE.callL rfl hB rfl Tryz.call80 (slices_ContainsFunc_machI (p := fun x => hasK x (ns.getD q default).key) (by omega) Tryz.call91 (fun i hi => (rf_NobodyOf1 (by have := canF_keys (machF_each hmf hi).2; omega)).spec)) (ArgsP.cons (ArgP.ev rfl) (ArgsP.cons (ArgP.fn1 (i := 1) (m := 2) (f := Sxc.cell (ns.getD q default)) rfl rfl (Nle rfl) (lt2 rfl rfl)) (ArgsP.nil))) ?_)
  rintro _ rfl
  refine VO.val rfl rfl (OpV.not rfl rfl) ?_
  refine VO.nil ?_
  refine VC.cond rfl (fun h2b => ?_) (fun h2b => ?_)
  ·have h2 := h2b
   try simp only [qqT, qqF, qqN, qqM, qqL, qqE] at h2
   refine VC.region ?_
   refine VO.mv rfl rfl rfl rfl ?_
   refine VO.val rfl rfl (OpV.fieldAddrO 0 rfl Tryz.underlying111 rfl rfl Tryz.sizeOf9 rfl) ?_
   refine VO.val rfl rfl (OpV.load_own (i := 1) rfl hB Tryz.isAgg9 rfl rfl rfl (fun h => h)) ?_
   refine VO.op rfl (OpE.buildSlice (zc := #[.string ⟨#[]⟩]) rfl hB rfl Tryz.underlying40 Tryz.sizeOf9 Tryz.zeroValue9 (by decide) (by decide) (by kernel_rfl) rfl rfl ?_)
   refine VO.op rfl (OpE.append1 (i := 0) rfl hB rfl Tryz.underlying40 (infoOf Tryz.t9 1 (by kernel_rfl) rfl rfl) rfl (by decide) (by decide) rfl rfl rfl rfl (strsL_snoc _ _) (by omega) (fun _ _ => trivial) ?_)
   intro u22
   refine VO.ma rfl rfl rfl rfl ?_
   refine VO.nil ?_
   refine VC.region ?_
   refine VO.val rfl rfl (OpV.add rfl rfl rfl (by unfold fits; omega)) ?_
   refine VO.mv rfl rfl rfl rfl ?_
   refine VO.nil ?_
   exact Exists.intro (⟨(u22, q + 1), by show _ ≤ _; omega⟩) (And.intro (Le.mk hB [0] ⟨rfl, rfl, rfl, rfl, rfl, trivial⟩ rfl (by dsimp only; rw [nobL_take (by omega)]; first | (rw [if_pos (by assumption), List.append_nil]; rfl) | (rw [if_neg (by simp_all), List.length_append]; rfl)) (Nat.le_refl _)) (by first | omega | (show _ < _; omega) | (simp only []; omega)))
  ·have h2 := h2b
   try simp only [qqT, qqF, qqN, qqM, qqL, qqE] at h2
   refine VC.skip ?_
   refine VC.region ?_
   refine VO.val rfl rfl (OpV.add rfl rfl rfl (by unfold fits; omega)) ?_
   refine VO.mv rfl rfl rfl rfl ?_
   refine VO.nil ?_
   exact Exists.intro (⟨(u, q + 1), by show _ ≤ _; omega⟩) (And.intro (Le.mk hB [0] ⟨rfl, rfl, rfl, rfl, rfl, trivial⟩ rfl (by dsimp only; rw [nobL_take (by omega)]; first | (rw [if_pos (by assumption), List.append_nil]; rfl) | (rw [if_neg (by simp_all), List.length_append]; rfl)) (Nat.le_refl _)) (by first | omega | (show _ < _; omega) | (simp only []; omega)))
 ·have aH1 := aH1b
  try simp only [qqT, qqF, qqN, qqM, qqL, qqE] at aH1
  refine VC.exit ?_
  refine VC.seq ?_
  have hqe : ns.take q = ns := List.take_of_length_le (by omega)
  rw [hqe]
  refine VC.region ?_
  refine VO.mv rfl rfl rfl rfl ?_
  refine VO.ma rfl rfl rfl rfl ?_
  refine VO.nil ?_
  refine VC.ret ?_
  exact Exists.intro _ (And.intro (RetN.one Tryz.results21 (ResN.rowS (i := 0) rfl rfl rfl)) (rfl))
end Go.Proofs.YtemnnmohdpabhaaGreatDoor
namespace Go.Proofs.YtemnnmohdpabhaaGreatDoor
open Go.RowKit
set_option linter.unusedVariables false
set_option linter.unusedSimpArgs false

def keys5 : List ByteArray := [⟨#[97]⟩, ⟨#[98]⟩, ⟨#[99]⟩, ⟨#[100]⟩, ⟨#[101]⟩]
theorem keys5_size (q : Nat) : (keys5.getD q ByteArray.empty).size ≤ 1000 := by
 match q with
 | 0 => decide
 | 1 => decide
 | 2 => decide
 | 3 => decide
 | 4 => decide
 | q + 5 => simp [keys5]
def NOk (ns : List NeedS) : Prop := ns.length ≤ 10 ∧ ∀ x ∈ ns, x.key.size ≤ 1000
theorem NOk.small {ns : List NeedS} (h : NOk ns) : SmallN ns := ⟨by have := h.1; omega, fun i => by
 rw [List.getD_eq_getElem?_getD]
 cases hi : ns[i]? with
 | none => decide
 | some x => have := h.2 x (List.mem_of_getElem? hi); simp; omega⟩
theorem NOk.key {ns : List NeedS} (h : NOk ns) (i : Nat) : (ns.getD i default).key.size ≤ 1000 := by
 rw [List.getD_eq_getElem?_getD]
 cases hi : ns[i]? with
 | none => decide
 | some x => have := h.2 x (List.mem_of_getElem? hi); simpa using this
theorem NOk.set {ns : List NeedS} (h : NOk ns) (q : Nat) {x : NeedS} (hx : x.key.size ≤ 1000) : NOk (ns.set q x) :=
 ⟨by rw [List.length_set]; exact h.1, fun y hy => by rcases List.mem_or_eq_of_mem_set hy with h' | rfl; exact h.2 y h'; exact hx⟩
theorem getD_set_self {α : Type} {xs : List α} {q : Nat} {x d : α} (h : q < xs.length) : (xs.set q x).getD q d = x := by simp [h]
set_option maxRecDepth 100000 in
theorem needList_T {p : Nat} {L : List Int}  :
    SpecT Tryz.prog (TT p L) (fun b => b = p) 9 [sp p] 20 (fun y => ∃ ns, (SmallN ns ∧ ns.length ≤ 10) ∧ y = avL ns) := by
  refine SpecT.of_VC Tryz.func9 rfl Tryz.ntmps9 (Nle rfl) (low := (fun b => b ≤ p)) (fun w A k h => h.ok) fun w A k hk hB => ?_
  have hnew : True := trivial
  refine VC.sr ?_
  refine VO.ma rfl rfl rfl rfl ?_
  refine VO.nil ?_
  refine VC.sr ?_
  refine VO.ma rfl rfl rfl rfl ?_
  refine VO.nil ?_
  refine VC.seq ?_
  refine VC.sr ?_
  refine VO.op rfl (OpE.buildSlice (zc := #[.string ⟨#[]⟩, .string ⟨#[]⟩, .string ⟨#[]⟩, .string ⟨#[]⟩, .string ⟨#[]⟩]) rfl hB rfl Tryz.underlying40 Tryz.sizeOf9 Tryz.zeroValue9 (by decide) (by decide) (by kernel_rfl) rfl rfl ?_)
  refine VO.le _ (Le.recast (t := 7) (y := avStrs keys5) rfl (fun w Z u h => Rep.strs (xs := keys5) rfl h)) ?_
  refine VO.val rfl rfl (OpV.len_im rfl Tryz.underlying40 rfl) ?_
  refine VO.mv rfl rfl rfl rfl ?_
  refine VO.nil ?_
  refine VC.block ?_
  refine VC.le _ (Le.nilRow 2 111) ?_
  refine VC.loopK [] trivial ({p : Value × List NeedS × Nat // p.2.2 ≤ 5 ∧ p.2.1.length ≤ p.2.2 ∧ ∀ x ∈ p.2.1, x.key.size ≤ 1000}) (fun (iZ : {p : Value × List NeedS × Nat // p.2.2 ≤ 5 ∧ p.2.1.length ≤ p.2.2 ∧ ∀ x ∈ p.2.1, x.key.size ≤ 1000}) => match iZ with | ⟨⟨u, ns, q⟩, hq, hl, hk⟩ => [(0, sp p), (3, .v u), (7, avStrs keys5), (8, avI 5), (9, avI (q : Int))]) (fun (iZ : {p : Value × List NeedS × Nat // p.2.2 ≤ 5 ∧ p.2.1.length ≤ p.2.2 ∧ ∀ x ∈ p.2.1, x.key.size ≤ 1000}) => match iZ with | ⟨⟨u, ns, q⟩, hq, hl, hk⟩ => [.row u ns.length 2 (rowL ns) 111]) (fun (iZ : {p : Value × List NeedS × Nat // p.2.2 ≤ 5 ∧ p.2.1.length ≤ p.2.2 ∧ ∀ x ∈ p.2.1, x.key.size ≤ 1000}) => match iZ with | ⟨⟨u, ns, q⟩, hq, hl, hk⟩ => k + 2 * q) (fun (iZ : {p : Value × List NeedS × Nat // p.2.2 ≤ 5 ∧ p.2.1.length ≤ p.2.2 ∧ ∀ x ∈ p.2.1, x.key.size ≤ 1000}) => match iZ with | ⟨⟨u, ns, q⟩, hq, hl, hk⟩ => 5 - q) ⟨(.slice none 0 0, [], 0), by decide, by decide, fun x h => by simp at h⟩ (Le.mk hB [0] ⟨rfl, rfl, rfl, rfl, rfl, trivial⟩ rfl rfl (show k ≤ k + 2 * 0 by omega)) ?_
  rintro ⟨⟨u, ns, q⟩, hq, hl, hk⟩
  show VC _ _ _ _ ⟨[(0, sp p), (3, .v u), (7, avStrs keys5), (8, avI 5), (9, avI (q : Int))] ++ [], [.row u ns.length 2 (rowL ns) 111], k + 2 * q⟩
  simp only at hq hl hk
  refine VC.sr ?_
  refine VO.val rfl rfl (OpV.lss rfl rfl rfl) ?_
  refine VO.nil ?_
  refine VC.seq ?_
  refine VC.cond rfl (fun aH1b => ?_) (fun aH1b => ?_)
  · have aH1 := aH1b
    try simp only [qqT, qqF, qqN, qqM, qqL, qqE] at aH1
    refine VC.skip ?_
    refine VC.seq ?_
    refine VC.block ?_
    refine VC.sr ?_
    refine VO.val rfl rfl (OpV.indexAddr_1 rfl Tryz.underlying40 Tryz.sizeOf9 rfl rfl rfl (by show _ < 5; omega)) ?_
    refine VO.val rfl rfl (OpV.load_at rfl hB OutW.no Tryz.isAgg9 rfl rfl) ?_
    refine VO.ma rfl rfl rfl rfl ?_
    refine VO.nil ?_
    refine VC.sr ?_
    refine VO.mv rfl rfl rfl rfl ?_
    refine VO.op rfl (OpE.callT' (k + 2 * q) rfl rfl hB rfl Tryz.call10 rfl ((flip_T (by omega))) (by omega) ?_)
    rintro _ ⟨r14, rfl⟩
    refine VO.nil ?_
    refine VC.cond rfl (fun aH2b => ?_) (fun aH2b => ?_)
    · have aH2 := aH2b
      try simp only [qqT, qqF, qqN, qqM, qqL, qqE] at aH2
      refine VC.region ?_
      refine VO.mv rfl rfl rfl rfl ?_
      refine VO.mv rfl rfl rfl rfl ?_
      refine VO.mv rfl rfl rfl rfl ?_
      refine VO.op rfl (OpE.buildSlice (zc := #[.int .i64 0, .int .i64 0, .int .i64 0, .int .i64 0, .int .i64 0]) rfl hB rfl Tryz.underlying22 Tryz.sizeOf3 Tryz.zeroValue3 (by decide) (by decide) (by kernel_rfl) rfl rfl ?_)
      refine VO.op rfl (OpE.callT' (k + 2 * q + 1) rfl rfl hB rfl Tryz.call38 rfl ((pick_T (-100000000) 100000000 (by rfl) (by decide) (by decide) (by repeat (first | exact AllI.nil | refine AllI.cons (by omega) ?_)))) (by omega) ?_)
      rintro _ ⟨r19, hr19, rfl⟩
      refine VO.val rfl rfl (OpV.build (pls := #[(0, 1), (1, 1)]) rfl Tryz.zeroValue111 Tryz.underlying111 (fun w => by kernel_rfl) rfl rfl) ?_
      refine VO.op rfl (OpE.buildSlice (zc := #[.string ⟨#[]⟩, .int .i64 0]) rfl hB rfl Tryz.underlying28 Tryz.sizeOf111 Tryz.zeroValue111 (by decide) (by decide) (by kernel_rfl) rfl rfl ?_)
      refine VO.op rfl (OpE.append1 (i := 0) rfl hB rfl Tryz.underlying28 (infoOf Tryz.t111 2 (by kernel_rfl) rfl rfl) rfl (by decide) (by decide) rfl rfl rfl rfl (rowL_snoc ns (⟨keys5.getD q ByteArray.empty, r19⟩ : NeedS)) (by omega) (fun _ _ => trivial) ?_)
      intro u2
      refine VO.ma rfl rfl rfl rfl ?_
      refine VO.nil ?_
      refine VC.region ?_
      refine VO.val rfl rfl (OpV.add rfl rfl rfl (by unfold fits; omega)) ?_
      refine VO.mv rfl rfl rfl rfl ?_
      refine VO.nil ?_
      exact Exists.intro (⟨(u2, ns ++ [⟨keys5.getD q ByteArray.empty, r19⟩], q + 1), by show q + 1 ≤ 5; omega, by show (ns ++ [_]).length ≤ q + 1; simp; omega, fun x hx => by rcases List.mem_append.1 hx with hx | hx; exact hk x hx; (simp at hx; subst hx; exact keys5_size _)⟩) (And.intro (Le.mk hB [0] ⟨rfl, rfl, rfl, rfl, rfl, trivial⟩ rfl (by dsimp only; first | rfl | (rw [List.length_append]; rfl)) (show k + 2 * q + 1 + 1 ≤ k + 2 * (q + 1) by omega)) (by first | omega | (show _ < _; omega) | (simp only []; omega)))
    · have aH2 := aH2b
      try simp only [qqT, qqF, qqN, qqM, qqL, qqE] at aH2
      refine VC.skip ?_
      refine VC.region ?_
      refine VO.val rfl rfl (OpV.add rfl rfl rfl (by unfold fits; omega)) ?_
      refine VO.mv rfl rfl rfl rfl ?_
      refine VO.nil ?_
      exact Exists.intro (⟨(u, ns, q + 1), by show q + 1 ≤ 5; omega, by show ns.length ≤ q + 1; omega, hk⟩) (And.intro (Le.mk hB [0] ⟨rfl, rfl, rfl, rfl, rfl, trivial⟩ rfl (by dsimp only; first | rfl | (rw [List.length_append]; rfl)) (show k + 2 * q + 1 ≤ k + 2 * (q + 1) by omega)) (by first | omega | (show _ < _; omega) | (simp only []; omega)))
  · have aH1 := aH1b
    try simp only [qqT, qqF, qqN, qqM, qqL, qqE] at aH1
    refine VC.exit ?_
    refine VC.seq ?_
    refine VC.seq ?_
    have hok : NOk ns := ⟨by omega, hk⟩
    refine VC.region ?_
    refine VO.mv rfl rfl rfl rfl ?_
    refine VO.val rfl rfl (OpV.len_row (i := 0) rfl Tryz.underlying28 rfl rfl) ?_
    refine VO.val rfl rfl (OpV.gtr rfl rfl rfl) ?_
    refine VO.mv rfl rfl rfl rfl ?_
    refine VO.opG rfl rfl rfl rfl (fun aK3b => ?_) (fun aK3b => ?_)
    · replace aK3b : _ = true := aK3b
      have aK3 := aK3b
      try simp only [qqT, qqF, qqN, qqM, qqL, qqE] at aK3
      refine OpE.val (W := NoB) (OpV.move (.inl rfl) rfl) rfl ?_
      refine VO.opY rfl rfl rfl rfl aK3b ?_
      refine OpE.callT' (k + 2 * q) rfl rfl hB rfl Tryz.call10 rfl ((flip_T (by omega))) (by omega) ?_
      rintro _ ⟨r29, rfl⟩
      refine VO.val rfl rfl (OpV.pickT rfl rfl rfl rfl aK3b) ?_
      refine VO.nil ?_
      refine VC.cond rfl (fun aH4b => ?_) (fun aH4b => ?_)
      · have aH4 := aH4b
        try simp only [qqT, qqF, qqN, qqM, qqL, qqE] at aH4
        refine VC.seq ?_
        refine VC.asBox (i := 0) rfl (by omega) (fun g cap hu hcap hmx => ?_)
        subst hu
        refine VC.region ?_
        refine VO.mv rfl rfl rfl rfl ?_
        refine VO.mv rfl rfl rfl rfl ?_
        refine VO.mv rfl rfl rfl rfl ?_
        refine VO.val rfl rfl (OpV.len_v rfl Tryz.underlying28 rfl) ?_
        refine VO.op rfl (OpE.callT' (k + 2 * q + 1) rfl rfl hB rfl Tryz.call69 rfl ((next_T (by omega))) (by omega) ?_)
        rintro _ ⟨r35, hr35, rfl⟩
        obtain ⟨m, rfl⟩ : ∃ m : Nat, r35 = m := ⟨r35.toNat, by omega⟩
        refine VO.val rfl rfl (OpV.indexAddr_q rfl Tryz.underlying28 Tryz.sizeOf111 rfl rfl rfl (by omega)) ?_
        refine VO.ma rfl rfl rfl rfl ?_
        refine VO.nil ?_
        refine VC.draw (fun j b => (j = 18 ∧ b = g) ∨ (j = 21 ∧ b = g)) hB (by kernel_rfl) ?_
        refine VA.take (i := 0) rfl (by kernel_rfl) (by kernel_rfl) (by kernel_rfl) rfl rfl (OpV.move (.inl rfl) rfl) ?_
        refine VA.take (i := 1) rfl (by kernel_rfl) (by kernel_rfl) (by kernel_rfl) rfl rfl (OpV.move (.inl rfl) rfl) ?_
        refine VA.take (i := 2) rfl (by kernel_rfl) (by kernel_rfl) (by kernel_rfl) rfl rfl (OpV.move (.inl rfl) rfl) ?_
        refine VA.take (i := 3) rfl (by kernel_rfl) (by kernel_rfl) (by kernel_rfl) rfl rfl (OpV.move (.inl rfl) rfl) ?_
        refine VA.take (i := 4) rfl (by kernel_rfl) (by kernel_rfl) (by kernel_rfl) rfl rfl (OpV.nilCheck rfl rfl) ?_
        refine VA.take (i := 5) rfl (by kernel_rfl) (by kernel_rfl) (by kernel_rfl) rfl rfl (OpV.fieldAddrO 0 rfl Tryz.underlying111 rfl rfl Tryz.sizeOf9 rfl) ?_
        refine VA.take (i := 6) rfl (by kernel_rfl) (by kernel_rfl) (by kernel_rfl) rfl rfl (OpV.load_own (i := 0) rfl hB Tryz.isAgg9 rfl rfl (rowL_at rfl (by omega) (by decide)) (by first | exact Wi.not1 (by kernel_rfl) | exact Wi.not2 (by kernel_rfl) (by kernel_rfl) | exact Wi.notX (by kernel_rfl))) ?_
        refine VA.take (i := 9) rfl (by kernel_rfl) (by kernel_rfl) (by kernel_rfl) rfl rfl (OpV.move (.inl rfl) rfl) ?_
        refine VA.take (i := 10) rfl (by kernel_rfl) (by kernel_rfl) (by kernel_rfl) rfl rfl (OpV.move (.inl rfl) rfl) ?_
        refine VA.take (i := 11) rfl (by kernel_rfl) (by kernel_rfl) (by kernel_rfl) rfl rfl (OpV.nilCheck rfl rfl) ?_
        refine VA.take (i := 12) rfl (by kernel_rfl) (by kernel_rfl) (by kernel_rfl) rfl rfl (OpV.fieldAddrO 1 rfl Tryz.underlying111 rfl rfl Tryz.sizeOf3 rfl) ?_
        refine VA.take (i := 13) rfl (by kernel_rfl) (by kernel_rfl) (by kernel_rfl) rfl rfl (OpV.load_own (i := 0) rfl hB Tryz.isAgg3 rfl rfl (rowL_at rfl (by omega) (by decide)) (by first | exact Wi.not1 (by kernel_rfl) | exact Wi.not2 (by kernel_rfl) (by kernel_rfl) | exact Wi.notX (by kernel_rfl))) ?_
        refine VA.all (rs := [7, 14]) (by kernel_rfl) (by decide) ?_
        refine ⟨⟨_, rfl, .inl rfl, ?_⟩, ⟨_, rfl, .inl rfl, ?_⟩, trivial⟩
        ·
          refine OpE.buildSlice (zc := #[.string ⟨#[]⟩, .string ⟨#[]⟩, .string ⟨#[]⟩, .string ⟨#[]⟩]) rfl hB rfl Tryz.underlying40 Tryz.sizeOf9 Tryz.zeroValue9 (by decide) (by decide) (by kernel_rfl) rfl rfl ?_
          refine VA.all (rs := [8, 14]) (by kernel_rfl) (by decide) ?_
          refine ⟨⟨_, rfl, .inl rfl, ?_⟩, ⟨_, rfl, .inl rfl, ?_⟩, trivial⟩
          ·
            refine OpE.callT' (k + 2 * q + 1 + 1) rfl rfl hB rfl Tryz.call70 rfl (some_T 1000 (by rfl) (by decide) (by decide) (AllS.cons (hok.key m) (AllS.cons (by decide) (AllS.cons (by decide) (AllS.cons (by decide) AllS.nil))))) (by omega) ?_
            rintro _ ⟨r45, hr45, rfl⟩
            refine VA.all (rs := [14]) (by kernel_rfl) (by decide) ?_
            refine ⟨⟨_, rfl, .inl rfl, ?_⟩, trivial⟩
            refine OpE.buildSlice (zc := #[.int .i64 0, .int .i64 0, .int .i64 0, .int .i64 0]) rfl hB rfl Tryz.underlying22 Tryz.sizeOf3 Tryz.zeroValue3 (by decide) (by decide) (by kernel_rfl) rfl rfl ?_
            refine VA.all (rs := [15]) (by kernel_rfl) (by decide) ?_
            refine ⟨⟨_, rfl, .inl rfl, ?_⟩, trivial⟩
            refine OpE.callT' (k + 2 * q + 1 + 1 + 1) rfl rfl hB rfl Tryz.call38 rfl (pick_X (by rfl) (by decide) (by decide) (by repeat (first | exact AllX.nil | refine AllX.cons ?_))) (by omega) ?_
            rintro _ ⟨r52, rfl⟩
            refine VA.take (i := 16) rfl (by kernel_rfl) (by kernel_rfl) (by kernel_rfl) rfl rfl (OpV.nilCheck rfl rfl) ?_
            refine VA.take (i := 17) rfl (by kernel_rfl) (by kernel_rfl) (by kernel_rfl) rfl rfl (OpV.fieldAddrO 0 rfl Tryz.underlying111 rfl rfl Tryz.sizeOf9 rfl) ?_
            refine VA.all (rs := [18]) (by kernel_rfl) (by decide) ?_
            refine ⟨⟨_, rfl, .inl rfl, ?_⟩, trivial⟩
            refine OpE.store1 (i := 0) rfl hB rfl Tryz.sizeOf9 rfl rfl rfl rfl rfl rfl (rowL_in rfl (by omega) (by decide)) (rowL_set (x := (⟨r45, (ns.getD m default).count⟩ : NeedS)) rfl (by omega) (by decide) rfl (ne2_0 rfl)) (by first | exact ⟨rfl, rfl⟩ | exact .inl ⟨rfl, rfl⟩ | exact .inr ⟨rfl, rfl⟩ | exact ⟨rfl, trivial⟩ | exact .inl ⟨rfl, trivial⟩ | exact .inr ⟨rfl, trivial⟩ | exact ⟨by decide, rfl⟩) ?_
            refine VA.take (i := 19) rfl (by kernel_rfl) (by kernel_rfl) (by kernel_rfl) rfl rfl (OpV.nilCheck rfl rfl) ?_
            refine VA.take (i := 20) rfl (by kernel_rfl) (by kernel_rfl) (by kernel_rfl) rfl rfl (OpV.fieldAddrO 1 rfl Tryz.underlying111 rfl rfl Tryz.sizeOf3 rfl) ?_
            refine VA.all (rs := [21]) (by kernel_rfl) (by decide) ?_
            refine ⟨⟨_, rfl, .inl rfl, ?_⟩, trivial⟩
            refine OpE.store1 (i := 0) rfl hB rfl Tryz.sizeOf3 rfl rfl rfl rfl rfl rfl (rowL_in rfl (by rw [List.length_set]; omega) (by decide)) (rowL_set (x := (⟨r45, r52⟩ : NeedS)) rfl (by rw [List.length_set]; omega) (by decide) rfl (ne2_1 (by rw [getD_set_self (by omega)]; rfl))) (by first | exact ⟨rfl, rfl⟩ | exact .inl ⟨rfl, rfl⟩ | exact .inr ⟨rfl, rfl⟩ | exact ⟨rfl, trivial⟩ | exact .inl ⟨rfl, trivial⟩ | exact .inr ⟨rfl, trivial⟩ | exact ⟨by decide, rfl⟩) ?_
            refine VA.done (by kernel_rfl) ?_
            refine VC.sr ?_
            refine VO.mv rfl rfl rfl rfl ?_
            refine VO.ma rfl rfl rfl rfl ?_
            refine VO.nil ?_
            refine VC.le _ (Le.boxT (t := 2) (i := 0) (n := ns.length) hB hnew rfl rfl (by simp) hcap hmx) ?_
            refine VC.ret ?_
            exact Exists.intro _ (And.intro (RetV.one Tryz.results9 (ResV.tmp rfl)) (And.intro (by first | exact ⟨_, ⟨hok.small, hok.1⟩, rfl⟩ | exact ⟨_, ⟨((hok.set m (x := ⟨r45, (ns.getD m default).count⟩) hr45).set m (x := ⟨r45, r52⟩) hr45).small, ((hok.set m (x := ⟨r45, (ns.getD m default).count⟩) hr45).set m (x := ⟨r45, r52⟩) hr45).1⟩, rfl⟩) ((show k + 2 * q + 1 + 1 + 1 + 1 ≤ k + 20 by omega))))
          ·
            refine OpE.buildSlice (zc := #[.int .i64 0, .int .i64 0, .int .i64 0, .int .i64 0]) rfl hB rfl Tryz.underlying22 Tryz.sizeOf3 Tryz.zeroValue3 (by decide) (by decide) (by kernel_rfl) rfl rfl ?_
            refine VA.all (rs := [8]) (by kernel_rfl) (by decide) ?_
            refine ⟨⟨_, rfl, .inl rfl, ?_⟩, trivial⟩
            refine OpE.callT' (k + 2 * q + 1 + 1) rfl rfl hB rfl Tryz.call70 rfl (some_T 1000 (by rfl) (by decide) (by decide) (AllS.cons (hok.key m) (AllS.cons (by decide) (AllS.cons (by decide) (AllS.cons (by decide) AllS.nil))))) (by omega) ?_
            rintro _ ⟨r45, hr45, rfl⟩
            refine VA.all (rs := [15]) (by kernel_rfl) (by decide) ?_
            refine ⟨⟨_, rfl, .inl rfl, ?_⟩, trivial⟩
            refine OpE.callT' (k + 2 * q + 1 + 1 + 1) rfl rfl hB rfl Tryz.call38 rfl (pick_X (by rfl) (by decide) (by decide) (by repeat (first | exact AllX.nil | refine AllX.cons ?_))) (by omega) ?_
            rintro _ ⟨r52, rfl⟩
            refine VA.take (i := 16) rfl (by kernel_rfl) (by kernel_rfl) (by kernel_rfl) rfl rfl (OpV.nilCheck rfl rfl) ?_
            refine VA.take (i := 17) rfl (by kernel_rfl) (by kernel_rfl) (by kernel_rfl) rfl rfl (OpV.fieldAddrO 0 rfl Tryz.underlying111 rfl rfl Tryz.sizeOf9 rfl) ?_
            refine VA.all (rs := [18]) (by kernel_rfl) (by decide) ?_
            refine ⟨⟨_, rfl, .inl rfl, ?_⟩, trivial⟩
            refine OpE.store1 (i := 0) rfl hB rfl Tryz.sizeOf9 rfl rfl rfl rfl rfl rfl (rowL_in rfl (by omega) (by decide)) (rowL_set (x := (⟨r45, (ns.getD m default).count⟩ : NeedS)) rfl (by omega) (by decide) rfl (ne2_0 rfl)) (by first | exact ⟨rfl, rfl⟩ | exact .inl ⟨rfl, rfl⟩ | exact .inr ⟨rfl, rfl⟩ | exact ⟨rfl, trivial⟩ | exact .inl ⟨rfl, trivial⟩ | exact .inr ⟨rfl, trivial⟩ | exact ⟨by decide, rfl⟩) ?_
            refine VA.take (i := 19) rfl (by kernel_rfl) (by kernel_rfl) (by kernel_rfl) rfl rfl (OpV.nilCheck rfl rfl) ?_
            refine VA.take (i := 20) rfl (by kernel_rfl) (by kernel_rfl) (by kernel_rfl) rfl rfl (OpV.fieldAddrO 1 rfl Tryz.underlying111 rfl rfl Tryz.sizeOf3 rfl) ?_
            refine VA.all (rs := [21]) (by kernel_rfl) (by decide) ?_
            refine ⟨⟨_, rfl, .inl rfl, ?_⟩, trivial⟩
            refine OpE.store1 (i := 0) rfl hB rfl Tryz.sizeOf3 rfl rfl rfl rfl rfl rfl (rowL_in rfl (by rw [List.length_set]; omega) (by decide)) (rowL_set (x := (⟨r45, r52⟩ : NeedS)) rfl (by rw [List.length_set]; omega) (by decide) rfl (ne2_1 (by rw [getD_set_self (by omega)]; rfl))) (by first | exact ⟨rfl, rfl⟩ | exact .inl ⟨rfl, rfl⟩ | exact .inr ⟨rfl, rfl⟩ | exact ⟨rfl, trivial⟩ | exact .inl ⟨rfl, trivial⟩ | exact .inr ⟨rfl, trivial⟩ | exact ⟨by decide, rfl⟩) ?_
            refine VA.done (by kernel_rfl) ?_
            refine VC.sr ?_
            refine VO.mv rfl rfl rfl rfl ?_
            refine VO.ma rfl rfl rfl rfl ?_
            refine VO.nil ?_
            refine VC.le _ (Le.boxT (t := 2) (i := 0) (n := ns.length) hB hnew rfl rfl (by simp) hcap hmx) ?_
            refine VC.ret ?_
            exact Exists.intro _ (And.intro (RetV.one Tryz.results9 (ResV.tmp rfl)) (And.intro (by first | exact ⟨_, ⟨hok.small, hok.1⟩, rfl⟩ | exact ⟨_, ⟨((hok.set m (x := ⟨r45, (ns.getD m default).count⟩) hr45).set m (x := ⟨r45, r52⟩) hr45).small, ((hok.set m (x := ⟨r45, (ns.getD m default).count⟩) hr45).set m (x := ⟨r45, r52⟩) hr45).1⟩, rfl⟩) ((show k + 2 * q + 1 + 1 + 1 + 1 ≤ k + 20 by omega))))
        ·
          refine OpE.buildSlice (zc := #[.int .i64 0, .int .i64 0, .int .i64 0, .int .i64 0]) rfl hB rfl Tryz.underlying22 Tryz.sizeOf3 Tryz.zeroValue3 (by decide) (by decide) (by kernel_rfl) rfl rfl ?_
          refine VA.all (rs := [7]) (by kernel_rfl) (by decide) ?_
          refine ⟨⟨_, rfl, .inl rfl, ?_⟩, trivial⟩
          refine OpE.buildSlice (zc := #[.string ⟨#[]⟩, .string ⟨#[]⟩, .string ⟨#[]⟩, .string ⟨#[]⟩]) rfl hB rfl Tryz.underlying40 Tryz.sizeOf9 Tryz.zeroValue9 (by decide) (by decide) (by kernel_rfl) rfl rfl ?_
          refine VA.all (rs := [8]) (by kernel_rfl) (by decide) ?_
          refine ⟨⟨_, rfl, .inl rfl, ?_⟩, trivial⟩
          refine OpE.callT' (k + 2 * q + 1 + 1) rfl rfl hB rfl Tryz.call70 rfl (some_T 1000 (by rfl) (by decide) (by decide) (AllS.cons (hok.key m) (AllS.cons (by decide) (AllS.cons (by decide) (AllS.cons (by decide) AllS.nil))))) (by omega) ?_
          rintro _ ⟨r45, hr45, rfl⟩
          refine VA.all (rs := [15]) (by kernel_rfl) (by decide) ?_
          refine ⟨⟨_, rfl, .inl rfl, ?_⟩, trivial⟩
          refine OpE.callT' (k + 2 * q + 1 + 1 + 1) rfl rfl hB rfl Tryz.call38 rfl (pick_X (by rfl) (by decide) (by decide) (by repeat (first | exact AllX.nil | refine AllX.cons ?_))) (by omega) ?_
          rintro _ ⟨r52, rfl⟩
          refine VA.take (i := 16) rfl (by kernel_rfl) (by kernel_rfl) (by kernel_rfl) rfl rfl (OpV.nilCheck rfl rfl) ?_
          refine VA.take (i := 17) rfl (by kernel_rfl) (by kernel_rfl) (by kernel_rfl) rfl rfl (OpV.fieldAddrO 0 rfl Tryz.underlying111 rfl rfl Tryz.sizeOf9 rfl) ?_
          refine VA.all (rs := [18]) (by kernel_rfl) (by decide) ?_
          refine ⟨⟨_, rfl, .inl rfl, ?_⟩, trivial⟩
          refine OpE.store1 (i := 0) rfl hB rfl Tryz.sizeOf9 rfl rfl rfl rfl rfl rfl (rowL_in rfl (by omega) (by decide)) (rowL_set (x := (⟨r45, (ns.getD m default).count⟩ : NeedS)) rfl (by omega) (by decide) rfl (ne2_0 rfl)) (by first | exact ⟨rfl, rfl⟩ | exact .inl ⟨rfl, rfl⟩ | exact .inr ⟨rfl, rfl⟩ | exact ⟨rfl, trivial⟩ | exact .inl ⟨rfl, trivial⟩ | exact .inr ⟨rfl, trivial⟩ | exact ⟨by decide, rfl⟩) ?_
          refine VA.take (i := 19) rfl (by kernel_rfl) (by kernel_rfl) (by kernel_rfl) rfl rfl (OpV.nilCheck rfl rfl) ?_
          refine VA.take (i := 20) rfl (by kernel_rfl) (by kernel_rfl) (by kernel_rfl) rfl rfl (OpV.fieldAddrO 1 rfl Tryz.underlying111 rfl rfl Tryz.sizeOf3 rfl) ?_
          refine VA.all (rs := [21]) (by kernel_rfl) (by decide) ?_
          refine ⟨⟨_, rfl, .inl rfl, ?_⟩, trivial⟩
          refine OpE.store1 (i := 0) rfl hB rfl Tryz.sizeOf3 rfl rfl rfl rfl rfl rfl (rowL_in rfl (by rw [List.length_set]; omega) (by decide)) (rowL_set (x := (⟨r45, r52⟩ : NeedS)) rfl (by rw [List.length_set]; omega) (by decide) rfl (ne2_1 (by rw [getD_set_self (by omega)]; rfl))) (by first | exact ⟨rfl, rfl⟩ | exact .inl ⟨rfl, rfl⟩ | exact .inr ⟨rfl, rfl⟩ | exact ⟨rfl, trivial⟩ | exact .inl ⟨rfl, trivial⟩ | exact .inr ⟨rfl, trivial⟩ | exact ⟨by decide, rfl⟩) ?_
          refine VA.done (by kernel_rfl) ?_
          refine VC.sr ?_
          refine VO.mv rfl rfl rfl rfl ?_
          refine VO.ma rfl rfl rfl rfl ?_
          refine VO.nil ?_
          refine VC.le _ (Le.boxT (t := 2) (i := 0) (n := ns.length) hB hnew rfl rfl (by simp) hcap hmx) ?_
          refine VC.ret ?_
          exact Exists.intro _ (And.intro (RetV.one Tryz.results9 (ResV.tmp rfl)) (And.intro (by first | exact ⟨_, ⟨hok.small, hok.1⟩, rfl⟩ | exact ⟨_, ⟨((hok.set m (x := ⟨r45, (ns.getD m default).count⟩) hr45).set m (x := ⟨r45, r52⟩) hr45).small, ((hok.set m (x := ⟨r45, (ns.getD m default).count⟩) hr45).set m (x := ⟨r45, r52⟩) hr45).1⟩, rfl⟩) ((show k + 2 * q + 1 + 1 + 1 + 1 ≤ k + 20 by omega))))
      · have aH4 := aH4b
        try simp only [qqT, qqF, qqN, qqM, qqL, qqE] at aH4
        refine VC.skip ?_
        refine VC.sr ?_
        refine VO.mv rfl rfl rfl rfl ?_
        refine VO.ma rfl rfl rfl rfl ?_
        refine VO.nil ?_
        refine VC.le _ (Le.rowT (t := 2) (i := 0) (n := ns.length) (xs := ns) hB hnew rfl rfl rfl) ?_
        refine VC.ret ?_
        exact Exists.intro _ (And.intro (RetV.one Tryz.results9 (ResV.tmp rfl)) (And.intro (by first | exact ⟨_, ⟨hok.small, hok.1⟩, rfl⟩ | exact ⟨_, ⟨((hok.set m (x := ⟨r45, (ns.getD m default).count⟩) hr45).set m (x := ⟨r45, r52⟩) hr45).small, ((hok.set m (x := ⟨r45, (ns.getD m default).count⟩) hr45).set m (x := ⟨r45, r52⟩) hr45).1⟩, rfl⟩) ((show k + 2 * q + 1 ≤ k + 20 by omega))))
    · replace aK3b : _ = false := aK3b
      have aK3 := aK3b
      try simp only [qqT, qqF, qqN, qqM, qqL, qqE] at aK3
      refine VO.opX rfl rfl rfl rfl aK3b ?_
      refine VO.val rfl rfl (OpV.pickF rfl rfl rfl rfl aK3b) ?_
      refine VO.nil ?_
      refine VC.condF rfl rfl ?_
      refine VC.skip ?_
      refine VC.sr ?_
      refine VO.mv rfl rfl rfl rfl ?_
      refine VO.ma rfl rfl rfl rfl ?_
      refine VO.nil ?_
      refine VC.le _ (Le.rowT (t := 2) (i := 0) (n := ns.length) (xs := ns) hB hnew rfl rfl rfl) ?_
      refine VC.ret ?_
      exact Exists.intro _ (And.intro (RetV.one Tryz.results9 (ResV.tmp rfl)) (And.intro (by first | exact ⟨_, ⟨hok.small, hok.1⟩, rfl⟩ | exact ⟨_, ⟨((hok.set m (x := ⟨r45, (ns.getD m default).count⟩) hr45).set m (x := ⟨r45, r52⟩) hr45).small, ((hok.set m (x := ⟨r45, (ns.getD m default).count⟩) hr45).set m (x := ⟨r45, r52⟩) hr45).1⟩, rfl⟩) ((show k + 2 * q ≤ k + 20 by omega))))

end Go.Proofs.YtemnnmohdpabhaaGreatDoor
