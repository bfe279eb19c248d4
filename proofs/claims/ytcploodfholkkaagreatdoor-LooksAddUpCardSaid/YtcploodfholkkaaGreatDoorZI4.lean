/- Part 4 of a proof: the walks and laws that it needs. -/
import Derived.Sort.Grow
import Derived.Shelf.SlSortCmp.NoneTotal
import Derived.Ground.SlsfProg
import Derived.Test.YtcploodfholkkaaGreatDoorProg
import Derived.Lib.Bytealg
import Derived.Lib.AtoiErrMem
import Derived.WideLaws
import Derived.Lib.LaidTab
import Derived.Lib.ItoaNum
import Derived.Lib.ItoaMem
import Derived.Lib.AppendStr
import Derived.Lib.Builder
import Derived.WalkKit
import Derived.Laws.Externs
import Derived.Test.YtcploodfholkkaaGreatDoorZI3
set_option linter.unusedVariables false
set_option linter.unusedSimpArgs false
namespace Go.Proofs.YtcploodfholkkaaGreatDoor
open Go.RowKit
set_option maxRecDepth 100000
section
section
variable {P : Program} {ops : Array Oper} {Q : Act → World → Prop} {md : Region.Mode} {E : Nat → World → World → Prop}
theorem wpAnyE_firstT {S : Nat → Bool} {F : World → World → Prop} (htr : ∀ x y z, F x y → F y z → F x z) (hrf : ∀ x, F x x) {i : Nat} (hEr : ∀ x, E i x x)
  (hEF : ∀ j oj, ops[j]? = some oj → S j = false → ∀ w w', E j w w' → F w w') (hcl : ∀ k, S k = true → k ≠ i → ∃ ok, ops[k]? = some ok ∧ ∃ e ∈ ok.after, Region.binds md e = true ∧ S e.on = true)
  {oi : Oper} {v : Value} (hi : ops[i]? = some oi) (hsel : ∀ (j : Nat) (o : Oper) cs b, ops[j]? = some o → o.op ≠ .select cs b) :
  ∀ (fuel : Nat) (listed : Array Bool) (a : Act) (w : World), (∀ k, S k = true → listed.getD k true = false) →
   (∀ j oj, ops[j]? = some oj → j ≠ i → listed.getD j true = false → (∀ e ∈ oj.after, Region.binds md e = true → e.on ≠ i) → oi.apart ops oj = true) →
   i ∈ Region.ready md ops listed → YieldsE P ops F oi v a w →
   wpAnyE P md ops Q E fuel (listed.setIfInBounds i true) (a.put oi.dst v) w → wpAnyE P md ops Q E (fuel + 1) listed a w := by
 intro fuel
 induction fuel with
 | zero =>
  intro listed a w _ _ hr hy H
  refine ⟨fun h => (by rw [h] at hr; cases hr), fun j hj => ?_⟩
  by_cases hji : j = i
  ·subst hji; exact YieldsIf.wpOp hi hy.iff (hrf w) ⟨hEr w, H⟩
  ·have := ready_mono hj hji
   rw [H.1] at this
   cases this
 | succ fuel ih =>
  intro listed a w hS hfree hr hy H
  refine ⟨fun h => (by rw [h] at hr; cases hr), fun j hj => ?_⟩
  by_cases hji : j = i
  ·subst hji; exact YieldsIf.wpOp hi hy.iff (hrf w) ⟨hEr w, H⟩
  ·have h1 := H.2 j (ready_mono hj hji)
   obtain ⟨hjun, oj, hoj, hall⟩ := mem_ready.1 hj
   have hnot : ∀ e ∈ oj.after, Region.binds md e = true → e.on ≠ i := fun e he hb heq => by
    have h1 := hall e he hb
    have h0 := (mem_ready.1 hr).1
    rw [heq] at h1
    rcases Nat.lt_or_ge i listed.size with h' | h'
    ·simp [h'] at h0 h1; rw [h0] at h1; cases h1
    ·simp [Array.getElem?_eq_none h'] at h1
   have hjS : S j = false := by
    cases hc : S j with
    | false => rfl
    | true =>
     obtain ⟨ok, k1, e, he, hb, k2⟩ := hcl j hc hji
     obtain rfl : oj = ok := Option.some.inj (hoj.symm.trans k1)
     have h1 := hall e he hb
     have h0 := hS e.on k2
     rcases Nat.lt_or_ge e.on listed.size with h' | h'
     ·simp [h'] at h0 h1; rw [h0] at h1; cases h1
     ·simp [Array.getElem?_eq_none h'] at h1
   have h2 := wpOp_putIf (S := F w) hoj (hfree j oj hoj hji hjun hnot) (fun cs b => hsel i oi cs b hi) (fun cs b => hsel j oj cs b hoj) (fun c a w h => h.elim) hy.iff h1
   have hfree' : ∀ k ok, ops[k]? = some ok → k ≠ i → (listed.setIfInBounds j true).getD k true = false →
     (∀ e ∈ ok.after, Region.binds md e = true → e.on ≠ i) → oi.apart ops ok = true := fun k ok hk hki hun hno => by
    refine hfree k ok hk hki ?_ hno
    by_cases hjk : j = k
    ·subst hjk; exact hjun
    ·rw [Go.getD_set_ne true hjk] at hun; exact hun
   have hS' : ∀ k, S k = true → (listed.setIfInBounds j true).getD k true = false := fun k hk => by
    have hjk : j ≠ k := fun e => by rw [e, hk] at hjS; cases hjS
    rw [Go.getD_set_ne true hjk]; exact hS k hk
   refine wpOp_mono (fun a' w' h3 => ⟨h3.2.1, ih (listed.setIfInBounds j true) a' w' hS' hfree' (ready_mono hr (Ne.symm hji)) ?_ ?_⟩) h2
   ·rcases h3.1 with ⟨k1, k2⟩ | k
    ·exact .inl ⟨k1, fun w'' hw'' => k2 w'' (htr _ _ _ (hEF j oj hoj hjS _ _ h3.2.1) hw'')⟩
    ·exact .inr k
   rw [Array.setIfInBounds_comm _ _ hji]
   exact h3.2.2
end
section
variable {P : Program} {B : Bs} {V : Nat → Nat → Prop} {ops : Array Oper} {s : St'} {Q : Exit → St' → Prop} {n : Nat} {L : Array Bool}
def WS (V : Nat → Nat → Prop) (S : List Nat) : Nat → Prop := fun b => ∃ j, S.contains j = false ∧ V j b
def hangB (ops : Array Oper) (S : List Nat) (i : Nat) : Bool := S.all fun k => k == i || match ops[k]? with
 | some o => o.after.any fun e => Region.binds .any e && S.contains e.on
 | none => false
theorem VA.takeT (S : List Nat) {i : Nat} {o : Oper} {x : AV} (hS : hangB ops S i = true) (hL : (S.all fun k => !(L.getD k true)) = true) (hi : ops[i]? = some o) (hs : Region.noSelect ops = true) (hf : Region.free .any ops L i = true) (hr : (Region.ready .any ops L).contains i = true) (hg : o.guard = none) (hd : okd B.nt o.dst = true)
  (hv : OpV P B (WS V S) s o x) (h : VA P B V ops Q n (L.setIfInBounds i true) (s.put o.dst x)) : VA P B V ops Q (n + 1) L s := fun a w hR => by
 obtain ⟨v, h1, h2⟩ := hv a w hR
 refine wpAnyE_firstT (S := fun k => S.contains k) (F := Ew B (WS V S)) Ew.tr Ew.rf (fun x => Ew.rf x) (fun j oj hj hjS w w' h => h.mono fun b _ hb => hb.imp id fun hv => ⟨j, hjS, hv⟩) (fun k hk hki => ?_) hi (Region.noSelect_spec hs) n L a w (fun k hk => ?_) (Region.free_spec hi hf) (by simpa using hr) (.inl ⟨by simp [Region.wanted, hg], h1⟩) (h _ _ (hR.put _ hd _ _ h2))
 ·have hk' : k ∈ S := by simpa using hk
  have := List.all_eq_true.1 hS k hk'
  simp only [Bool.or_eq_true, beq_iff_eq] at this
  have := this.resolve_left hki
  cases ho : ops[k]? with
  | none => rw [ho] at this; cases this
  | some ok =>
   rw [ho] at this
   obtain ⟨e, he, h3⟩ := Array.any_eq_true'.1 this
   simp only [Bool.and_eq_true] at h3
   exact ⟨ok, rfl, e, he, h3.1, h3.2⟩
 ·have hk' : k ∈ S := by simpa using hk
  have := List.all_eq_true.1 hL k hk'
  simpa using this
end
end
section
def slW : ByteArray := ⟨#[47]⟩
def mcF (k : ByteArray) (l : List LookS) : List LookS := l.filter fun x => sEq x.machine k
def byP (l : List LookS) (k : ByteArray) : PairS := ⟨k, decB (badN (mcF k l)) ++ slW ++ decB (mcF k l).length⟩
def mcK (l : List LookS) : List ByteArray := uK (l.map fun x => x.machine)
def byM (l : List LookS) : List PairS := (mcK l).map (byP l)
theorem byM_len (l : List LookS) : (byM l).length = (mcK l).length := by simp [byM]
theorem byM_take {l : List LookS} {r : Nat} {k : ByteArray} (h : r < (mcK l).length) (hk : (mcK l).getD r ByteArray.empty = k) : (byM l).take (r + 1) = (byM l).take r ++ [byP l k] := by
 rw [List.take_succ_eq_append_getElem (by rw [byM_len]; exact h)]
 subst hk
 simp [byM, h]
theorem byM_all (l : List LookS) : (byM l).take (mcK l).length = byM l := List.take_of_length_le (by rw [byM_len]; exact Nat.le_refl _)
theorem mcK_len (l : List LookS) : (mcK l).length ≤ l.length := by have h := uK_len (l.map fun x => x.machine); rwa [List.length_map] at h
theorem mc_size {l : List LookS} (hs : SmLk l) : ∀ x ∈ l.map (fun x => x.machine), x.size ≤ 1000000 := fun x hx => by
 obtain ⟨y, hy, rfl⟩ := List.mem_map.1 hx
 obtain ⟨i, hi, rfl⟩ := List.getElem_of_mem hy
 have h2 := hs.machine i
 rw [List.getD_eq_getElem?_getD, List.getElem?_eq_getElem hi] at h2
 exact h2
theorem decB_size : ∀ i, i < 100 → (decB i).size ≤ 3 := by decide +kernel
end
end Go.Proofs.YtcploodfholkkaaGreatDoor
namespace Go.Proofs.YtcploodfholkkaaGreatDoor
open Go.RowKit Go.Sort
def RD (B : Bs) (s : St') (a : Act) (w : World) : Prop := R B s a w ∧ B.w0.drawn ≤ w.drawn
def VCD (P : Program) (B : Bs) (c : Code) (Q : Exit → St' → Prop) (s : St') : Prop := ∀ a w, RD B s a w → c.wp P (fun e a w => ∃ s, Q e s ∧ RD B s a w) a w
def VOD (P : Program) (B : Bs) (ops : Array Oper) (rest : List Oper) (Q : Exit → St' → Prop) (s : St') : Prop := ∀ a w, RD B s a w → wpList P ops (fun e a w => ∃ s, Q e s ∧ RD B s a w) rest a w
def EwD (B : Bs) (W : Nat → Prop) (w w' : World) : Prop := Ew B W w w' ∧ w.drawn ≤ w'.drawn
def VAD (P : Program) (B : Bs) (V : Nat → Nat → Prop) (ops : Array Oper) (Q : Exit → St' → Prop) (n : Nat) (L : Array Bool) (s : St') : Prop :=
 ∀ a w, RD B s a w → wpAnyE P .any ops (fun a w => ∃ s, Q .normal s ∧ RD B s a w) (fun j => EwD B (V j)) n L a w
def OpED (P : Program) (B : Bs) (W : Nat → Prop) (s : St') (o : Oper) (K : St' → Prop) : Prop :=
 ∀ a w, RD B s a w → ∀ (next : Act → World → Prop) (Qx : Exit → Act → World → Prop), (∀ s' a' w', K s' → RD B s' a' w' → EwD B W w w' → next a' w') → o.wp P a w next Qx
section
variable {P : Program} {B : Bs} {W : Nat → Prop} {V : Nat → Nat → Prop} {ops : Array Oper} {rest : List Oper} {s : St'} {o : Oper} {K : St' → Prop} {Q : Exit → St' → Prop} {n : Nat} {L : Array Bool}
theorem VCD.seq {x y : Code} (h : VCD P B x (thenQ (VCD P B y Q) Q) s) : VCD P B (.seq x y) Q s := fun a w hr =>
 wp_seq (Code.wp_mono (fun e a w ⟨s, h1, h2⟩ => by
  cases e with
  | normal => exact h1 a w h2
  | exit id => exact ⟨s, h1, h2⟩
  | goto l => exact ⟨s, h1, h2⟩
  | ret => exact ⟨s, h1, h2⟩
  | panic c => exact ⟨s, h1, h2⟩
  | outgrown => exact ⟨s, h1, h2⟩) (h a w hr))
theorem VCD.ret (h : Q .ret s) : VCD P B .ret Q s := fun a w hr => wp_ret ⟨s, h, hr⟩
theorem VCD.region {id : Nat} {l : List Oper} (h : VOD P B l.toArray l Q s) : VCD P B (.region id l.toArray false) Q s := fun a w hr => wp_region_lit (h a w hr)
theorem VOD.nil (h : Q .normal s) : VOD P B ops [] Q s := fun a w hr => ⟨s, h, hr⟩
theorem VOD.val {x : AV} (hg : o.guard = none) (hd : okd B.nt o.dst = true) (hv : OpV P B NoB s o x) (hK : VOD P B ops rest Q (s.put o.dst x)) : VOD P B ops (o :: rest) Q s := fun a w hr =>
 wpList_plain hg fun K hk => by
  obtain ⟨v, h1, h2⟩ := hv a w hr.1
  unfold Oper.wp
  rw [h1 w (Chg.refl _ _)]
  exact hk _ _ (hK _ _ ⟨hr.1.put _ hd _ _ h2, hr.2⟩)
theorem VCD.draw (V : Nat → Nat → Prop) {id : Nat} {l : List Oper} (hB : B.Ok) (hm : P.follows .mixedOrders = true) (h : VAD P B V l.toArray Q l.length (Array.replicate l.length false) s) : VCD P B (.region id l.toArray true) Q s := fun a w hr => by
 have hr' : RD B s a w.drew := ⟨hr.1.stepN hB (Chg.refl NoB w).drew, Nat.le_trans hr.2 (Nat.le_succ _)⟩
 have h1 := wpAny_of_E _ _ _ _ (h a _ hr')
 refine Code.wp_mono (Q := onlyN fun a w => ∃ s, Q .normal s ∧ RD B s a w) (fun e a w q => ?_) (wp_region_any hm (by simpa using h1))
 cases e with
 | normal => exact q
 | _ => exact q.elim
theorem VAD.done (hr : Region.ready .any ops L = []) (h : Q .normal s) : VAD P B V ops Q n L s := fun a w hR => by
 cases n with
 | zero => exact ⟨hr, s, h, hR⟩
 | succ n => exact ⟨fun _ => ⟨s, h, hR⟩, by rw [hr]; simp⟩
theorem VAD.take {i : Nat} {x : AV} (hi : ops[i]? = some o) (hs : Region.noSelect ops = true) (hf : Region.free .any ops L i = true) (hr : (Region.ready .any ops L).contains i = true) (hg : o.guard = none) (hd : okd B.nt o.dst = true)
  (hv : OpV P B (Wi V ops i) s o x) (h : VAD P B V ops Q n (L.setIfInBounds i true) (s.put o.dst x)) : VAD P B V ops Q (n + 1) L s := fun a w hR => by
 obtain ⟨v, h1, h2⟩ := hv a w hR.1
 exact wpAnyE_first (F := EwD B (Wi V ops i)) (fun x y z h k => ⟨Ew.tr x y z h.1 k.1, Nat.le_trans h.2 k.2⟩) (fun x => ⟨Ew.rf x, Nat.le_refl _⟩) (fun x => ⟨Ew.rf x, Nat.le_refl _⟩) (fun j oj hj hno w w' h => ⟨Wi.of j oj hj hno w w' h.1, h.2⟩) hi (Region.noSelect_spec hs) n L a w (Region.free_spec hi hf) (by simpa using hr)
  (.inl ⟨by simp [Region.wanted, hg], fun w' hw => h1 w' hw.1⟩) (h _ _ ⟨hR.1.put _ hd _ _ h2, hR.2⟩)
theorem VAD.one {i : Nat} (hr : Region.ready .any ops L = [i]) (ho : ops[i]? = some o) (hg : o.guard = none) (h : OpED P B (V i) s o (VAD P B V ops Q n (L.setIfInBounds i true))) : VAD P B V ops Q (n + 1) L s := fun a w hR => by
 refine ⟨fun h0 => (by rw [hr] at h0; cases h0), fun j hj => ?_⟩
 rw [hr] at hj
 obtain rfl : j = i := by simpa using hj
 unfold wpOp
 simp only [ho]
 rw [if_pos (by simp [Region.wanted, hg])]
 exact .inl (h a w hR _ _ fun s' a' w' k1 k2 k3 => ⟨k3, k1 a' w' k2⟩)
theorem VAD.le (s' : St') (h : Le B s s') (k : VAD P B V ops Q n L s') : VAD P B V ops Q n L s := fun a w hr => k a w ⟨h a w hr.1, hr.2⟩
theorem OpED.call {f : FuncId} {args : Array Operand} {ts : Array TypeId} {xs : List AV} {v : Value} (ho : o.op = .call { callee := .value (.func f), args := args, argTypes := ts }) (hd : okd B.nt o.dst = true)
  (hcall : ∀ us w, (callFunc f us).run P w = .ok (.enter f us) w) (hxs : evL s args.toList = some xs) (hspec : ∀ w A us, Args w A xs us → Calls P f us w fun e w' => e = .returned v ∧ w' = w) (hK : K (s.put o.dst (.v v))) : OpED P B W s o K := by
 intro a w hr next Qx hn
 have h1 := hspec w _ _ (evL_args hr.1 hxs)
 unfold Oper.wp
 simp only [execOp, ho, resolve, Act.eval, Deferred.ofValue, Sem.run_bind, Sem.run_pure, Result.andThen_ok, invoke, hcall, Array.empty_append, Array.append_empty]
 simp only [Oper.upon]
 refine h1.mono fun e w' hret => ?_
 obtain ⟨rfl, rfl⟩ := hret
 exact hn _ _ _ hK ⟨hr.1.put _ hd _ _ (.v _), hr.2⟩ ⟨Ew.rf _, Nat.le_refl _⟩
theorem OpED.buildSlice {t e : TypeId} {n sz : Nat} {zc : Array Value} {parts : Array (Nat × Operand)} {ps : List (Nat × AV)} {r : List AV} (ho : o.op = .buildSlice t n parts) (hB : B.Ok) (hd : okd B.nt o.dst = true) (hu : P.underlying t = some (.slice e))
  (hsz : ∀ w, (sizeOf e).run P w = .ok sz w) {z : Value} (hz : ∀ w, (zeroValue e).run P w = .ok z w) (hn : n * sz ≤ 65536) (h0 : n ≠ 0 ∧ sz ≠ 0) (hzc : (Array.range (n * sz)).map (fun j => z.cells[j % z.cells.size]!) = zc)
  (hps : evPs s parts.toList = some ps) (hf : fillA (fun i => some (i * sz, sz)) (zc.toList.map .v) ps = some r)
  (hK : K (s.put o.dst (.im n sz fun j => r.getD j .any))) : OpED P B W s o K := by
 intro a w hr0 next Qx hn'
 have hr := hr0.1
 have hrun : ∃ v c, (execOp a.eval o).run P w = .ok (.value v) (w.alloc c) := by
  obtain ⟨k1, k2⟩ := hr.evPs hps
  have hz0 : Reps w (Zn B s.hp w) (zc.toList.map .v) zc := (Rep.cells (.v (.agg zc)) rfl : Reps w _ (cellsOf (.v (.agg zc))) (Value.agg zc).cells)
  obtain ⟨c', h1, h2⟩ := fill_rep (Z := Zn B s.hp w) (w := w) (c := zc) hz0 hf (qs := parts.toList.map fun (i, x) => (i, a.eval x)) (by simp [k1]) k2
  have hne : ¬ (n * sz = 0) := Nat.mul_ne_zero h0.1 h0.2
  have hzc' : (Array.map (fun x => z.cells[x % z.cells.size]!) (Array.range (n * sz))) = zc := hzc
  have h24 : ¬ (n * sz > 2 ^ 24) := by omega
  have h1' : Instr.fill (fun i => some (i * sz, sz)) zc (Array.map (fun p => (p.1, a.eval p.2)) parts).toList = some c' := by simpa using h1
  have h1'' : Instr.fill (fun i => some (i * sz, sz)) zc (Array.map (fun x => (x.fst, a.eval x.snd)) parts).toList = some c' := h1'
  refine ⟨.slice (some ⟨w.heap.size, 0, none⟩) n n, .cells c' e, ?_⟩
  simp only [execOp, ho, Instr.buildSlice, newRow, Sem.run_bind, run_underlying hu, hsz, hz, run_newObj_alloc, Result.andThen_ok, Sem.run_pure, hne, h24, if_false]
  rw [hzc', h1'']
  simp only [Sem.run_bind, run_newObj_alloc, Result.andThen_ok, Sem.run_pure]
 obtain ⟨v, c, hrun⟩ := hrun
 have h := OpE.buildSlice (W := W) ho hB hd hu hsz hz hn h0 hzc hps hf hK a w hr (fun a' w' => w.drawn ≤ w'.drawn → next a' w') Qx (fun s' a' w' h1 h2 h3 h4 => hn' s' a' w' h1 ⟨h2, Nat.le_trans hr0.2 h4⟩ ⟨h3, h4⟩)
 unfold Oper.wp at h ⊢
 rw [hrun] at h ⊢
 exact h (Nat.le_refl _)
end
theorem calls_of_VCD {P : Program} {F : FuncId} {fn : Func} {c : Code} (hf : P.funcs[F]? = some fn) (hb : fn.body = some c) {xs : List AV} {v : Value} {nt : Nat} (hn : fn.ntmps = nt) (hle : xs.length ≤ nt)
  (h : ∀ w A, (B0 w A nt).Ok → VCD P (B0 w A nt) c (retQ P fn fun y => y = .v v) ⟨slots0 0 xs, [], 0⟩) (w : World) (A : Nat → Prop) (us : Array Value) (hA : Args w A xs us) :
  Calls P F us w fun e w' => e = .returned v ∧ Chg NoB w w' ∧ w.drawn ≤ w'.drawn := by
 have hus : us.size ≤ fn.ntmps := by rw [hA.1, hn]; exact hle
 refine calls_of_wp hf hb (Code.wp_mono (fun e a w' hq => ?_) (h w A (B0.ok _ _ _) _ w ⟨(by
  have := R.start (B := B0 w A nt) (k := 0) rfl hA (fun _ h => h.elim) trivial (show (B0 w A nt).nt = us.size + (nt - us.size) by show nt = _; omega)
  rw [← hn] at this ⊢
  exact this), Nat.le_refl _⟩))
 obtain ⟨s, hq, hr, hdr⟩ := hq
 have key : ∀ y, RetV P fn s y → y = .v v → ∃ u, (results fn a.tmps).run P w' = .ok u w' ∧ Ending.returned u = .returned v := fun y h1 h2 => by
  obtain ⟨u, h3, h4⟩ := h1 _ a w' hr
  subst h2
  exact ⟨u, h3, by rw [h4.eq_v]⟩
 cases e with
 | normal =>
  obtain ⟨y, h1, h2⟩ := hq
  obtain ⟨u, h3, h4⟩ := key y h1 h2
  exact ⟨hr.defs, u, h3, h4, hr.chg, hdr⟩
 | ret =>
  obtain ⟨y, h1, h2⟩ := hq
  obtain ⟨u, h3, h4⟩ := key y h1 h2
  exact ⟨hr.defs, u, h3, h4, hr.chg, hdr⟩
 | exit id => exact hq.elim
 | goto l => exact hq.elim
 | panic c => exact hq.elim
 | outgrown => exact hq.elim
theorem grow_of {w w' : World} (h : Chg NoB w w') (hd : w.drawn ≤ w'.drawn) : ∃ q os', w' = grow (w.drewN q) os' := by
 refine ⟨w'.drawn - w.drawn, w'.heap.extract w.heap.size w'.heap.size, ?_⟩
 obtain ⟨h1, h2, h3, h4, h5⟩ := h
 cases w with
 | mk heap tape drawn os output =>
  cases w' with
  | mk heap' tape' drawn' os' output' =>
   simp only at h1 h2 h3 h4 h5 hd
   subst h1 h2 h3
   simp only [grow, World.drewN, World.mk.injEq, and_true, true_and]
   refine ⟨?_, by omega⟩
   apply Array.ext (by simp; omega)
   intro i hi1 hi2
   by_cases hi : i < heap.size
   ·have := h5 i hi (fun h => h)
    rw [Array.getElem_append_left hi]
    rw [Array.getElem?_eq_getElem hi1, Array.getElem?_eq_getElem hi] at this
    exact Option.some.inj this
   ·rw [Array.getElem_append_right (by omega), Array.getElem_extract]
    congr 1; omega
end Go.Proofs.YtcploodfholkkaaGreatDoor
namespace Go.Proofs
open Go.Shelf
def Tryz.SortPlL_ren : Go.Shelf.Ren := ⟨fun | 6 => 151 | 15 => 176 | 14 => 222 | 28 => 248 | 29 => 249 | 20 => 297 | 21 => 298 | 22 => 299 | 23 => 300 | 24 => 301 | 25 => 302 | 26 => 303 | 27 => 304 | 46 => 359 | 47 => 317 | 48 => 318 | 49 => 360 | 50 => 361 | 57 => 386 | n => n, fun | 22 => 53 | 24 => 58 | 25 => 261 | 3 => 3 | 39 => 282 | 0 => 0 | 53 => 340 | 55 => 342 | 4 => 4 | 46 => 334 | 45 => 333 | 50 => 212 | 5 => 5 | 9 => 9 | 66 => 388 | 70 => 392 | 76 => 427 | 77 => 148 | n => n, fun | n => n⟩
theorem Tryz.SortPlL : Go.Proofs.SlLaysF0.n6 Tryz.prog Tryz.SortPlL_ren := {
 mixed := by kernel_rfl
 f6 := ⟨Tryz.f151.name, by decide, Tryz.func151.trans (congrArg some (by kernel_rfl))⟩
 f14 := ⟨Tryz.f222.name, by decide, Tryz.func222.trans (congrArg some (by kernel_rfl))⟩
 f15 := Tryz.func176.trans (congrArg some (by kernel_rfl))
 f20 := ⟨Tryz.f297.name, by decide, Tryz.func297.trans (congrArg some (by kernel_rfl))⟩
 f21 := ⟨Tryz.f298.name, by decide, Tryz.func298.trans (congrArg some (by kernel_rfl))⟩
 f22 := ⟨Tryz.f299.name, by decide, Tryz.func299.trans (congrArg some (by kernel_rfl))⟩
 f23 := ⟨Tryz.f300.name, by decide, Tryz.func300.trans (congrArg some (by kernel_rfl))⟩
 f24 := ⟨Tryz.f301.name, by decide, Tryz.func301.trans (congrArg some (by kernel_rfl))⟩
 f25 := ⟨Tryz.f302.name, by decide, Tryz.func302.trans (congrArg some (by kernel_rfl))⟩
 f26 := ⟨Tryz.f303.name, by decide, Tryz.func303.trans (congrArg some (by kernel_rfl))⟩
 f27 := ⟨Tryz.f304.name, by decide, Tryz.func304.trans (congrArg some (by kernel_rfl))⟩
 f28 := Tryz.func248.trans (congrArg some (by kernel_rfl))
 f29 := Tryz.func249.trans (congrArg some (by kernel_rfl))
 f46 := ⟨Tryz.f359.name, by decide, Tryz.func359.trans (congrArg some (by kernel_rfl))⟩
 f47 := Tryz.func317.trans (congrArg some (by kernel_rfl))
 f48 := Tryz.func318.trans (congrArg some (by kernel_rfl))
 f49 := ⟨Tryz.f360.name, by decide, Tryz.func360.trans (congrArg some (by kernel_rfl))⟩
 f50 := ⟨Tryz.f361.name, by decide, Tryz.func361.trans (congrArg some (by kernel_rfl))⟩
 f57 := ⟨Tryz.f386.name, by decide, Tryz.func386.trans (congrArg some (by kernel_rfl))⟩
 t0 := Tryz.underlying0
 a0 := Tryz.isAgg0
 z0 := Tryz.sizeOf0
 v0 := Tryz.zeroValue0
 t3 := Tryz.underlying3
 a3 := Tryz.isAgg3
 z3 := Tryz.sizeOf3
 v3 := Tryz.zeroValue3
 t4 := Tryz.underlying4
 a4 := Tryz.isAgg4
 z4 := Tryz.sizeOf4
 v4 := Tryz.zeroValue4
 t5 := Tryz.underlying5
 a5 := Tryz.isAgg5
 z5 := Tryz.sizeOf5
 v5 := Tryz.zeroValue5
 t9 := Tryz.underlying9
 a9 := Tryz.isAgg9
 z9 := Tryz.sizeOf9
 v9 := Tryz.zeroValue9
 t22 := Tryz.underlying53
 a22 := Tryz.isAgg53
 z22 := Tryz.sizeOf53
 v22 := Tryz.zeroValue53
 t25 := Tryz.underlying261
 a25 := Tryz.isAgg261
 z25 := Tryz.sizeOf261
 v25 := Tryz.zeroValue261
 t39 := Tryz.underlying282
 a39 := Tryz.isAgg282
 z39 := Tryz.sizeOf282
 v39 := Tryz.zeroValue282
 t45 := Tryz.underlying333
 a45 := Tryz.isAgg333
 z45 := Tryz.sizeOf333
 v45 := Tryz.zeroValue333
 t46 := Tryz.underlying334
 a46 := Tryz.isAgg334
 z46 := Tryz.sizeOf334
 v46 := Tryz.zeroValue334
 t50 := Tryz.underlying212
 a50 := Tryz.isAgg212
 z50 := Tryz.sizeOf212
 v50 := Tryz.zeroValue212
 t53 := Tryz.underlying340
 a53 := Tryz.isAgg340
 z53 := Tryz.sizeOf340
 v53 := Tryz.zeroValue340
 t55 := Tryz.underlying342
 a55 := Tryz.isAgg342
 z55 := Tryz.sizeOf342
 v55 := Tryz.zeroValue342
 t66 := Tryz.underlying388
 a66 := Tryz.isAgg388
 z66 := Tryz.sizeOf388
 v66 := Tryz.zeroValue388
 t70 := Tryz.underlying392
 a70 := Tryz.isAgg392
 z70 := Tryz.sizeOf392
 v70 := Tryz.zeroValue392
 t76 := Tryz.underlying427
 a76 := Tryz.isAgg427
 z76 := Tryz.sizeOf427
 v76 := Tryz.zeroValue427
 t77 := Tryz.underlying148
 a77 := Tryz.isAgg148
 z77 := Tryz.sizeOf148
 v77 := Tryz.zeroValue148 }
end Go.Proofs
namespace Go.Proofs.YtcploodfholkkaaGreatDoor
set_option maxRecDepth 100000
section
open Go.RowKit Go.Sort Go.Shelf
def cPr (x y : PairS) : Int := errsF [cmpB x.name y.name, cmpB x.value y.value]
theorem cPr_ne {x y : PairS} (h : cmpB x.name y.name ≠ 0) : cPr x y = cmpB x.name y.name := errsF_at (q := 0) (by simp) (fun j hj => absurd hj (by omega)) h
theorem cPr_eq {x y : PairS} (h : cmpB x.name y.name = 0) : cPr x y = cmpB x.value y.value := by
  unfold cPr
  by_cases h2 : cmpB x.value y.value = 0
  · rw [h2]
    exact errsF_none fun j hj => by
      match j, hj with
      | 0, _ => exact h
      | 1, _ => rfl
  · exact errsF_at (q := 1) (by simp) (fun j hj => by obtain rfl : j = 0 := by omega
                                                      exact h) h2
theorem cmpB_neg {a b : ByteArray} : cmpB a b < 0 ↔ sLt a b = true := by rw [← cmpB_lt, decide_eq_true_eq]
theorem cPr_lt (x y : PairS) : cPr x y < 0 ↔ (sLt x.name y.name = true ∨ (x.name = y.name ∧ sLt x.value y.value = true)) := by
 by_cases h : cmpB x.name y.name = 0
 ·rw [cPr_eq h, cmpB_neg]
  have e := cmpB_eq.1 h
  constructor
  ·intro k; exact .inr ⟨e, k⟩
  ·rintro (k | k)
   ·rw [e, sLt_irr] at k; cases k
   ·exact k.2
 ·rw [cPr_ne h, cmpB_neg]
  constructor
  ·intro k; exact .inl k
  ·rintro (k | k)
   ·exact k
   ·exact absurd (cmpB_eq.2 k.1) h
theorem ltPr_iff {x y : PairS} : ltOf cPr x y = true ↔ (sLt x.name y.name = true ∨ (x.name = y.name ∧ sLt x.value y.value = true)) := by
 unfold ltOf; rw [decide_eq_true_eq]; exact cPr_lt x y
theorem totPr (x y : PairS) (h1 : ltOf cPr x y = false) (h2 : ltOf cPr y x = false) : x = y := by
 have k1 : ¬ _ := fun e => Bool.eq_false_iff.1 h1 (ltPr_iff.2 e)
 have k2 : ¬ _ := fun e => Bool.eq_false_iff.1 h2 (ltPr_iff.2 e)
 have e1 : x.name = y.name := Classical.byContradiction fun hne => by
  cases hs : sLt x.name y.name with
  | true => exact k1 (.inl hs)
  | false => exact k2 (.inl (sLt_total hs hne))
 have e2 : x.value = y.value := Classical.byContradiction fun hne => by
  cases hs : sLt x.value y.value with
  | true => exact k1 (.inr ⟨e1, hs⟩)
  | false => exact k2 (.inr ⟨e1.symm, sLt_total hs hne⟩)
 cases x; cases y
 simp only at e1 e2
 subst e1; subst e2; rfl
theorem swoPr : SWO (ltOf cPr) where
 irrefl x := by
  rw [Bool.eq_false_iff]
  intro h
  rcases ltPr_iff.1 h with h | ⟨_, h⟩ <;> (rw [sLt_irr] at h; cases h)
 trans x y z h1 h2 := by
  rw [ltPr_iff] at *
  rcases h1 with h1 | ⟨e1, h1⟩ <;> rcases h2 with h2 | ⟨e2, h2⟩
  ·exact .inl (sLt_trans h1 h2)
  ·exact .inl (by rw [← e2]; exact h1)
  ·exact .inl (by rw [e1]; exact h2)
  ·exact .inr ⟨e1.trans e2, sLt_trans h1 h2⟩
 ntrans x y z h1 h2 := by
  have tr : ∀ {a b c : PairS}, ltOf cPr a b = true → ltOf cPr b c = true → ltOf cPr a c = true := fun {a b c} h1 h2 => by
   rw [ltPr_iff] at *
   rcases h1 with h1 | ⟨e1, h1⟩ <;> rcases h2 with h2 | ⟨e2, h2⟩
   ·exact .inl (sLt_trans h1 h2)
   ·exact .inl (by rw [← e2]; exact h1)
   ·exact .inl (by rw [e1]; exact h2)
   ·exact .inr ⟨e1.trans e2, sLt_trans h1 h2⟩
  by_cases e1 : x = y
  ·subst e1; exact h2
  by_cases e2 : y = z
  ·subst e2; exact h1
  have k1 : ltOf cPr y x = true := by
   cases h : ltOf cPr y x with
   | true => rfl
   | false => exact absurd (totPr x y h1 h) e1
  have k2 : ltOf cPr z y = true := by
   cases h : ltOf cPr z y with
   | true => rfl
   | false => exact absurd (totPr y z h2 h) e2
  rw [Bool.eq_false_iff]
  intro h
  have h3 := tr h (tr k2 k1)
  rcases ltPr_iff.1 h3 with h3 | ⟨_, h3⟩ <;> (rw [sLt_irr] at h3; cases h3)
def sortPr (l : List PairS) : List PairS := l.mergeSort fun x y => !(ltOf cPr) y x
theorem sortPr_len (l : List PairS) : (sortPr l).length = l.length := List.length_mergeSort _
def encPr (x : PairS) : List Value := [.string x.name, .string x.value]
theorem cellPr (x : PairS) : ∀ r, r < 2 → Sxc.cell x r = .v ((encPr x)[r]!)
 | 0, _ => rfl
 | 1, _ => rfl
theorem putRow_atP {w : World} {n g : Nat} {d : Array PairS} {os : Array Obj} {c : Array Value} {ty : TypeId} (hg : w.heap[g]? = some (.cells c ty (0, 0))) : (sortWorldK encPr 2 w g 0 n d os).heap[g]? = some (.cells (putCells id 0 (flatK encPr 2 d) c) ty (0, 0)) := by
 have hl := (Array.getElem?_eq_some_iff.1 hg).1
 simp only [sortWorldK, grow, putRowK, putRow, mapBlock, Sort.ahead]
 rw [Array.getElem?_append_left (by simpa using hl), Array.getElem?_modify, if_pos rfl, hg]
 rfl
theorem putRow_chgP {w : World} {n g : Nat} {d : Array PairS} {os : Array Obj} : Chg (fun b => b = g) w (sortWorldK encPr 2 w g 0 n d os) :=
 ⟨rfl, rfl, rfl, by simp [sortWorldK, grow, putRowK, putRow, mapBlock, Sort.ahead], fun b hb hne => by
  simp only [sortWorldK, grow, putRowK, putRow, mapBlock, Sort.ahead]
  rw [Array.getElem?_append_left (by simpa using hb), Array.getElem?_modify, if_neg (fun e => hne e.symm)]⟩
theorem putCells_getP {d : Array Value} {c : Array Value} {j : Nat} (h1 : j < d.size) (h2 : d.size ≤ c.size) : (putCells id 0 d c)[j]? = some d[j]! := by
 simp only [putCells, Array.getElem?_mapIdx]
 rw [Array.getElem?_eq_getElem (by omega)]
 simp [h1]
theorem getPr {l : List PairS} {i : Nat} (h : i < l.length) : (l.toArray)[i]! = l.getD i default := by
 simp [h]
abbrev avPr (x : PairS) : AV := .agg [avS x.name, avS x.value]
theorem repPr {w : World} {Z : Nat → Prop} (x : PairS) : Rep w Z (avPr x) (.agg (encPr x).toArray) := .agg _ _ rfl fun q hq => by
 match q, hq with
 | 0, _ => exact .v _
 | 1, _ => exact .v _
theorem args2P {w : World} {A : Nat → Prop} (x y : PairS) : Args w A [avPr x, avPr y] #[.agg (encPr x).toArray, .agg (encPr y).toArray] := ⟨rfl, fun j hj => by
 match j, hj with
 | 0, _ => exact repPr x
 | 1, _ => exact repPr y⟩
theorem sortFunc_pr {l : List PairS} {u : Value} {ty : TypeId} {F : FuncId} (hl : l.length ≤ 1000000) (hen : ∀ args w, (callFunc F args).run Tryz.prog w = .ok (.enter F args) w)
  (hF : ∀ (x y : PairS) (w : World) (A : Nat → Prop) (us : Array Value), Args w A [avPr x, avPr y] us → Calls Tryz.prog F us w fun e w' => e = .returned (.int .i64 (cPr x y)) ∧ Chg NoB w w' ∧ w.drawn ≤ w'.drawn) :
  SpecH Tryz.prog 151 [.v u, .v (.func (.func F) #[] #[])] [.row u l.length 2 (rowL l) ty]
   (fun y hp' => y = .tup [] ∧ hp' = [.row u l.length 2 (rowL (sortPr l)) ty]) := fun w A us ha hap hA hE => by
 obtain ⟨a1, a2⟩ := ha
 have e0 : us.getD 0 undef = u := (show Rep w _ (.v u) _ from a2 0 (by simp)).eq_v
 have e1 : us.getD 1 undef = .func (.func F) #[] #[] := (show Rep w _ (.v (.func (.func F) #[] #[])) _ from a2 1 (by simp)).eq_v
 have hus : us = #[u, .func (.func F) #[] #[]] := by
  apply Array.ext (by simpa using a1)
  intro i h1 h2
  have hi : i < 2 := by simpa using h2
  match i, hi with
  | 0, _ => rw [Array.getD_eq_getD_getElem?, Array.getElem?_eq_getElem h1] at e0; simpa using e0
  | 1, _ => rw [Array.getD_eq_getD_getElem?, Array.getElem?_eq_getElem h1] at e1; simpa using e1
 subst hus
 obtain ⟨r1, r2⟩ := hE _ (List.mem_cons_self ..)
 have hsl := sortPr_len l
 rcases r2 with ⟨rfl, hz⟩ | ⟨g, cap, c, rfl, hn1, hm, hg, hs, hc⟩
 ·have hl0 : l = [] := List.eq_nil_of_length_eq_zero hz
  subst hl0
  refine (AnyF.slices_SortFunc_none Tryz.SortPlL none 0 (.func (.func F) #[] #[]) w).mono fun e w' ⟨h1, h2⟩ => ?_
  subst h1; subst h2
  refine ⟨_, .tuple #[], _, ⟨rfl, rfl⟩, rfl, List.pairwise_singleton _ _, .tup _ _ rfl (fun j hj => by simp at hj), fun e he => ?_, fun b ⟨e, he, hb⟩ _ => ?_, Chg.refl _ _⟩
  ·obtain rfl := List.mem_singleton.1 he
   exact ⟨by simp [sortPr, rowL], .inl ⟨rfl, rfl⟩⟩
  ·obtain rfl := List.mem_singleton.1 he
   exact ⟨_, List.mem_cons_self .., hb⟩
 ·have hgl := (Array.getElem?_eq_some_iff.1 hg).1
  have hk2 : Sxc.k PairS = 2 := rfl
  have hcell : ∀ j, j < l.length * 2 → c[j]? = some ((encPr (l.getD (j / 2) default))[j % 2]!) := fun j hj => by
   have hlen : j < (rowL l).length := by rw [rowL_len]; exact hj
   obtain ⟨v, k1, k2⟩ := hc j hlen
   have e := rowL_get' l (i := j) hj
   rw [List.getElem?_eq_getElem hlen] at e
   have e3 : (rowL l)[j] = .v ((encPr (l.getD (j / 2) default))[j % 2]!) := (Option.some.inj e).trans (cellPr _ _ (Nat.mod_lt _ (by decide)))
   rw [e3] at k2
   rw [k1, k2.eq_v]
  have hH : HoldsK encPr 2 w g 0 l.toArray := fun j hj => by
   rw [size_flatK] at hj
   have hj' : j < l.length * 2 := by simpa using hj
   constructor
   ·simp only [World.cell?, hg, Nat.zero_add]
    rw [hcell j hj', get_flatK _ _ _ _ hj, getPr (by omega)]; rfl
   ·simp [World.frozen?, hg]
  have hAg : ¬ A g := hA g ⟨_, List.mem_cons_self .., rfl⟩
  have hcmp : CmpLays Tryz.prog F #[] encPr 2 cPr g 0 l.toArray.size w := fun m os dk hdk x y => by
   have hch := putRow_chgP (w := w) (n := m) (g := g) (d := dk) (os := os)
   rw [Array.append_empty]
   refine (hF x y (sortWorldK encPr 2 w g 0 m dk os) A #[.agg (encPr x).toArray, .agg (encPr y).toArray] (args2P x y)).mono fun e w' ⟨h1, h2, h3⟩ => ⟨h1, grow_of h2 h3⟩
  have hS := AnyQ.slices_SortFunc_total Tryz.SortPlL 2 Tryz.isAgg58 Tryz.sizeOf58 encPr (fun x => rfl) (fun x v hv => by simp [encPr] at hv; rcases hv with rfl | rfl <;> rfl) cPr swoPr F #[] g 0 cap l.toArray w hen hcmp hH hgl (by simp; omega) totPr
  have hsz : l.toArray.size = l.length := by simp
  change Calls Tryz.prog 151 _ w _ at hS
  rw [hsz] at hS
  refine hS.mono fun e w' ⟨he, n, os, hw⟩ => ?_
  have hto : (l.toArray.toList.mergeSort fun x y => !(ltOf cPr) y x).toArray = (sortPr l).toArray := rfl
  rw [hto] at hw
  subst he; subst hw
  have hch := putRow_chgP (w := w) (n := n) (g := g) (d := (sortPr l).toArray) (os := os)
  refine ⟨_, .tuple #[], _, ⟨rfl, rfl⟩, rfl, List.pairwise_singleton _ _, .tup _ _ rfl (fun j hj => by simp at hj), fun e he => ?_, fun b ⟨e, he, hb⟩ _ => ?_, hch.mono fun b _ hb => ⟨_, List.mem_cons_self .., by subst hb; rfl⟩⟩
  ·obtain rfl := List.mem_singleton.1 he
   refine ⟨by rw [rowL_len, hsl, hk2], .inr ⟨g, cap, _, rfl, hn1, hm, putRow_atP hg, by simp [putCells, hs], fun j hj => ?_⟩⟩
   have hj' : j < (sortPr l).length * 2 := by rw [rowL_len] at hj; exact hj
   have hsz2 : (sortPr l).toArray.size = (sortPr l).length := by simp
   refine ⟨_, putCells_getP (by rw [size_flatK, hsz2]; exact hj') (by rw [size_flatK, hsz2, hs, hsl]; omega), ?_⟩
   have e := rowL_get' (sortPr l) (i := j) hj'
   rw [List.getElem?_eq_getElem hj] at e
   have e3 : (rowL (sortPr l))[j] = .v ((encPr ((sortPr l).getD (j / 2) default))[j % 2]!) := (Option.some.inj e).trans (cellPr _ _ (Nat.mod_lt _ (by decide)))
   rw [e3, get_flatK _ _ _ _ (by rw [hsz2]; exact hj'), getPr (by omega)]
   exact .v _
  ·obtain rfl := List.mem_singleton.1 he
   exact ⟨_, List.mem_cons_self .., hb⟩
end
section
def isEs (x : LookS) : Bool := x.bad && decide (x.verdict = 1)
def esOf (x : LookS) : PairS := ⟨x.board, x.name⟩
def escL (l : List LookS) : List PairS := (l.filter isEs).map esOf
theorem escL_len (l : List LookS) : (escL l).length ≤ l.length := by unfold escL; rw [List.length_map]; exact List.length_filter_le _ _
theorem escL_yes {l : List LookS} {q : Nat} (h : q < l.length) (hb : isEs (l.getD q default) = true) : escL (l.take (q + 1)) = escL (l.take q) ++ [esOf (l.getD q default)] := by
 have : l.take (q + 1) = l.take q ++ [l.getD q default] := by
  rw [List.take_succ_eq_append_getElem h]; simp [List.getD_eq_getElem?_getD, h]
 rw [this]; unfold escL
 rw [List.filter_append, List.filter_cons, if_pos hb, List.map_append]; rfl
theorem escL_no {l : List LookS} {q : Nat} (h : q < l.length) (hb : isEs (l.getD q default) = false) : escL (l.take (q + 1)) = escL (l.take q) := by
 have : l.take (q + 1) = l.take q ++ [l.getD q default] := by
  rw [List.take_succ_eq_append_getElem h]; simp [List.getD_eq_getElem?_getD, h]
 rw [this]; unfold escL
 rw [List.filter_append, List.filter_cons, if_neg (by rw [hb]; simp), List.map_append]; simp
def escS (l : List LookS) : List PairS := sortPr (escL l)
end
section
def splitL (c : UInt8) : List UInt8 → List (List UInt8)
 | [] => [[]]
 | b :: l => if b = c then [] :: splitL c l else match splitL c l with
  | [] => [[b]]
  | h :: t => (b :: h) :: t
theorem splitL_ne (c : UInt8) : ∀ l, splitL c l ≠ []
 | [] => by simp [splitL]
 | b :: l => by
  unfold splitL
  split
  ·simp
  ·split <;> simp
theorem splitL_len (c : UInt8) : ∀ l, (splitL c l).length = Lib.countByte l c + 1
 | [] => by simp [splitL, Lib.countByte]
 | b :: l => by
  have ih := splitL_len c l
  unfold Lib.countByte at *
  rw [splitL]
  split
  ·rename_i h; subst h; rw [List.length_cons, ih]; simp
  ·rename_i h
   rw [List.count_cons_of_ne (by simpa using h)]
   have hne := splitL_ne c l
   split
   ·rename_i e; exact absurd e hne
   ·rename_i h' t e; rw [e] at ih; simpa using ih
theorem index_none {c : UInt8} : ∀ {l : List UInt8}, Lib.indexByte l c < 0 → splitL c l = [l]
 | [], _ => rfl
 | b :: l, h => by
  unfold Lib.indexByte at h
  by_cases hb : b = c
  ·subst hb; simp at h
  ·have hb' : (b == c) = false := by simpa using hb
   rw [hb'] at h
   have hge := Lib.indexByte_ge l c
   have h1 : Lib.indexByte l c < 0 := by
    by_cases e : Lib.indexByte l c = -1
    ·omega
    ·have : (Lib.indexByte l c == -1) = false := by simpa using e
     rw [this] at h
     simp at h
     omega
   rw [splitL, if_neg hb, index_none h1]
theorem index_some {c : UInt8} : ∀ {l : List UInt8} {m : Nat}, Lib.indexByte l c = m → m < l.length ∧ splitL c l = l.take m :: splitL c (l.drop (m + 1))
 | [], m, h => by simp [Lib.indexByte] at h
 | b :: l, m, h => by
  unfold Lib.indexByte at h
  by_cases hb : b = c
  ·subst hb
   simp at h
   obtain rfl : m = 0 := by omega
   exact ⟨by simp, by simp [splitL]⟩
  ·have hb' : (b == c) = false := by simpa using hb
   rw [hb'] at h
   have hge := Lib.indexByte_ge l c
   by_cases e : Lib.indexByte l c = -1
   ·have e2 : (Lib.indexByte l c == -1) = true := by simpa using e
    rw [e2] at h
    simp at h
   ·have e2 : (Lib.indexByte l c == -1) = false := by simpa using e
    rw [e2] at h
    simp only [Bool.false_eq_true, if_false] at h
    obtain ⟨k, rfl⟩ : ∃ k, m = k + 1 := ⟨m - 1, by omega⟩
    obtain ⟨h1, h2⟩ := index_some (c := c) (l := l) (m := k) (by omega)
    refine ⟨by simp; omega, ?_⟩
    rw [splitL, if_neg hb, h2]
    simp
abbrev byL (p : ByteArray) : List UInt8 := p.data.toList
theorem byL_len (p : ByteArray) : (byL p).length = p.size := lenB p
theorem bytesOf_byL (p : ByteArray) : bytesOf (byL p) = p := by simp [bytesOf, byL]
theorem byL_extract (p : ByteArray) (l h : Nat) : byL (p.extract l h) = ((byL p).drop l).take (h - l) := by
 simp [byL, ByteArray.data_extract, Array.toList_extract, List.extract_eq_take_drop]
def splitS (c : UInt8) (p : ByteArray) : List ByteArray := (splitL c (byL p)).map bytesOf
theorem splitS_len (c : UInt8) (p : ByteArray) : (splitS c p).length = Lib.countByte (byL p) c + 1 := by rw [splitS, List.length_map, splitL_len]
theorem splitS_none {c : UInt8} {p : ByteArray} (h : Lib.indexByte (byL p) c < 0) : splitS c p = [p] := by rw [splitS, index_none h]; simp [bytesOf]
theorem splitS_some {c : UInt8} {p : ByteArray} {m : Nat} (h : Lib.indexByte (byL p) c = m) : m < p.size ∧ splitS c p = p.extract 0 m :: splitS c (p.extract (m + 1) p.size) := by
 obtain ⟨h1, h2⟩ := index_some h
 rw [byL_len] at h1
 refine ⟨h1, ?_⟩
 have e1 : p.extract 0 m = bytesOf ((byL p).take m) := by rw [← bytesOf_byL (p.extract 0 m), byL_extract]; simp
 have e2 : byL (p.extract (m + 1) p.size) = (byL p).drop (m + 1) := by
  rw [byL_extract, List.take_of_length_le (by rw [List.length_drop, byL_len]; omega)]
 rw [splitS, h2, List.map_cons, e1, splitS, e2]
theorem getD_drop {ps : List ByteArray} {i : Nat} {x : ByteArray} {t : List ByteArray} (h : ps.drop i = x :: t) : i < ps.length ∧ ps.getD i ByteArray.empty = x ∧ ps.drop (i + 1) = t := by
 have hi : i < ps.length := by
  have := congrArg List.length h
  rw [List.length_drop, List.length_cons] at this; omega
 rw [List.drop_eq_getElem_cons hi] at h
 obtain ⟨h1, h2⟩ := List.cons.inj h
 exact ⟨hi, by rw [List.getD_eq_getElem?_getD, List.getElem?_eq_getElem hi]; exact h1, h2⟩
theorem split_next {ps : List ByteArray} {c : UInt8} {r : ByteArray} {i m : Nat} (h : ps.drop i = splitS c r) (hm : Lib.indexByte (byL r) c = m) : m < r.size ∧ ps.getD i ByteArray.empty = r.extract 0 m ∧ ps.drop (i + 1) = splitS c (r.extract (m + 1) r.size) := by
 obtain ⟨h1, h2⟩ := splitS_some hm
 rw [h2] at h
 exact ⟨h1, (getD_drop h).2⟩
theorem split_last {ps : List ByteArray} {c : UInt8} {r : ByteArray} {i : Nat} (h : ps.drop i = splitS c r) (hl : ps.length = i + 1) : ps.getD i ByteArray.empty = r := by
 have hn : Lib.indexByte (byL r) c < 0 := by
  by_cases h0 : Lib.indexByte (byL r) c < 0
  ·exact h0
  ·obtain ⟨m, hm⟩ : ∃ m : Nat, Lib.indexByte (byL r) c = m := ⟨_, (Int.toNat_of_nonneg (by omega)).symm⟩
   have h3 := congrArg List.length h
   rw [(splitS_some hm).2, List.length_drop, List.length_cons, splitS_len] at h3
   omega
 rw [splitS_none hn] at h
 exact (getD_drop h).2.1
def partS (ps : List ByteArray) (i : Nat) : List ByteArray := ps.take i ++ List.replicate (ps.length - i) ⟨#[]⟩
theorem partS_len (ps : List ByteArray) {i : Nat} (h : i ≤ ps.length) : (partS ps i).length = ps.length := by simp [partS]; omega
theorem partS_0 (ps : List ByteArray) : partS ps 0 = List.replicate ps.length ⟨#[]⟩ := by simp [partS]
theorem partS_all (ps : List ByteArray) : partS ps ps.length = ps := by simp [partS]
theorem partS_set {ps : List ByteArray} {i : Nat} {x : ByteArray} (h : i < ps.length) (hx : ps.getD i ByteArray.empty = x) : (partS ps i).set i x = partS ps (i + 1) := by
 rw [List.getD_eq_getElem?_getD, List.getElem?_eq_getElem h] at hx
 simp at hx
 unfold partS
 obtain ⟨k, hk⟩ : ∃ k, ps.length - i = k + 1 := ⟨ps.length - i - 1, by omega⟩
 rw [hk, show ps.length - (i + 1) = k by omega, List.replicate_succ, List.take_add_one, List.getElem?_eq_getElem h, List.set_append]
 have hl : (ps.take i).length = i := by simp; omega
 rw [if_neg (by omega), hl, Nat.sub_self]
 simp [hx]
end
section
section
variable {P : Program} {s : St'}
theorem ResN.boxS {t i n g cap : Nat} {xs : List ByteArray} {ty : TypeId} {tot : Nat} (h : look s.sl t = some (.v (.slice (some ⟨g, 0, none⟩) n cap))) (hi : s.hp[i]? = some (.box g ⟨strsL xs, ty, tot⟩)) (hn : n = xs.length) (hcap : n ≤ cap) (hm : cap ≤ maxLen) : ResN P s (.tmp t) (avStrs xs) :=
 ResN.box h hi (by show n * 1 ≤ (strsL xs).length; rw [strsL_len]; omega) hcap hm (flat_strs xs) fun w Z u h => Rep.strs hn h
end
theorem strings_Index_S {s : ByteArray} {c : UInt8} : SpecN Tryz.prog 350 [avS s, avS ⟨#[c]⟩] (fun y => y = avI (Lib.indexByte (byL s) c)) := by
 intro w us ha
 rw [argsV2 ha]
 refine (Tryz.strings_Index_one s c w).mono ?_
 rintro e w' ⟨rfl, rfl⟩
 exact ⟨_, _, rfl, rfl, .v _, Chg.refl _ _, trivial⟩
theorem stringslite_Index_S {s : ByteArray} {c : UInt8} : SpecN Tryz.prog 228 [avS s, avS ⟨#[c]⟩] (fun y => y = avI (Lib.indexByte (byL s) c)) := by
 intro w us ha
 rw [argsV2 ha]
 refine (Tryz.stringslite_Index_one s c w).mono ?_
 rintro e w' ⟨rfl, rfl⟩
 exact ⟨_, _, rfl, rfl, .v _, Chg.refl _ _, trivial⟩
theorem strings_Count_S {s : ByteArray} {c : UInt8} : SpecN Tryz.prog 349 [avS s, avS ⟨#[c]⟩] (fun y => y = avI (Lib.countByte (byL s) c : Int)) := by
 intro w us ha
 rw [argsV2 ha]
 refine (Tryz.strings_Count_one s c w).mono ?_
 rintro e w' ⟨rfl, rfl⟩
 exact ⟨_, _, rfl, rfl, .v _, Chg.refl _ _, trivial⟩
set_option maxHeartbeats 4000000 in
theorem strings_genSplit {s : ByteArray} {c : UInt8} (hs : s.size ≤ 100000000) :
  SpecN Tryz.prog 294 [avS s, avS ⟨#[c]⟩, avI 0, avI (-1)] (fun y => y = avStrs (splitS c s)) := by
 refine SpecN.of_VCN Tryz.func294 rfl Tryz.ntmps294 (Nle rfl) fun w A hB => ?_
 refine VC.seq ?_
 obtain ⟨ps, hps⟩ : ∃ ps, splitS c s = ps := ⟨_, rfl⟩
 have hpl : ps.length = Lib.countByte (byL s) c + 1 := by rw [← hps, splitS_len]
 have hcl : Lib.countByte (byL s) c ≤ s.size := by rw [← byL_len]; exact List.count_le_length
 have hc1 : (⟨#[c]⟩ : ByteArray).size = 1 := rfl
 refine VC.region ?_
 refine VO.ma rfl rfl rfl rfl ?_
 refine VO.nil ?_
 refine VC.seq ?_
 refine VC.sr ?_
 refine VO.mv rfl rfl rfl rfl ?_
 refine VO.val rfl rfl (OpV.eql rfl rfl rfl) ?_
 refine VO.nil ?_
 refine VC.condF rfl rfl ?_
 refine VC.skip ?_
 refine VC.seq ?_
 refine VC.sr ?_
 refine VO.mv rfl rfl rfl rfl ?_
 refine VO.val rfl rfl (OpV.seql rfl rfl rfl) ?_
 refine VO.le _ (Le.recast (t := 15) (y := avB false) rfl (fun w Z u h => by rw [sEq_empty] at h; exact h)) ?_
 refine VO.nil ?_
 refine VC.condF rfl rfl ?_
 refine VC.skip ?_
 refine VC.seq ?_
 refine VC.sr ?_
 refine VO.mv rfl rfl rfl rfl ?_
 refine VO.val rfl rfl (OpV.lss rfl rfl rfl) ?_
 refine VO.nil ?_
 refine VC.condT rfl rfl ?_
 refine VC.region ?_
 refine VO.mv rfl rfl rfl rfl ?_
 refine VO.mv rfl rfl rfl rfl ?_
 refine VO.op rfl (OpE.call rfl hB rfl Tryz.call349 rfl (SpecN.spec (strings_Count_S)) ?_)
 rintro _ rfl
 refine VO.val rfl rfl (OpV.add rfl rfl rfl (by unfold fits; omega)) ?_
 refine VO.ma rfl rfl rfl rfl ?_
 refine VO.nil ?_
 refine VC.sr ?_
 refine VO.mv rfl rfl rfl rfl ?_
 refine VO.mv rfl rfl rfl rfl ?_
 refine VO.val rfl rfl (OpV.len_s rfl Tryz.underlying9 rfl) ?_
 refine VO.val rfl rfl (OpV.add rfl rfl rfl (by unfold fits; omega)) ?_
 refine VO.val rfl rfl (OpV.min2 rfl rfl rfl) ?_
 refine VO.ma rfl rfl rfl rfl ?_
 refine VO.nil ?_
 refine VC.sr ?_
 refine VO.mv rfl rfl rfl rfl ?_
 refine VO.op rfl (OpE.make rfl hB rfl Tryz.underlying82 (infoOf Tryz.t9 1 (by kernel_rfl) rfl rfl) (by decide) rfl rfl (n := ps.length) (by omega) (by omega) (by omega) (made_strs _ _) ?_)
 intro g31
 refine VO.ma rfl rfl rfl rfl ?_
 refine VO.nil ?_
 refine VC.sr ?_
 refine VO.mv rfl rfl rfl rfl ?_
 refine VO.val rfl rfl (OpV.sub rfl rfl rfl (by unfold fits; omega)) ?_
 refine VO.ma rfl rfl rfl rfl ?_
 refine VO.nil ?_
 refine VC.sr ?_
 refine VO.ma rfl rfl rfl rfl ?_
 refine VO.nil ?_
 refine VC.seq ?_
 refine VC.block ?_
 refine VC.loopK [(1, _), (2, _), (3, _), (9, _)] ⟨rfl, rfl, rfl, rfl, trivial⟩ ({z : ByteArray × Nat // z.2 < ps.length ∧ ps.drop z.2 = splitS c z.1 ∧ z.1.size ≤ s.size}) (fun (iZ : {z : ByteArray × Nat // z.2 < ps.length ∧ ps.drop z.2 = splitS c z.1 ∧ z.1.size ≤ s.size}) => match iZ with | ⟨⟨r, i⟩, hi, hr, hrs⟩ => [(0, avS r), (10, avI (i : Int))]) (fun (iZ : {z : ByteArray × Nat // z.2 < ps.length ∧ ps.drop z.2 = splitS c z.1 ∧ z.1.size ≤ s.size}) => match iZ with | ⟨⟨r, i⟩, hi, hr, hrs⟩ => [.box g31 ⟨strsL (partS ps i), 9, (strsL (List.replicate ps.length (⟨#[]⟩ : ByteArray))).length⟩]) (fun (iZ : {z : ByteArray × Nat // z.2 < ps.length ∧ ps.drop z.2 = splitS c z.1 ∧ z.1.size ≤ s.size}) => match iZ with | ⟨⟨r, i⟩, hi, hr, hrs⟩ => 0) (fun (iZ : {z : ByteArray × Nat // z.2 < ps.length ∧ ps.drop z.2 = splitS c z.1 ∧ z.1.size ≤ s.size}) => match iZ with | ⟨⟨r, i⟩, hi, hr, hrs⟩ => ps.length - i) ⟨(s, 0), by show 0 < _; omega, by show ps.drop 0 = splitS c s; rw [hps, List.drop_zero], Nat.le_refl _⟩ (Le.mk hB [0] ⟨rfl, rfl, rfl, rfl, rfl, rfl, trivial⟩ rfl (congrArg (fun z => [Ent.box g31 ⟨strsL z, 9, (strsL (List.replicate ps.length (⟨#[]⟩ : ByteArray))).length⟩]) (partS_0 ps).symm) (Nat.le_refl _)) ?_
 rintro ⟨⟨r, i⟩, hi, hr, hrs⟩
 show VC _ _ _ _ ⟨[(0, avS r), (10, avI (i : Int))] ++ [(1, _), (2, _), (3, _), (9, _)], [.box g31 ⟨strsL (partS ps i), 9, (strsL (List.replicate ps.length (⟨#[]⟩ : ByteArray))).length⟩], 0⟩
 simp only at hi hr hrs
 have hrl : ps.length - i = Lib.countByte (byL r) c + 1 := by rw [← splitS_len, ← hr, List.length_drop]
 refine VC.seq ?_
 refine VC.sr ?_
 refine VO.mv rfl rfl rfl rfl ?_
 refine VO.mv rfl rfl rfl rfl ?_
 refine VO.val rfl rfl (OpV.lss rfl rfl rfl) ?_
 refine VO.nil ?_
 refine VC.cond rfl (fun aH1b => ?_) (fun aH1b => ?_)
 ·have aH1 := aH1b
  try simp only [qq] at aH1
  refine VC.skip ?_
  refine VC.block ?_
  refine VC.sr ?_
  refine VO.mv rfl rfl rfl rfl ?_
  refine VO.mv rfl rfl rfl rfl ?_
  refine VO.op rfl (OpE.call rfl hB rfl Tryz.call350 rfl (SpecN.spec (strings_Index_S)) ?_)
  rintro _ rfl
  refine VO.ma rfl rfl rfl rfl ?_
  refine VO.nil ?_
  refine VC.seq ?_
  refine VC.sr ?_
  refine VO.mv rfl rfl rfl rfl ?_
  refine VO.val rfl rfl (OpV.lss rfl rfl rfl) ?_
  refine VO.nil ?_
  refine VC.cond rfl (fun h4b => ?_) (fun h4b => ?_)
  ·have h4 := h4b
   try simp only [qq] at h4
   exact VC.absurd (by have := splitS_none h4; have h5 := congrArg List.length this; rw [splitS_len, ← hrl] at h5; simp at h5; omega)
  ·have h4 := h4b
   try simp only [qq] at h4
   obtain ⟨m, hm⟩ : ∃ m : Nat, Lib.indexByte (byL r) c = m := ⟨(Lib.indexByte (byL r) c).toNat, by omega⟩
   obtain ⟨hm1, hm3, hr2⟩ := split_next hr hm
   refine VC.skip ?_
   refine VC.sr ?_
   refine VO.mv rfl rfl rfl rfl ?_
   refine VO.mv rfl rfl rfl rfl ?_
   refine VO.mv rfl rfl rfl rfl ?_
   refine VO.mv rfl rfl rfl rfl ?_
   refine VO.mv rfl rfl rfl rfl ?_
   refine VO.val rfl rfl (OpV.add rfl rfl rfl (by unfold fits; omega)) ?_
   refine VO.val rfl rfl (OpV.slice_s (h := m) rfl Tryz.underlying9 rfl rfl ⟨_, _, rfl, by omega⟩ (by omega) (by omega)) ?_
   refine VO.val rfl rfl (OpV.indexAddr_o rfl Tryz.underlying82 Tryz.sizeOf9 rfl rfl rfl (by omega)) ?_
   refine VO.op rfl (OpE.store1 (i := 0) rfl hB rfl Tryz.sizeOf9 rfl rfl rfl rfl rfl rfl (by rw [strsL_len, partS_len _ (by omega)]; exact hi) ((strsL_set _ _ _).trans (congrArg strsL (partS_set hi hm3))) trivial ?_)
   refine VO.nil ?_
   refine VC.sr ?_
   refine VO.mv rfl rfl rfl rfl ?_
   refine VO.mv rfl rfl rfl rfl ?_
   refine VO.mv rfl rfl rfl rfl ?_
   refine VO.val rfl rfl (OpV.len_s rfl Tryz.underlying9 rfl) ?_
   refine VO.val rfl rfl (OpV.add rfl rfl rfl (by unfold fits; omega)) ?_
   refine VO.val rfl rfl (OpV.slice_s (l := m + 1) rfl Tryz.underlying9 rfl ⟨_, _, rfl, by omega⟩ rfl (by omega) (by omega)) ?_
   refine VO.ma rfl rfl rfl rfl ?_
   refine VO.nil ?_
   refine VC.region ?_
   refine VO.mv rfl rfl rfl rfl ?_
   refine VO.val rfl rfl (OpV.add rfl rfl rfl (by unfold fits; omega)) ?_
   refine VO.ma rfl rfl rfl rfl ?_
   refine VO.nil ?_
   exact Exists.intro (⟨(r.extract (m + 1) r.size, i + 1), by show i + 1 < _; omega, hr2, by show (r.extract (m + 1) r.size).size ≤ _; rw [ByteArray.size_extract]; omega⟩) (And.intro (Le.mk hB [0] ⟨rfl, rfl, rfl, rfl, rfl, rfl, trivial⟩ rfl rfl (Nat.le_refl _)) (by first | omega | (show _ < _; omega) | (simp only []; omega)))
 ·have aH1 := aH1b
  try simp only [qq] at aH1
  have hl1 : ps.length = i + 1 := by omega
  have hlast := split_last hr hl1
  refine VC.exit ?_
  refine VC.sr ?_
  refine VO.mv rfl rfl rfl rfl ?_
  refine VO.mv rfl rfl rfl rfl ?_
  refine VO.mv rfl rfl rfl rfl ?_
  refine VO.val rfl rfl (OpV.indexAddr_o rfl Tryz.underlying82 Tryz.sizeOf9 rfl rfl rfl (by omega)) ?_
  refine VO.op rfl (OpE.store1 (i := 0) rfl hB rfl Tryz.sizeOf9 rfl rfl rfl rfl rfl rfl (by rw [strsL_len, partS_len _ (by omega)]; exact hi) ((strsL_set _ _ _).trans (congrArg strsL (partS_set hi hlast))) trivial ?_)
  refine VO.nil ?_
  refine VC.sr ?_
  refine VO.mv rfl rfl rfl rfl ?_
  refine VO.mv rfl rfl rfl rfl ?_
  refine VO.val rfl rfl (OpV.add rfl rfl rfl (by unfold fits; omega)) ?_
  refine VO.val rfl rfl (OpV.slice_own (h := i + 1) rfl Tryz.underlying82 Tryz.sizeOf9 rfl rfl ⟨_, _, rfl, by omega⟩ (by omega) (by omega) (by omega)) ?_
  refine VO.ma rfl rfl rfl rfl ?_
  refine VO.nil ?_
  refine VC.ret ?_
  exact Exists.intro _ (And.intro (RetN.one Tryz.results294 (ResN.boxS (i := 0) (xs := partS ps (i + 1)) rfl rfl (by rw [partS_len _ (by omega)]; omega) (by omega) (capM (by omega)))) (by rw [hps, ← hl1, partS_all]))
end
section
theorem rep_sb {w : World} {Z : Nat → Prop} (p : ByteArray) (b : Bool) : Rep w Z (.tup [avS p, avB b]) (.tuple #[.string p, .bool b]) := .tup _ _ rfl fun q hq => by
 match q, hq with
 | 0, _ => exact .v _
 | 1, _ => exact .v _
theorem strings_CutPrefix_S {s p : ByteArray} : SpecN Tryz.prog 295 [avS s, avS p] (fun y => y = .tup [avS (bytesOf (Lib.trimPrefix (byL s) (byL p))), avB (Lib.hasPrefix (byL s) (byL p))]) := by
 intro w us ha
 rw [argsV2 ha]
 refine (Tryz.strings_CutPrefix s p w).mono ?_
 rintro e w' ⟨rfl, rfl⟩
 exact ⟨_, _, rfl, rfl, rep_sb _ _, Chg.refl _ _, trivial⟩
theorem strings_CutSuffix_S {s p : ByteArray} (hs : s.size ≤ 1000000000) : SpecN Tryz.prog 218 [avS s, avS p] (fun y => y = .tup [avS (bytesOf (Lib.trimSuffix (byL s) (byL p))), avB (Lib.hasSuffix (byL s) (byL p))]) := by
 intro w us ha
 rw [argsV2 ha]
 refine (Tryz.strings_CutSuffix s p w (by omega)).mono ?_
 rintro e w' ⟨rfl, rfl⟩
 exact ⟨_, _, rfl, rfl, rep_sb _ _, Chg.refl _ _, trivial⟩
theorem strings_Split {s : ByteArray} {c : UInt8} (hs : s.size ≤ 100000000) :
  Spec Tryz.prog 219 [avS s, avS ⟨#[c]⟩] (fun y => y = avStrs (splitS c s)) := by
 refine Spec.of_VC Tryz.func219 rfl Tryz.ntmps219 (Nle rfl) fun w A hB => ?_
 refine VC.sr ?_
 refine VO.ma rfl rfl rfl rfl ?_
 refine VO.nil ?_
 refine VC.sr ?_
 refine VO.mv rfl rfl rfl rfl ?_
 refine VO.mv rfl rfl rfl rfl ?_
 refine VO.op rfl (OpE.call rfl hB rfl Tryz.call294 rfl (SpecN.spec (strings_genSplit hs)) ?_)
 rintro _ rfl
 refine VO.ma rfl rfl rfl rfl ?_
 refine VO.nil ?_
 refine VC.ret ?_
 exact Exists.intro _ (And.intro (RetV.one Tryz.results219 (ResV.tmp rfl)) (rfl))
def wordsB (s : ByteArray) : Bool := (splitS 32 s).all fun x => !sEq x ⟨#[]⟩
def wordsR (s : ByteArray) : List ByteArray := if wordsB s = true then splitS 32 s else []
theorem words_all {s : ByteArray} (h : ∀ j, j < (splitS 32 s).length → sEq ((splitS 32 s).getD j ByteArray.empty) ⟨#[]⟩ = false) : wordsB s = true ∧ wordsR s = splitS 32 s := by
 have h1 : wordsB s = true := by
  unfold wordsB
  rw [List.all_eq_true]
  intro x hx
  obtain ⟨j, hj, rfl⟩ := List.getElem_of_mem hx
  have := h j hj
  rw [List.getD_eq_getElem?_getD, List.getElem?_eq_getElem hj] at this
  simp at this
  simp [this]
 exact ⟨h1, if_pos h1⟩
theorem words_none {s : ByteArray} {q : Nat} (hq : q < (splitS 32 s).length) (h : sEq ((splitS 32 s).getD q ByteArray.empty) ⟨#[]⟩ = true) : wordsB s = false ∧ wordsR s = [] := by
 have h1 : wordsB s = false := by
  unfold wordsB
  rw [List.all_eq_false]
  rw [List.getD_eq_getElem?_getD, List.getElem?_eq_getElem hq] at h
  exact ⟨_, List.getElem_mem hq, by simp at h; simp [h]⟩
 exact ⟨h1, if_neg (by rw [h1]; simp)⟩
theorem kit_Words {s : ByteArray} (hs : s.size ≤ 100000000) :
  Spec Tryz.prog 220 [avS s] (fun y => y = .tup [avStrs (wordsR s), avB (wordsB s)]) := by
 refine Spec.of_VC Tryz.func220 rfl Tryz.ntmps220 (Nle rfl) fun w A hB => ?_
 refine VC.seq ?_
 have hpl := splitS_len 32 s
 have hcl : Lib.countByte (byL s) 32 ≤ s.size := by rw [← byL_len]; exact List.count_le_length
 refine VC.region ?_
 refine VO.ma rfl rfl rfl rfl ?_
 first | refine VO.le _ (Le.recast (t := 2) (y := avStrs []) rfl (fun w Z u h => by rw [h.eq_v]; exact .nil _ _)) ?_ | skip
 refine VO.ma rfl rfl rfl rfl ?_
 refine VO.nil ?_
 refine VC.sr ?_
 refine VO.mv rfl rfl rfl rfl ?_
 refine VO.op rfl (OpE.call rfl hB rfl Tryz.call219 rfl (strings_Split (c := 32) hs) ?_)
 rintro _ rfl
 refine VO.ma rfl rfl rfl rfl ?_
 refine VO.nil ?_
 refine VC.seq ?_
 refine VC.sr ?_
 refine VO.mv rfl rfl rfl rfl ?_
 refine VO.val rfl rfl (OpV.len_im rfl Tryz.underlying82 rfl) ?_
 refine VO.mv rfl rfl rfl rfl ?_
 refine VO.nil ?_
 refine VC.block ?_
 refine VC.loopK [(4, _), (9, _), (10, _)] ⟨rfl, rfl, rfl, trivial⟩ ({q : Nat // q ≤ (splitS 32 s).length ∧ ∀ j, j < q → sEq ((splitS 32 s).getD j ByteArray.empty) ⟨#[]⟩ = false}) (fun (iZ : {q : Nat // q ≤ (splitS 32 s).length ∧ ∀ j, j < q → sEq ((splitS 32 s).getD j ByteArray.empty) ⟨#[]⟩ = false}) => match iZ with | ⟨q, hq, hn⟩ => [(11, avI (q : Int))]) (fun (iZ : {q : Nat // q ≤ (splitS 32 s).length ∧ ∀ j, j < q → sEq ((splitS 32 s).getD j ByteArray.empty) ⟨#[]⟩ = false}) => match iZ with | ⟨q, hq, hn⟩ => []) (fun (iZ : {q : Nat // q ≤ (splitS 32 s).length ∧ ∀ j, j < q → sEq ((splitS 32 s).getD j ByteArray.empty) ⟨#[]⟩ = false}) => match iZ with | ⟨q, hq, hn⟩ => 0) (fun (iZ : {q : Nat // q ≤ (splitS 32 s).length ∧ ∀ j, j < q → sEq ((splitS 32 s).getD j ByteArray.empty) ⟨#[]⟩ = false}) => match iZ with | ⟨q, hq, hn⟩ => (splitS 32 s).length - q) ⟨0, Nat.zero_le _, fun j hj => absurd hj (Nat.not_lt_zero j)⟩ (Le.mk hB [] ⟨rfl, rfl, rfl, rfl, trivial⟩ rfl rfl (Nat.le_refl _)) ?_
 rintro ⟨q, hq, hn⟩
 show VC _ _ _ _ ⟨[(11, avI (q : Int))] ++ [(4, _), (9, _), (10, _)], [], 0⟩
 refine VC.sr ?_
 refine VO.val rfl rfl (OpV.lss rfl rfl rfl) ?_
 refine VO.nil ?_
 refine VC.seq ?_
 refine VC.cond rfl (fun aH1b => ?_) (fun aH1b => ?_)
 ·have aH1 := aH1b
  try simp only [qq] at aH1
  refine VC.skip ?_
  refine VC.seq ?_
  refine VC.block ?_
  refine VC.sr ?_
  refine VO.val rfl rfl (OpV.indexAddr_1 rfl Tryz.underlying82 Tryz.sizeOf9 rfl rfl rfl (by omega)) ?_
  refine VO.val rfl rfl (OpV.load_at rfl hB OutW.no Tryz.isAgg9 rfl rfl) ?_
  refine VO.ma rfl rfl rfl rfl ?_
  refine VO.nil ?_
  refine VC.sr ?_
  refine VO.mv rfl rfl rfl rfl ?_
  refine VO.val rfl rfl (OpV.seql rfl rfl rfl) ?_
  refine VO.nil ?_
  refine VC.cond rfl (fun h1b => ?_) (fun h1b => ?_)
  ·have h1 := h1b
   try simp only [qq] at h1
   refine VC.sr ?_
   refine VO.ma rfl rfl rfl rfl ?_
   first | refine VO.le _ (Le.recast (t := 2) (y := avStrs []) rfl (fun w Z u h => by rw [h.eq_v]; exact .nil _ _)) ?_ | skip
   refine VO.ma rfl rfl rfl rfl ?_
   refine VO.nil ?_
   refine VC.ret ?_
   exact Exists.intro _ (And.intro (RetV.two Tryz.results220 (ResV.tmp rfl) (ResV.tmp rfl)) (by rw [(words_none (by omega) h1b).1, (words_none (by omega) h1b).2]))
  ·have h1 := h1b
   try simp only [qq] at h1
   refine VC.skip ?_
   refine VC.region ?_
   refine VO.val rfl rfl (OpV.add rfl rfl rfl (by unfold fits; omega)) ?_
   refine VO.mv rfl rfl rfl rfl ?_
   refine VO.nil ?_
   exact Exists.intro (⟨q + 1, by omega, lt_succ_cases hn (h1b)⟩) (And.intro (Le.mk hB [] ⟨rfl, rfl, rfl, rfl, trivial⟩ rfl rfl (Nat.le_refl _)) (by first | omega | (show _ < _; omega) | (simp only []; omega)))
 ·have aH1 := aH1b
  try simp only [qq] at aH1
  refine VC.exit ?_
  refine VC.sr ?_
  refine VO.mv rfl rfl rfl rfl ?_
  refine VO.ma rfl rfl rfl rfl ?_
  first | refine VO.le _ (Le.recast (t := 2) (y := avStrs []) rfl (fun w Z u h => by rw [h.eq_v]; exact .nil _ _)) ?_ | skip
  refine VO.ma rfl rfl rfl rfl ?_
  refine VO.nil ?_
  refine VC.ret ?_
  exact Exists.intro _ (And.intro (RetV.two Tryz.results220 (ResV.tmp rfl) (ResV.tmp rfl)) (by rw [(words_all (fun j hj => hn j (by omega))).1, (words_all (fun j hj => hn j (by omega))).2]))
def endB (s : ByteArray) : Bool := Lib.hasSuffix (byL s) [10]
def linesR (s : ByteArray) : List ByteArray := if sEq s ⟨#[]⟩ = true then [] else splitS 10 (bytesOf (Lib.trimSuffix (byL s) [10]))
def linesE (s : ByteArray) : Bool := if sEq s ⟨#[]⟩ = true then true else endB s
theorem trimSuffix_size (s p : ByteArray) : (bytesOf (Lib.trimSuffix (byL s) (byL p))).size ≤ s.size := by
 rw [← byL_len, ← byL_len]
 show ((Lib.trimSuffix (byL s) (byL p)).toArray.toList).length ≤ _
 unfold Lib.trimSuffix
 split <;> simp
theorem kit_Lines {s : ByteArray} (hs : s.size ≤ 100000000) :
  Spec Tryz.prog 147 [avS s] (fun y => y = .tup [avStrs (linesR s), avB (linesE s)]) := by
 refine Spec.of_VC Tryz.func147 rfl Tryz.ntmps147 (Nle rfl) fun w A hB => ?_
 refine VC.sr ?_
 refine VO.ma rfl rfl rfl rfl ?_
 first | refine VO.le _ (Le.recast (t := 2) (y := avStrs []) rfl (fun w Z u h => by rw [h.eq_v]; exact .nil _ _)) ?_ | skip
 refine VO.ma rfl rfl rfl rfl ?_
 refine VO.nil ?_
 refine VC.seq ?_
 refine VC.sr ?_
 refine VO.mv rfl rfl rfl rfl ?_
 refine VO.val rfl rfl (OpV.seql rfl rfl rfl) ?_
 refine VO.nil ?_
 refine VC.cond rfl (fun h0b => ?_) (fun h0b => ?_)
 ·have h0 := h0b
  try simp only [qq] at h0
  refine VC.sr ?_
  refine VO.ma rfl rfl rfl rfl ?_
  first | refine VO.le _ (Le.recast (t := 2) (y := avStrs []) rfl (fun w Z u h => by rw [h.eq_v]; exact .nil _ _)) ?_ | skip
  refine VO.ma rfl rfl rfl rfl ?_
  refine VO.nil ?_
  refine VC.ret ?_
  exact Exists.intro _ (And.intro (RetV.two Tryz.results147 (ResV.tmp rfl) (ResV.tmp rfl)) (by rw [linesR, linesE, if_pos h0, if_pos h0]))
 ·have h0 := h0b
  try simp only [qq] at h0
  refine VC.skip ?_
  refine VC.sr ?_
  refine VO.mv rfl rfl rfl rfl ?_
  refine VO.op rfl (OpE.call rfl hB rfl Tryz.call218 rfl (SpecN.spec (strings_CutSuffix_S (p := ⟨#[10]⟩) (by omega))) ?_)
  rintro _ rfl
  refine VO.mv rfl rfl rfl rfl ?_
  refine VO.val rfl rfl (OpV.extract rfl rfl rfl) ?_
  refine VO.val rfl rfl (OpV.extract rfl rfl rfl) ?_
  refine VO.ma rfl rfl rfl rfl ?_
  refine VO.ma rfl rfl rfl rfl ?_
  refine VO.nil ?_
  refine VC.sr ?_
  refine VO.mv rfl rfl rfl rfl ?_
  refine VO.op rfl (OpE.call rfl hB rfl Tryz.call219 rfl (strings_Split (c := 10) (Nat.le_trans (trimSuffix_size s ⟨#[10]⟩) hs)) ?_)
  rintro _ rfl
  refine VO.mv rfl rfl rfl rfl ?_
  refine VO.ma rfl rfl rfl rfl ?_
  first | refine VO.le _ (Le.recast (t := 2) (y := avStrs []) rfl (fun w Z u h => by rw [h.eq_v]; exact .nil _ _)) ?_ | skip
  refine VO.ma rfl rfl rfl rfl ?_
  refine VO.nil ?_
  refine VC.ret ?_
  exact Exists.intro _ (And.intro (RetV.two Tryz.results147 (ResV.tmp rfl) (ResV.tmp rfl)) (by rw [linesR, linesE, if_neg (by rw [h0]; simp), if_neg (by rw [h0]; simp)]; rfl))
end
section
theorem splitL_none {c : UInt8} : ∀ {a : List UInt8}, (∀ x ∈ a, x ≠ c) → splitL c a = [a]
 | [], _ => rfl
 | b :: a, h => by rw [splitL, if_neg (h b (List.mem_cons_self ..)), splitL_none fun x hx => h x (List.mem_cons_of_mem _ hx)]
theorem splitL_cut {c : UInt8} {r : List UInt8} : ∀ {a : List UInt8}, (∀ x ∈ a, x ≠ c) → splitL c (a ++ c :: r) = a :: splitL c r
 | [], _ => by rw [List.nil_append, splitL, if_pos rfl]
 | b :: a, h => by rw [List.cons_append, splitL, if_neg (h b (List.mem_cons_self ..)), splitL_cut fun x hx => h x (List.mem_cons_of_mem _ hx)]
theorem index_cut {c : UInt8} : ∀ {l : List UInt8} {m : Nat}, Lib.indexByte l c = m → l = l.take m ++ c :: l.drop (m + 1) ∧ ∀ x ∈ l.take m, x ≠ c
 | [], m, h => by simp [Lib.indexByte] at h
 | b :: l, m, h => by
  unfold Lib.indexByte at h
  by_cases hb : b = c
  ·subst hb
   simp at h
   obtain rfl : m = 0 := by omega
   exact ⟨rfl, fun x hx => by simp at hx⟩
  ·have hb' : (b == c) = false := by simpa using hb
   rw [hb'] at h
   simp only [Bool.false_eq_true, if_false] at h
   split at h
   ·omega
   ·rename_i e
    have hge := Lib.indexByte_ge l c
    have e' : ¬ Lib.indexByte l c = -1 := by simpa using e
    obtain ⟨k, rfl⟩ : ∃ k, m = k + 1 := ⟨m - 1, by omega⟩
    obtain ⟨h1, h2⟩ := index_cut (c := c) (l := l) (m := k) (by omega)
    refine ⟨by rw [List.take_succ_cons, List.drop_succ_cons, List.cons_append, ← h1], fun x hx => ?_⟩
    rw [List.take_succ_cons] at hx
    rcases List.mem_cons.1 hx with rfl | hx
    ·exact hb
    ·exact h2 x hx
theorem index_no {c : UInt8} : ∀ {l : List UInt8}, Lib.indexByte l c < 0 → ∀ x ∈ l, x ≠ c
 | [], _ => fun x hx => by simp at hx
 | b :: l, h => by
  unfold Lib.indexByte at h
  by_cases hb : b = c
  ·subst hb; simp at h
  ·have hb' : (b == c) = false := by simpa using hb
   rw [hb'] at h
   simp only [Bool.false_eq_true, if_false] at h
   have h1 : Lib.indexByte l c < 0 := by
    have := Lib.indexByte_ge l c
    split at h
    ·rename_i e; have e' : Lib.indexByte l c = -1 := by simpa using e
     omega
    ·omega
   intro x hx
   rcases List.mem_cons.1 hx with rfl | hx
   ·exact hb
   ·exact index_no h1 x hx
theorem suff_iff {l : List UInt8} {c : UInt8} : Lib.hasSuffix l [c] = true ↔ l.getLast? = some c := by
 unfold Lib.hasSuffix
 rw [List.isSuffixOf_iff_suffix]
 constructor
 ·rintro ⟨t, rfl⟩; simp
 ·intro h
  obtain ⟨t, rfl⟩ := List.getLast?_eq_some_iff.1 h
  exact ⟨t, rfl⟩
def linesL (l : List UInt8) : List (List UInt8) := if l = [] then [] else splitL 10 (Lib.trimSuffix l [10])
def endL (l : List UInt8) : Bool := if l = [] then true else Lib.hasSuffix l [10]
theorem linesL_none {l : List UInt8} (h0 : l ≠ []) (h : Lib.indexByte l 10 < 0) : linesL l = [l] ∧ endL l = false := by
 have hn := index_no h
 have hs : Lib.hasSuffix l [10] = false := Bool.eq_false_iff.2 fun e => by
  obtain ⟨t, rfl⟩ := List.getLast?_eq_some_iff.1 (suff_iff.1 e)
  exact hn 10 (by simp) rfl
 refine ⟨?_, by rw [endL, if_neg h0, hs]⟩
 rw [linesL, if_neg h0, Lib.trimSuffix, hs, if_neg (by simp), splitL_none hn]
theorem linesL_some {l : List UInt8} {m : Nat} (h : Lib.indexByte l 10 = m) : linesL l = l.take m :: linesL (l.drop (m + 1)) ∧ endL l = endL (l.drop (m + 1)) := by
 obtain ⟨h1, h2⟩ := index_cut h
 generalize l.take m = a at h1 h2
 generalize l.drop (m + 1) = r at h1
 subst h1
 have hne : a ++ 10 :: r ≠ [] := by simp
 by_cases hr : r = []
 ·subst hr
  have hs : Lib.hasSuffix (a ++ [10]) [10] = true := suff_iff.2 (by simp)
  refine ⟨?_, by rw [endL, if_neg hne, hs, endL, if_pos rfl]⟩
  rw [linesL, if_neg hne, Lib.trimSuffix, hs, if_pos rfl, linesL, if_pos rfl]
  have : (a ++ [10]).take ((a ++ [10]).length - [(10 : UInt8)].length) = a := by simp
  rw [this, splitL_none h2]
 ·have hl : (a ++ 10 :: r).getLast? = r.getLast? := by
   rw [List.getLast?_append, List.getLast?_cons]
   cases hg : r.getLast? with
   | none => rw [List.getLast?_eq_none_iff] at hg; exact absurd hg hr
   | some x => simp
  have hs : Lib.hasSuffix (a ++ 10 :: r) [10] = Lib.hasSuffix r [10] := by
   rw [Bool.eq_iff_iff, suff_iff, suff_iff, hl]
  refine ⟨?_, by rw [endL, if_neg hne, hs, endL, if_neg hr]⟩
  rw [linesL, if_neg hne, linesL, if_neg hr, Lib.trimSuffix, hs, Lib.trimSuffix]
  split
  ·have hp : 0 < r.length := List.length_pos_iff.2 hr
   have : (a ++ 10 :: r).take ((a ++ 10 :: r).length - [(10 : UInt8)].length) = a ++ 10 :: r.take (r.length - [(10 : UInt8)].length) := by
    rw [List.take_append]
    congr 1
    ·rw [List.take_of_length_le (by simp)]
    ·have e : (a ++ 10 :: r).length - [(10 : UInt8)].length - a.length = (r.length - 1) + 1 := by simp; omega
     rw [e, List.take_succ_cons]; rfl
   rw [this, splitL_cut h2]
  ·rw [splitL_cut h2]
theorem byL_bytesOf (l : List UInt8) : byL (bytesOf l) = l := by simp [byL, bytesOf]
theorem byL_nil {s : ByteArray} : byL s = [] ↔ s = ⟨#[]⟩ := by
 constructor
 ·intro h; rw [← bytesOf_byL s, h]; rfl
 ·rintro rfl; rfl
theorem linesR_L (s : ByteArray) : linesR s = (linesL (byL s)).map bytesOf := by
 unfold linesR linesL
 by_cases h : byL s = []
 ·have := byL_nil.1 h
  subst this
  rw [if_pos (sEq_refl _), if_pos h]; rfl
 ·have hne : ¬ sEq s ⟨#[]⟩ = true := fun e => h (byL_nil.2 (sEq_eq.1 e))
  rw [if_neg hne, if_neg h, splitS, byL_bytesOf]
theorem linesE_L (s : ByteArray) : linesE s = endL (byL s) := by
 unfold linesE endL
 by_cases h : byL s = []
 ·have := byL_nil.1 h
  subst this
  rw [if_pos (sEq_refl _), if_pos h]
 ·have hne : ¬ sEq s ⟨#[]⟩ = true := fun e => h (byL_nil.2 (sEq_eq.1 e))
  rw [if_neg hne, if_neg h]; rfl
theorem lines_none {s : ByteArray} (h0 : sEq s ⟨#[]⟩ = false) (h : Lib.indexByte (byL s) 10 < 0) : linesR s = [s] ∧ linesE s = false := by
 have hne : byL s ≠ [] := fun e => by rw [byL_nil.1 e, sEq_refl] at h0; cases h0
 obtain ⟨h1, h2⟩ := linesL_none hne h
 rw [linesR_L, linesE_L, h1, h2]
 exact ⟨by simp [bytesOf_byL], rfl⟩
theorem lines_some {s : ByteArray} {m : Nat} (h : Lib.indexByte (byL s) 10 = m) : linesR s = s.extract 0 m :: linesR (s.extract (m + 1) s.size) ∧ linesE s = linesE (s.extract (m + 1) s.size) := by
 obtain ⟨h1, h2⟩ := linesL_some h
 have e1 : byL (s.extract (m + 1) s.size) = (byL s).drop (m + 1) := by
  rw [byL_extract, List.take_of_length_le (by rw [List.length_drop, byL_len]; omega)]
 have e2 : bytesOf ((byL s).take m) = s.extract 0 m := by
  rw [← bytesOf_byL (s.extract 0 m), byL_extract, List.drop_zero, Nat.sub_zero]
 rw [linesR_L, linesE_L, linesR_L, linesE_L, e1, h1, h2, List.map_cons, e2]
 exact ⟨rfl, rfl⟩
theorem lines_nil : linesR ⟨#[]⟩ = [] ∧ linesE ⟨#[]⟩ = true := ⟨by rw [linesR, if_pos (sEq_refl _)], by rw [linesE, if_pos (sEq_refl _)]⟩
def lnBad (ok : Nat → ByteArray → Bool) (ls : List ByteArray) (e : Bool) (i : Nat) : Bool := !ok i (ls.getD i ByteArray.empty) || (!e && decide (i + 1 = ls.length))
def lnF (ok : Nat → ByteArray → Bool) (ls : List ByteArray) (e : Bool) : Option Nat := (List.range ls.length).find? (lnBad ok ls e)
theorem lnF_none {ok : Nat → ByteArray → Bool} {ls : List ByteArray} {e : Bool} (h : ∀ j, j < ls.length → lnBad ok ls e j = false) : lnF ok ls e = none :=
 List.find?_eq_none.2 fun j hj => by rw [h j (List.mem_range.1 hj)]; simp
theorem lnF_some {ok : Nat → ByteArray → Bool} {ls : List ByteArray} {e : Bool} {i : Nat} (hi : i < ls.length) (h : lnBad ok ls e i = true) (hn : ∀ j, j < i → lnBad ok ls e j = false) : lnF ok ls e = some i := by
 unfold lnF
 rw [List.find?_range_eq_some]
 exact ⟨h, List.mem_range.2 hi, fun j hj => by rw [hn j hj]; rfl⟩
end
section
def cutF (c : UInt8) (s : ByteArray) : Bool := decide (0 ≤ Lib.indexByte (byL s) c)
def cutA (c : UInt8) (s : ByteArray) : ByteArray := if cutF c s = true then s.extract 0 (Lib.indexByte (byL s) c).toNat else s
def cutB (c : UInt8) (s : ByteArray) : ByteArray := if cutF c s = true then s.extract ((Lib.indexByte (byL s) c).toNat + 1) s.size else ⟨#[]⟩
theorem index_lt {c : UInt8} {l : List UInt8} {m : Nat} (h : Lib.indexByte l c = m) : m < l.length := by
 have h1 := congrArg List.length (index_cut h).1
 have h2 : (l.take m).length ≤ m := by rw [List.length_take]; omega
 rw [List.length_append, List.length_cons, List.length_take, List.length_drop] at h1
 omega
theorem cut_at {c : UInt8} {s : ByteArray} (h : cutF c s = true) : ∃ m : Nat, Lib.indexByte (byL s) c = m ∧ m < s.size ∧ cutA c s = s.extract 0 m ∧ cutB c s = s.extract (m + 1) s.size := by
 have h0 : 0 ≤ Lib.indexByte (byL s) c := of_decide_eq_true h
 refine ⟨(Lib.indexByte (byL s) c).toNat, by omega, ?_, by rw [cutA, if_pos h], by rw [cutB, if_pos h]⟩
 have := index_lt (l := byL s) (c := c) (m := (Lib.indexByte (byL s) c).toNat) (by omega)
 rwa [byL_len] at this
theorem cut_no {c : UInt8} {s : ByteArray} (h : cutF c s = false) : cutA c s = s ∧ cutB c s = ⟨#[]⟩ := ⟨by rw [cutA, if_neg (by rw [h]; simp)], by rw [cutB, if_neg (by rw [h]; simp)]⟩
theorem cut_sizes {c : UInt8} {s : ByteArray} (h : cutF c s = true) : (cutA c s).size + 1 + (cutB c s).size = s.size := by
 obtain ⟨m, h1, h2, h3, h4⟩ := cut_at h
 rw [h3, h4, ByteArray.size_extract, ByteArray.size_extract]; omega
theorem stringslite_CutB {s : ByteArray} {c : UInt8} (hs : s.size ≤ 100000000) :
  SpecN Tryz.prog 155 [avS s, avS ⟨#[c]⟩] (fun y => y = .tup [avS (cutA c s), avS (cutB c s), avB (cutF c s)]) := by
 refine SpecN.of_VCN Tryz.func155 rfl Tryz.ntmps155 (Nle rfl) fun w A hB => ?_
 refine VC.seq ?_
 have hc1 : (⟨#[c]⟩ : ByteArray).size = 1 := rfl
 refine VC.region ?_
 refine VO.ma rfl rfl rfl rfl ?_
 refine VO.ma rfl rfl rfl rfl ?_
 refine VO.ma rfl rfl rfl rfl ?_
 refine VO.nil ?_
 refine VC.seq ?_
 refine VC.sr ?_
 refine VO.mv rfl rfl rfl rfl ?_
 refine VO.mv rfl rfl rfl rfl ?_
 refine VO.op rfl (OpE.call rfl hB rfl Tryz.call228 rfl (SpecN.spec (stringslite_Index_S)) ?_)
 rintro _ rfl
 obtain ⟨v, hv⟩ : ∃ v, Lib.indexByte (byL s) c = v := ⟨_, rfl⟩
 rw [hv]
 refine VO.ma rfl rfl rfl rfl ?_
 refine VO.nil ?_
 refine VC.sr ?_
 refine VO.mv rfl rfl rfl rfl ?_
 refine VO.val rfl rfl (OpV.geq rfl rfl rfl) ?_
 refine VO.nil ?_
 refine VC.cond rfl (fun h0b => ?_) (fun h0b => ?_)
 ·have h0 := h0b
  try simp only [qq] at h0
  have hcf : cutF c s = true := by unfold cutF; rw [hv]; exact decide_eq_true h0
  obtain ⟨m, hm1, hm2, hm3, hm4⟩ := cut_at hcf
  obtain rfl : v = m := by rw [← hv, hm1]
  refine VC.seq ?_
  refine VC.draw (fun _ => NoB) hB (by kernel_rfl) ?_
  refine VA.take (i := 0) rfl (by kernel_rfl) (by kernel_rfl) (by kernel_rfl) rfl rfl (OpV.move (.inl rfl) rfl) ?_
  refine VA.take (i := 1) rfl (by kernel_rfl) (by kernel_rfl) (by kernel_rfl) rfl rfl (OpV.move (.inl rfl) rfl) ?_
  refine VA.take (i := 2) rfl (by kernel_rfl) (by kernel_rfl) (by kernel_rfl) rfl rfl (OpV.slice_s (h := m) rfl Tryz.underlying9 rfl rfl ⟨_, _, rfl, by omega⟩ (by omega) (by omega)) ?_
  refine VA.take (i := 3) rfl (by kernel_rfl) (by kernel_rfl) (by kernel_rfl) rfl rfl (OpV.move (.inl rfl) rfl) ?_
  refine VA.take (i := 4) rfl (by kernel_rfl) (by kernel_rfl) (by kernel_rfl) rfl rfl (OpV.move (.inl rfl) rfl) ?_
  refine VA.take (i := 5) rfl (by kernel_rfl) (by kernel_rfl) (by kernel_rfl) rfl rfl (OpV.move (.inl rfl) rfl) ?_
  refine VA.take (i := 6) rfl (by kernel_rfl) (by kernel_rfl) (by kernel_rfl) rfl rfl (OpV.len_s rfl Tryz.underlying9 rfl) ?_
  refine VA.take (i := 7) rfl (by kernel_rfl) (by kernel_rfl) (by kernel_rfl) rfl rfl (OpV.add rfl rfl rfl (by unfold fits; omega)) ?_
  refine VA.take (i := 8) rfl (by kernel_rfl) (by kernel_rfl) (by kernel_rfl) rfl rfl (OpV.slice_s (l := m + 1) rfl Tryz.underlying9 rfl ⟨_, _, rfl, by omega⟩ rfl (by omega) (by omega)) ?_
  refine VA.take (i := 9) rfl (by kernel_rfl) (by kernel_rfl) (by kernel_rfl) rfl rfl (OpV.move (.inr rfl) rfl) ?_
  refine VA.take (i := 10) rfl (by kernel_rfl) (by kernel_rfl) (by kernel_rfl) rfl rfl (OpV.move (.inr rfl) rfl) ?_
  refine VA.take (i := 11) rfl (by kernel_rfl) (by kernel_rfl) (by kernel_rfl) rfl rfl (OpV.move (.inr rfl) rfl) ?_
  refine VA.done (by kernel_rfl) ?_
  refine VC.ret ?_
  exact Exists.intro _ (And.intro (RetN.three Tryz.results155 (ResN.v rfl) (ResN.v rfl) (ResN.v rfl)) (by rw [hm3, hm4, hcf]))
 ·have h0 := h0b
  try simp only [qq] at h0
  have hcf : cutF c s = false := by unfold cutF; rw [hv]; exact decide_eq_false (by omega)
  have hcn := cut_no hcf
  refine VC.skip ?_
  refine VC.sr ?_
  refine VO.mv rfl rfl rfl rfl ?_
  refine VO.ma rfl rfl rfl rfl ?_
  refine VO.ma rfl rfl rfl rfl ?_
  refine VO.ma rfl rfl rfl rfl ?_
  refine VO.nil ?_
  refine VC.ret ?_
  exact Exists.intro _ (And.intro (RetN.three Tryz.results155 (ResN.v rfl) (ResN.v rfl) (ResN.v rfl)) (by rw [hcn.1, hcn.2, hcf]))
theorem strings_CutB {s : ByteArray} {c : UInt8} (hs : s.size ≤ 100000000) :
  SpecN Tryz.prog 67 [avS s, avS ⟨#[c]⟩] (fun y => y = .tup [avS (cutA c s), avS (cutB c s), avB (cutF c s)]) := by
 refine SpecN.of_VCN Tryz.func67 rfl Tryz.ntmps67 (Nle rfl) fun w A hB => ?_
 refine VC.sr ?_
 refine VO.ma rfl rfl rfl rfl ?_
 refine VO.ma rfl rfl rfl rfl ?_
 refine VO.ma rfl rfl rfl rfl ?_
 refine VO.nil ?_
 refine VC.sr ?_
 refine VO.mv rfl rfl rfl rfl ?_
 refine VO.mv rfl rfl rfl rfl ?_
 refine VO.op rfl (OpE.call rfl hB rfl Tryz.call155 rfl (SpecN.spec (stringslite_CutB hs)) ?_)
 rintro _ rfl
 refine VO.val rfl rfl (OpV.extract rfl rfl rfl) ?_
 refine VO.val rfl rfl (OpV.extract rfl rfl rfl) ?_
 refine VO.val rfl rfl (OpV.extract rfl rfl rfl) ?_
 refine VO.ma rfl rfl rfl rfl ?_
 refine VO.ma rfl rfl rfl rfl ?_
 refine VO.ma rfl rfl rfl rfl ?_
 refine VO.nil ?_
 refine VC.ret ?_
 exact Exists.intro _ (And.intro (RetN.three Tryz.results67 (ResN.v rfl) (ResN.v rfl) (ResN.v rfl)) (rfl))
theorem lines_yes {s : ByteArray} (h : cutF 10 s = true) : linesR s = cutA 10 s :: linesR (cutB 10 s) ∧ linesE s = linesE (cutB 10 s) := by
 obtain ⟨m, h1, h2, h3, h4⟩ := cut_at h
 rw [h3, h4]; exact lines_some h1
theorem lines_no {s : ByteArray} (h0 : sEq s ⟨#[]⟩ = false) (h : cutF 10 s = false) : linesR s = [s] ∧ linesE s = false := lines_none h0 (by have := of_decide_eq_false h; omega)
theorem lines_last {s : ByteArray} (h : linesE s = false) : 0 < (linesR s).length := by
 cases h0 : sEq s ⟨#[]⟩ with
 | true => rw [sEq_eq.1 h0, lines_nil.2] at h; cases h
 | false =>
  cases hc : cutF 10 s with
  | true => rw [(lines_yes hc).1]; exact Nat.succ_pos _
  | false => rw [(lines_no h0 hc).1]; exact Nat.succ_pos _
abbrev okAt (ok : List ByteArray → ByteArray → Bool) (ls : List ByteArray) : Nat → ByteArray → Bool := fun i x => ok (ls.take i) x
structure LnI (ok : List ByteArray → ByteArray → Bool) (text : ByteArray) (pre : List ByteArray) (r : ByteArray) : Prop where
 eq : linesR text = pre ++ linesR r
 en : linesE text = linesE r
 good : ∀ j, j < pre.length → lnBad (okAt ok (linesR text)) (linesR text) (linesE text) j = false
 size : pre.length + r.size ≤ text.size
section
variable {ok : List ByteArray → ByteArray → Bool} {text r : ByteArray} {pre : List ByteArray}
theorem LnI.start (text : ByteArray) : LnI ok text [] text := ⟨rfl, rfl, fun j hj => absurd hj (Nat.not_lt_zero j), by simp⟩
theorem LnI.at_ (h : LnI ok text pre r) {x : ByteArray} {l : List ByteArray} (hl : linesR r = x :: l) : (linesR text).take pre.length = pre ∧ (linesR text).getD pre.length ByteArray.empty = x ∧ pre.length < (linesR text).length := by
 rw [h.eq, hl]
 refine ⟨by simp, by simp [List.getD_eq_getElem?_getD], by simp⟩
theorem LnI.step (h : LnI ok text pre r) (hc : cutF 10 r = true) (ho : ok pre (cutA 10 r) = true) : LnI ok text (pre ++ [cutA 10 r]) (cutB 10 r) := by
 obtain ⟨h1, h2⟩ := lines_yes hc
 obtain ⟨k1, k2, k3⟩ := h.at_ h1
 refine ⟨by rw [h.eq, h1, List.append_assoc]; rfl, h.en.trans h2, fun j hj => ?_, ?_⟩
 ·by_cases hj2 : j < pre.length
  ·exact h.good j hj2
  ·obtain rfl : j = pre.length := by rw [List.length_append] at hj; simp at hj; omega
   unfold lnBad okAt
   rw [k1, k2, ho]
   cases he : linesE text with
   | true => rfl
   | false =>
    have h3 := lines_last (h2.symm.trans (h.en.symm.trans he))
    have h4 : (linesR text).length = pre.length + (1 + (linesR (cutB 10 r)).length) := by rw [h.eq, h1, List.length_append, List.length_cons]; omega
    rw [decide_eq_false (by omega)]; rfl
 ·have := cut_sizes hc
  have := h.size
  rw [List.length_append]; simp; omega
end
end
section
section
variable {P : Program} {B : Bs} {W : Nat → Prop} {s : St'} {o : Oper}
theorem OpV.inil {x : Operand} {t u : TypeId} (ho : o.op = .binOp .eql t x (.const .nilIface) u) (hu : P.underlying t = some (.interface (P.methodsAt t))) (hx : evO s x = some (.v .nilIface)) : OpV P B W s o (avB true) :=
 OpV.conc (fun a w hr w' hcw => by
  have e := run_eql_nil_nil (P := P) w' t hu
  have e2 : a.eval (.const .nilIface) = .nilIface := rfl
  simp [execOp, ho, hr.evv hx, eqGuard, e2]
  rw [e]
  rfl)
end
theorem strconv_Atoi_S {d : ByteArray} {n : Int} (hl : d.size ≤ 18) (h : Lib.atoi (byL d) = some n) : SpecN Tryz.prog 66 [avS d] (fun y => y = .tup [avI n, .v .nilIface]) := by
 intro w us ha
 rw [args1 ha]
 refine (Tryz.strconv_Atoi d n hl h w).mono ?_
 rintro e w' ⟨rfl, t, rfl⟩
 refine ⟨_, _, rfl, rfl, .tup _ _ rfl fun q hq => ?_, .ofBelowN (Lib.bytesWorld_below w _ t), trivial⟩
 match q, hq with
 | 0, _ => exact .v _
 | 1, _ => exact .v _
abbrev digsB : List UInt8 := [48, 49, 50, 51, 52, 53, 54, 55, 56, 57]
def trimD (d : ByteArray) : ByteArray := ⟨(Lib.trimS (byL d) digsB).toArray⟩
def zerD (d : ByteArray) : Bool := decide ((byL d).getD 0 0 = 48)
def badD (d : ByteArray) (neg : Bool) (most : Int) : Bool := sEq d ⟨#[]⟩ || (decide (most < d.size) || (!sEq (trimD d) ⟨#[]⟩ || (zerD d && (decide ((1 : Int) < d.size) || neg))))
theorem trimD_all {d : ByteArray} (h : sEq (trimD d) ⟨#[]⟩ = true) : (byL d).all (inB digsB) = true := by
 rw [← trimS_all]
 have := sEq_eq.1 h
 have h2 := congrArg (fun p : ByteArray => p.data.toList) this
 simpa [trimD] using h2
theorem dig_val {b : UInt8} (h : inB digsB b = true) : ∃ k, Lib.digitVal b = some k := by
 have hc := inB_contains digsB b
 rw [h] at hc
 have h2 : b ∈ digsB := by simpa using hc.symm
 unfold Lib.digitVal
 simp [digsB] at h2
 rcases h2 with rfl | rfl | rfl | rfl | rfl | rfl | rfl | rfl | rfl | rfl <;> exact ⟨_, rfl⟩
theorem decFrom_all : ∀ {l : List UInt8} (acc : Nat), l.all (inB digsB) = true → ∃ n, Lib.decFrom acc l = some n
 | [], acc, _ => ⟨acc, rfl⟩
 | b :: r, acc, h => by
  rw [List.all_cons, Bool.and_eq_true] at h
  obtain ⟨k, hk⟩ := dig_val h.1
  unfold Lib.decFrom
  rw [hk]
  exact decFrom_all _ h.2
theorem dig_lt {b : UInt8} {k : Nat} (h : Lib.digitVal b = some k) : k ≤ 9 := by
 unfold Lib.digitVal at h
 split at h
 ·injection h with h; omega
 ·cases h
theorem decFrom_lt : ∀ {l : List UInt8} {acc n : Nat}, Lib.decFrom acc l = some n → n < (acc + 1) * 10 ^ l.length
 | [], acc, n, h => by
  unfold Lib.decFrom at h
  injection h with h; subst h; simp
 | b :: r, acc, n, h => by
  unfold Lib.decFrom at h
  cases hk : Lib.digitVal b with
  | none => rw [hk] at h; cases h
  | some k =>
   rw [hk] at h
   have h1 := decFrom_lt (l := r) h
   have h2 := dig_lt hk
   rw [List.length_cons, Nat.pow_succ']
   refine Nat.lt_of_lt_of_le h1 ?_
   rw [← Nat.mul_assoc]
   exact Nat.mul_le_mul_right _ (by omega)
theorem atoi_lt {l : List UInt8} {n : Nat} (h : l.all (inB digsB) = true) (ha : Lib.atoi l = some (n : Int)) (hl : l.length ≤ 18) : n < 10 ^ 18 := by
 cases l with
 | nil => cases ha
 | cons b r =>
  obtain ⟨m, e⟩ := decFrom_all 0 h
  rw [List.all_cons, Bool.and_eq_true] at h
  have hb : b ≠ 45 ∧ b ≠ 43 := by
   have hc := inB_contains digsB b
   rw [h.1] at hc
   constructor <;> (rintro rfl; simp at hc)
  have e1 : (b == 45) = false := by simpa using hb.1
  have e2 : (b == 43) = false := by simpa using hb.2
  simp only [Lib.atoi, e1, e2, Bool.false_eq_true, if_false, Lib.decNat, List.isEmpty_cons, e, Option.map_some, Option.some.injEq, Int.natCast_inj] at ha
  subst ha
  have h1 := decFrom_lt e
  rw [Nat.zero_add, Nat.one_mul] at h1
  exact Nat.lt_of_lt_of_le h1 (Nat.pow_le_pow_right (by decide) hl)
theorem atoi_all {l : List UInt8} (h : l.all (inB digsB) = true) (hn : l ≠ []) : ∃ n : Nat, Lib.atoi l = some (n : Int) := by
 cases l with
 | nil => exact absurd rfl hn
 | cons b r =>
  obtain ⟨n, e⟩ := decFrom_all 0 h
  rw [List.all_cons, Bool.and_eq_true] at h
  have hb : b ≠ 45 ∧ b ≠ 43 := by
   have hc := inB_contains digsB b
   rw [h.1] at hc
   constructor <;> (rintro rfl; simp at hc)
  have e1 : (b == 45) = false := by simpa using hb.1
  have e2 : (b == 43) = false := by simpa using hb.2
  refine ⟨n, ?_⟩
  simp only [Lib.atoi, e1, e2, Bool.false_eq_true, if_false, Lib.decNat, List.isEmpty_cons, e]
  rfl
def dOf (s : ByteArray) : ByteArray := bytesOf (Lib.trimPrefix (byL s) [45])
def negOf (s : ByteArray) : Bool := Lib.hasPrefix (byL s) [45]
def valD (d : ByteArray) : Int := (Lib.atoi (byL d)).getD 0
def numE (s : ByteArray) (most : Int) : Bool := !badD (dOf s) (negOf s) most
def numV (s : ByteArray) (most : Int) : Int := if badD (dOf s) (negOf s) most = true then 0 else if negOf s = true then -valD (dOf s) else valD (dOf s)
theorem dOf_size (s : ByteArray) : (dOf s).size ≤ s.size := by
 rw [← byL_len, ← byL_len]
 show ((Lib.trimPrefix (byL s) [45]).toArray.toList).length ≤ _
 unfold Lib.trimPrefix
 split <;> simp
theorem dig0 {d : ByteArray} (hp : 0 < d.size) : decide ((d[0].toNat : Int) = 48) = decide ((byL d).getD 0 0 = 48) := by
 have h := byteAt hp
 rw [← h]
 congr 1
 refine propext ⟨fun e => ?_, fun e => ?_⟩
 ·rw [e]; rfl
 ·have := congrArg UInt8.toNat e
  simp at this
  omega
theorem bad_ok {d : ByteArray} {neg : Bool} {most : Int} (h : badD d neg most = false) : sEq d ⟨#[]⟩ = false ∧ d.size ≤ most ∧ sEq (trimD d) ⟨#[]⟩ = true := by
 unfold badD at h
 simp only [Bool.or_eq_false_iff, decide_eq_false_iff_not, Bool.not_eq_false', Int.not_lt] at h
 exact ⟨h.1, h.2.1, h.2.2.1⟩
theorem bad_val {d : ByteArray} {neg : Bool} {most : Int} (hm : most ≤ 18) (h : badD d neg most = false) : ∃ n : Nat, Lib.atoi (byL d) = some (n : Int) ∧ valD d = n ∧ n < 1000000000000000000 := by
 obtain ⟨h1, h2, h3⟩ := bad_ok h
 obtain ⟨n, e⟩ := atoi_all (trimD_all h3) (fun e => by
  have := byL_len d
  rw [e] at this
  have hp := pos_of_ne (p := d) h1
  simp at this; omega)
 exact ⟨n, e, by rw [valD, e]; rfl, atoi_lt (trimD_all h3) e (by rw [byL_len]; omega)⟩
set_option maxHeartbeats 4000000 in
theorem kit_Number {s : ByteArray} {most : Int} (hs : s.size ≤ 100000000) (h0 : 0 ≤ most) (hm : most ≤ 18) :
  SpecN Tryz.prog 221 [avS s, avI most] (fun y => y = .tup [avI (numV s most), avB (numE s most)]) := by
 refine SpecN.of_VCN Tryz.func221 rfl Tryz.ntmps221 (Nle rfl) fun w A hB => ?_
 refine VC.sr ?_
 refine VO.ma rfl rfl rfl rfl ?_
 refine VO.ma rfl rfl rfl rfl ?_
 refine VO.nil ?_
 refine VC.sr ?_
 refine VO.mv rfl rfl rfl rfl ?_
 refine VO.op rfl (OpE.call rfl hB rfl Tryz.call295 rfl (SpecN.spec (strings_CutPrefix_S (p := ⟨#[45]⟩))) ?_)
 rintro _ rfl
 obtain ⟨d, hd⟩ : ∃ d, dOf s = d := ⟨_, rfl⟩
 obtain ⟨neg, hng⟩ : ∃ b, negOf s = b := ⟨_, rfl⟩
 have hds : d.size ≤ s.size := by rw [← hd]; exact dOf_size s
 refine VO.le _ (Le.recast (t := 12) (y := .tup [avS d, avB neg]) rfl (fun w Z u h => by rw [← hd, ← hng]; exact h)) ?_
 refine VO.mv rfl rfl rfl rfl ?_
 refine VO.val rfl rfl (OpV.extract rfl rfl rfl) ?_
 refine VO.val rfl rfl (OpV.extract rfl rfl rfl) ?_
 refine VO.ma rfl rfl rfl rfl ?_
 refine VO.ma rfl rfl rfl rfl ?_
 refine VO.nil ?_
 refine VC.seq ?_
 refine VC.sr ?_
 refine VO.mv rfl rfl rfl rfl ?_
 refine VO.val rfl rfl (OpV.seql rfl rfl rfl) ?_
 refine VO.mv rfl rfl rfl rfl ?_
 refine VO.opG rfl rfl rfl rfl (fun aK1b => ?_) (fun aK1b => ?_)
 ·replace aK1b : _ = false := aK1b
  have aK1 := aK1b
  try simp only [qq] at aK1
  refine OpE.val (W := NoB) (OpV.move (.inl rfl) rfl) rfl ?_
  refine VO.opY rfl rfl rfl rfl aK1b ?_
  refine OpE.val (W := NoB) (OpV.len_s rfl Tryz.underlying9 rfl) rfl ?_
  refine VO.opY rfl rfl rfl rfl aK1b ?_
  refine OpE.val (W := NoB) (OpV.move (.inl rfl) rfl) rfl ?_
  refine VO.opY rfl rfl rfl rfl aK1b ?_
  refine OpE.val (W := NoB) (OpV.gtr rfl rfl rfl) rfl ?_
  refine VO.val rfl rfl (OpV.pickF rfl rfl rfl rfl aK1b) ?_
  refine VO.mv rfl rfl rfl rfl ?_
  refine VO.opG rfl rfl rfl rfl (fun aK2b => ?_) (fun aK2b => ?_)
  ·replace aK2b : _ = false := aK2b
   have aK2 := aK2b
   try simp only [qq] at aK2
   refine OpE.val (W := NoB) (OpV.move (.inl rfl) rfl) rfl ?_
   refine VO.opY rfl rfl rfl rfl aK2b ?_
   refine OpE.call rfl hB rfl Tryz.call296 rfl (SpecN.spec (strings_Trim_S (s := d) (by omega) (by decide) (ascii_of_all (by decide)))) ?_
   rintro _ rfl
   refine VO.le _ (Le.recast (t := 25) (y := avS (trimD d)) rfl (fun w Z u h => h)) ?_
   refine VO.opY rfl rfl rfl rfl aK2b ?_
   refine OpE.val (W := NoB) (OpV.sneq rfl rfl rfl) rfl ?_
   refine VO.val rfl rfl (OpV.pickF rfl rfl rfl rfl aK2b) ?_
   refine VO.mv rfl rfl rfl rfl ?_
   refine VO.opG rfl rfl rfl rfl (fun aK3b => ?_) (fun aK3b => ?_)
   ·replace aK3b : _ = false := aK3b
    have aK3 := aK3b
    try simp only [qq] at aK3
    refine OpE.val (W := NoB) (OpV.move (.inl rfl) rfl) rfl ?_
    refine VO.opY rfl rfl rfl rfl aK3b ?_
    refine OpE.val (W := NoB) (OpV.index_s rfl Tryz.underlying9 rfl rfl (by omega) (by have h := pos_of_ne (p := d) (by assumption); simpa using h)) rfl ?_
    refine VO.opY rfl rfl rfl rfl aK3b ?_
    refine OpE.val (W := NoB) (OpV.eql rfl rfl rfl) rfl ?_
    have hp0 : 0 < d.size := pos_of_ne (p := d) (by assumption)
    refine VO.le _ (Le.recast (t := 31) (y := avB (zerD d)) rfl (fun w Z u h => by rw [zerD, ← dig0 hp0]; exact h)) ?_
    refine VO.opY rfl rfl rfl rfl aK3b ?_
    refine OpE.val (W := NoB) (OpV.move (.inl rfl) rfl) rfl ?_
    refine VO.opG rfl rfl rfl rfl (fun aK4b => ?_) (fun aK4b => ?_)
    ·replace aK4b : _ = true := aK4b
     have aK4 := aK4b
     try simp only [qq] at aK4
     refine OpE.val (W := NoB) (OpV.move (.inl rfl) rfl) rfl ?_
     refine VO.opY rfl rfl rfl rfl aK4b ?_
     refine OpE.val (W := NoB) (OpV.len_s rfl Tryz.underlying9 rfl) rfl ?_
     refine VO.opY rfl rfl rfl rfl aK4b ?_
     refine OpE.val (W := NoB) (OpV.gtr rfl rfl rfl) rfl ?_
     refine VO.opY rfl rfl rfl rfl aK4b ?_
     refine OpE.val (W := NoB) (OpV.move (.inl rfl) rfl) rfl ?_
     refine VO.opG rfl rfl rfl rfl (fun aK5b => ?_) (fun aK5b => ?_)
     ·replace aK5b : _ = false := aK5b
      have aK5 := aK5b
      try simp only [qq] at aK5
      refine OpE.val (W := NoB) (OpV.move (.inl rfl) rfl) rfl ?_
      refine VO.opY rfl rfl rfl rfl aK4b ?_
      refine OpE.val (W := NoB) (OpV.pickF rfl rfl rfl rfl aK5b) rfl ?_
      refine VO.opY rfl rfl rfl rfl aK3b ?_
      refine OpE.val (W := NoB) (OpV.pickT rfl rfl rfl rfl aK4b) rfl ?_
      refine VO.val rfl rfl (OpV.pickF rfl rfl rfl rfl aK3b) ?_
      refine VO.nil ?_
      refine VC.cond rfl (fun aH6b => ?_) (fun aH6b => ?_)
      ·have aH6 := aH6b
       try simp only [qq] at aH6
       have hbad : badD d neg most = true := by simp [badD, *]
       refine VC.sr ?_
       refine VO.ma rfl rfl rfl rfl ?_
       refine VO.ma rfl rfl rfl rfl ?_
       refine VO.nil ?_
       refine VC.ret ?_
       exact Exists.intro _ (And.intro (RetN.two Tryz.results221 (ResN.v rfl) (ResN.v rfl)) (by rw [numV, numE, hd, hng, hbad]; rfl))
      ·have aH6 := aH6b
       try simp only [qq] at aH6
       have hbad : badD d neg most = false := by simp [badD, *]
       obtain ⟨n, hn1, hn2, hn3⟩ := bad_val hm hbad
       have hb3 := bad_ok hbad
       refine VC.skip ?_
       refine VC.sr ?_
       refine VO.mv rfl rfl rfl rfl ?_
       refine VO.op rfl (OpE.call rfl hB rfl Tryz.call66 rfl (SpecN.spec (strconv_Atoi_S (n := (n : Int)) (by omega) hn1)) ?_)
       rintro _ rfl
       refine VO.mv rfl rfl rfl rfl ?_
       refine VO.val rfl rfl (OpV.extract rfl rfl rfl) ?_
       refine VO.val rfl rfl (OpV.extract rfl rfl rfl) ?_
       refine VO.ma rfl rfl rfl rfl ?_
       refine VO.ma rfl rfl rfl rfl ?_
       refine VO.nil ?_
       refine VC.seq ?_
       refine VC.sr ?_
       refine VO.mv rfl rfl rfl rfl ?_
       refine VO.nil ?_
       refine VC.condF rfl aH6b ?_
       refine VC.skip ?_
       refine VC.seq ?_
       refine VC.draw (fun _ => NoB) hB (by kernel_rfl) ?_
       refine VA.take (i := 0) rfl (by kernel_rfl) (by kernel_rfl) (by kernel_rfl) rfl rfl (OpV.move (.inl rfl) rfl) ?_
       refine VA.take (i := 1) rfl (by kernel_rfl) (by kernel_rfl) (by kernel_rfl) rfl rfl (OpV.move (.inl rfl) rfl) ?_
       refine VA.take (i := 2) rfl (by kernel_rfl) (by kernel_rfl) (by kernel_rfl) rfl rfl (OpV.inil rfl (by first | exact Tryz.underlying141 | kernel_rfl) rfl) ?_
       refine VA.take (i := 3) rfl (by kernel_rfl) (by kernel_rfl) (by kernel_rfl) rfl rfl (OpV.move (.inr rfl) rfl) ?_
       refine VA.take (i := 4) rfl (by kernel_rfl) (by kernel_rfl) (by kernel_rfl) rfl rfl (OpV.move (.inr rfl) rfl) ?_
       refine VA.done (by kernel_rfl) ?_
       refine VC.ret ?_
       exact Exists.intro _ (And.intro (RetN.two Tryz.results221 (ResN.v rfl) (ResN.v rfl)) (by first | (rw [numV, numE, hd, hng, hbad, h1, hn2]; rfl) | (rw [numV, numE, hd, hng, hbad, hn2]; simp [*])))
     ·replace aK5b : _ = true := aK5b
      have aK5 := aK5b
      try simp only [qq] at aK5
      refine VO.opY rfl rfl rfl rfl aK4b ?_
      refine OpE.val (W := NoB) (OpV.pickT rfl rfl rfl rfl aK5b) rfl ?_
      refine VO.opY rfl rfl rfl rfl aK3b ?_
      refine OpE.val (W := NoB) (OpV.pickT rfl rfl rfl rfl aK4b) rfl ?_
      refine VO.val rfl rfl (OpV.pickF rfl rfl rfl rfl aK3b) ?_
      refine VO.nil ?_
      refine VC.condT rfl rfl ?_
      have hbad : badD d neg most = true := by simp [badD, *]
      refine VC.sr ?_
      refine VO.ma rfl rfl rfl rfl ?_
      refine VO.ma rfl rfl rfl rfl ?_
      refine VO.nil ?_
      refine VC.ret ?_
      exact Exists.intro _ (And.intro (RetN.two Tryz.results221 (ResN.v rfl) (ResN.v rfl)) (by rw [numV, numE, hd, hng, hbad]; rfl))
    ·replace aK4b : _ = false := aK4b
     have aK4 := aK4b
     try simp only [qq] at aK4
     refine VO.opX rfl rfl rfl rfl aK4b ?_
     refine VO.opX rfl rfl rfl rfl aK4b ?_
     refine VO.opX rfl rfl rfl rfl aK4b ?_
     refine VO.opU rfl rfl rfl rfl ?_
     refine VO.opX rfl rfl rfl rfl aK4b ?_
     refine VO.opY rfl rfl rfl rfl aK3b ?_
     refine OpE.val (W := NoB) (OpV.pickF rfl rfl rfl rfl aK4b) rfl ?_
     refine VO.val rfl rfl (OpV.pickF rfl rfl rfl rfl aK3b) ?_
     refine VO.nil ?_
     refine VC.condF rfl rfl ?_
     have hbad : badD d neg most = false := by simp [badD, *]
     obtain ⟨n, hn1, hn2, hn3⟩ := bad_val hm hbad
     have hb3 := bad_ok hbad
     refine VC.skip ?_
     refine VC.sr ?_
     refine VO.mv rfl rfl rfl rfl ?_
     refine VO.op rfl (OpE.call rfl hB rfl Tryz.call66 rfl (SpecN.spec (strconv_Atoi_S (n := (n : Int)) (by omega) hn1)) ?_)
     rintro _ rfl
     refine VO.mv rfl rfl rfl rfl ?_
     refine VO.val rfl rfl (OpV.extract rfl rfl rfl) ?_
     refine VO.val rfl rfl (OpV.extract rfl rfl rfl) ?_
     refine VO.ma rfl rfl rfl rfl ?_
     refine VO.ma rfl rfl rfl rfl ?_
     refine VO.nil ?_
     refine VC.seq ?_
     refine VC.sr ?_
     refine VO.mv rfl rfl rfl rfl ?_
     refine VO.nil ?_
     refine VC.cond rfl (fun h1b => ?_) (fun h1b => ?_)
     ·have h1 := h1b
      try simp only [qq] at h1
      refine VC.region ?_
      refine VO.mv rfl rfl rfl rfl ?_
      refine VO.val rfl rfl (OpV.neg rfl rfl (by unfold fits; omega)) ?_
      refine VO.ma rfl rfl rfl rfl ?_
      refine VO.nil ?_
      refine VC.seq ?_
      refine VC.draw (fun _ => NoB) hB (by kernel_rfl) ?_
      refine VA.take (i := 0) rfl (by kernel_rfl) (by kernel_rfl) (by kernel_rfl) rfl rfl (OpV.move (.inl rfl) rfl) ?_
      refine VA.take (i := 1) rfl (by kernel_rfl) (by kernel_rfl) (by kernel_rfl) rfl rfl (OpV.move (.inl rfl) rfl) ?_
      refine VA.take (i := 2) rfl (by kernel_rfl) (by kernel_rfl) (by kernel_rfl) rfl rfl (OpV.inil rfl (by first | exact Tryz.underlying141 | kernel_rfl) rfl) ?_
      refine VA.take (i := 3) rfl (by kernel_rfl) (by kernel_rfl) (by kernel_rfl) rfl rfl (OpV.move (.inr rfl) rfl) ?_
      refine VA.take (i := 4) rfl (by kernel_rfl) (by kernel_rfl) (by kernel_rfl) rfl rfl (OpV.move (.inr rfl) rfl) ?_
      refine VA.done (by kernel_rfl) ?_
      refine VC.ret ?_
      exact Exists.intro _ (And.intro (RetN.two Tryz.results221 (ResN.v rfl) (ResN.v rfl)) (by first | (rw [numV, numE, hd, hng, hbad, h1, hn2]; rfl) | (rw [numV, numE, hd, hng, hbad, hn2]; simp [*])))
     ·have h1 := h1b
      try simp only [qq] at h1
      refine VC.skip ?_
      refine VC.seq ?_
      refine VC.draw (fun _ => NoB) hB (by kernel_rfl) ?_
      refine VA.take (i := 0) rfl (by kernel_rfl) (by kernel_rfl) (by kernel_rfl) rfl rfl (OpV.move (.inl rfl) rfl) ?_
      refine VA.take (i := 1) rfl (by kernel_rfl) (by kernel_rfl) (by kernel_rfl) rfl rfl (OpV.move (.inl rfl) rfl) ?_
      refine VA.take (i := 2) rfl (by kernel_rfl) (by kernel_rfl) (by kernel_rfl) rfl rfl (OpV.inil rfl (by first | exact Tryz.underlying141 | kernel_rfl) rfl) ?_
      refine VA.take (i := 3) rfl (by kernel_rfl) (by kernel_rfl) (by kernel_rfl) rfl rfl (OpV.move (.inr rfl) rfl) ?_
      refine VA.take (i := 4) rfl (by kernel_rfl) (by kernel_rfl) (by kernel_rfl) rfl rfl (OpV.move (.inr rfl) rfl) ?_
      refine VA.done (by kernel_rfl) ?_
      refine VC.ret ?_
      exact Exists.intro _ (And.intro (RetN.two Tryz.results221 (ResN.v rfl) (ResN.v rfl)) (by first | (rw [numV, numE, hd, hng, hbad, h1, hn2]; rfl) | (rw [numV, numE, hd, hng, hbad, hn2]; simp [*])))
   ·replace aK3b : _ = true := aK3b
    have aK3 := aK3b
    try simp only [qq] at aK3
    refine VO.opX rfl rfl rfl rfl aK3b ?_
    refine VO.opX rfl rfl rfl rfl aK3b ?_
    refine VO.opX rfl rfl rfl rfl aK3b ?_
    refine VO.opU rfl rfl rfl rfl ?_
    refine VO.opU rfl rfl rfl rfl ?_
    refine VO.opU rfl rfl rfl rfl ?_
    refine VO.opU rfl rfl rfl rfl ?_
    refine VO.opU rfl rfl rfl rfl ?_
    refine VO.opU rfl rfl rfl rfl ?_
    refine VO.opX rfl rfl rfl rfl aK3b ?_
    refine VO.val rfl rfl (OpV.pickT rfl rfl rfl rfl aK3b) ?_
    refine VO.nil ?_
    refine VC.condT rfl rfl ?_
    have hbad : badD d neg most = true := by simp [badD, *]
    refine VC.sr ?_
    refine VO.ma rfl rfl rfl rfl ?_
    refine VO.ma rfl rfl rfl rfl ?_
    refine VO.nil ?_
    refine VC.ret ?_
    exact Exists.intro _ (And.intro (RetN.two Tryz.results221 (ResN.v rfl) (ResN.v rfl)) (by rw [numV, numE, hd, hng, hbad]; rfl))
  ·replace aK2b : _ = true := aK2b
   have aK2 := aK2b
   try simp only [qq] at aK2
   refine VO.opX rfl rfl rfl rfl aK2b ?_
   refine VO.opX rfl rfl rfl rfl aK2b ?_
   refine VO.val rfl rfl (OpV.pickT rfl rfl rfl rfl aK2b) ?_
   refine VO.mv rfl rfl rfl rfl ?_
   refine VO.opX rfl rfl rfl rfl rfl ?_
   refine VO.opX rfl rfl rfl rfl rfl ?_
   refine VO.opX rfl rfl rfl rfl rfl ?_
   refine VO.opX rfl rfl rfl rfl rfl ?_
   refine VO.opU rfl rfl rfl rfl ?_
   refine VO.opU rfl rfl rfl rfl ?_
   refine VO.opU rfl rfl rfl rfl ?_
   refine VO.opU rfl rfl rfl rfl ?_
   refine VO.opU rfl rfl rfl rfl ?_
   refine VO.opU rfl rfl rfl rfl ?_
   refine VO.opX rfl rfl rfl rfl rfl ?_
   refine VO.val rfl rfl (OpV.pickT rfl rfl rfl rfl rfl) ?_
   refine VO.nil ?_
   refine VC.condT rfl rfl ?_
   have hbad : badD d neg most = true := by simp [badD, *]
   refine VC.sr ?_
   refine VO.ma rfl rfl rfl rfl ?_
   refine VO.ma rfl rfl rfl rfl ?_
   refine VO.nil ?_
   refine VC.ret ?_
   exact Exists.intro _ (And.intro (RetN.two Tryz.results221 (ResN.v rfl) (ResN.v rfl)) (by rw [numV, numE, hd, hng, hbad]; rfl))
 ·replace aK1b : _ = true := aK1b
  have aK1 := aK1b
  try simp only [qq] at aK1
  refine VO.opX rfl rfl rfl rfl aK1b ?_
  refine VO.opX rfl rfl rfl rfl aK1b ?_
  refine VO.opX rfl rfl rfl rfl aK1b ?_
  refine VO.val rfl rfl (OpV.pickT rfl rfl rfl rfl aK1b) ?_
  refine VO.mv rfl rfl rfl rfl ?_
  refine VO.opX rfl rfl rfl rfl rfl ?_
  refine VO.opX rfl rfl rfl rfl rfl ?_
  refine VO.opX rfl rfl rfl rfl rfl ?_
  refine VO.val rfl rfl (OpV.pickT rfl rfl rfl rfl rfl) ?_
  refine VO.mv rfl rfl rfl rfl ?_
  refine VO.opX rfl rfl rfl rfl rfl ?_
  refine VO.opX rfl rfl rfl rfl rfl ?_
  refine VO.opX rfl rfl rfl rfl rfl ?_
  refine VO.opX rfl rfl rfl rfl rfl ?_
  refine VO.opU rfl rfl rfl rfl ?_
  refine VO.opU rfl rfl rfl rfl ?_
  refine VO.opU rfl rfl rfl rfl ?_
  refine VO.opU rfl rfl rfl rfl ?_
  refine VO.opU rfl rfl rfl rfl ?_
  refine VO.opU rfl rfl rfl rfl ?_
  refine VO.opX rfl rfl rfl rfl rfl ?_
  refine VO.val rfl rfl (OpV.pickT rfl rfl rfl rfl rfl) ?_
  refine VO.nil ?_
  refine VC.condT rfl rfl ?_
  have hbad : badD d neg most = true := by simp [badD, *]
  refine VC.sr ?_
  refine VO.ma rfl rfl rfl rfl ?_
  refine VO.ma rfl rfl rfl rfl ?_
  refine VO.nil ?_
  refine VC.ret ?_
  exact Exists.intro _ (And.intro (RetN.two Tryz.results221 (ResN.v rfl) (ResN.v rfl)) (by rw [numV, numE, hd, hng, hbad]; rfl))
end
section
def SpecW (g : World → Prop) (P : Program) (F : FuncId) (xs : List AV) (G : AV → Prop) : Prop :=
 ∀ (w : World) (A : Nat → Prop) (us : Array Value), g w → Args w A xs us → Calls P F us w (Ret w A NoB (fun _ => True) G)
section
variable {P : Program} {B : Bs} {W : Nat → Prop} {s : St'} {o : Oper} {K : St' → Prop}
theorem SpecW.of_VC {g : World → Prop} {F : FuncId} {fn : Func} {c : Code} (hf : P.funcs[F]? = some fn) (hb : fn.body = some c) {xs : List AV} {G : AV → Prop} {nt : Nat} (hn : fn.ntmps = nt) (hle : xs.length ≤ nt)
  (h : ∀ w A, g w → (B0 w A nt).Ok → VC P (B0 w A nt) c (retQ P fn G) ⟨slots0 0 xs, [], 0⟩) : SpecW g P F xs G := fun w A us hg ha =>
 (calls_of_VC (k := 0) hf hb (B := B0 w A nt) rfl hn.symm ha (fun _ h => h.elim) trivial (by omega) (h w A hg (B0.ok _ _ _))).mono fun e w' ⟨y, v, s, a, h1, h2, h3, h4⟩ =>
  ⟨y, v, h1, h2, h3.keep fun b hb _ => ⟨rfl, hb.1, fun hl => (hb.2.2 hl).1.elim id fun h => h.elim⟩, h4.chg, trivial⟩
end
def TabW (P : Program) (w : World) : Prop := Lib.TabIs P w "internal/strconv.uint64pow10" .u64 Lib.pow10Tab
theorem TabW.keep {P : Program} {S : Nat → Prop} {w w' : World} {g : Nat} (hg : P.globalNamed "internal/strconv.uint64pow10" = some g) (h : TabW P w) (c : Chg S w w') (hS : ¬ S g) : TabW P w' := by
 unfold TabW Lib.TabIs World.var? at *
 rw [hg] at h ⊢
 simp only [Option.bind_some] at h ⊢
 have hlt : g < w.heap.size := by
  by_cases hl : g < w.heap.size
  ·exact hl
  ·rw [Array.getElem?_eq_none (by omega)] at h; cases h
 rw [c.block g hlt hS]
 exact h
theorem TabW.base {P : Program} {w : World} {A : Nat → Prop} {nt g : Nat} (hg : P.globalNamed "internal/strconv.uint64pow10" = some g) (h : TabW P w) : ∀ {s a w'}, R (B0 w A nt) s a w' → TabW P w' := fun hr => h.keep hg hr.chg fun h => h
end
section
def itoaS (n : Int) : ByteArray := bytesOf (Lib.itoa n)
end
section
theorem dig_is {b : UInt8} {d : Nat} (h : Lib.digitVal b = some d) : b = UInt8.ofNat (48 + d) ∧ d ≤ 9 ∧ (b = 48 ↔ d = 0) := by
 unfold Lib.digitVal at h
 split at h
 ·rename_i hb
  injection h with h
  have e : b = UInt8.ofNat (48 + d) := by
   apply UInt8.toNat_inj.1
   simp
   omega
  refine ⟨e, by omega, fun e => ?_, fun e' => ?_⟩
  ·subst e; simp at h; omega
  ·subst e'; rw [e]; rfl
 ·cases h
theorem decFrom_snoc : ∀ {l : List UInt8} {acc m d : Nat} {b : UInt8}, Lib.decFrom acc l = some m → Lib.digitVal b = some d → Lib.decFrom acc (l ++ [b]) = some (m * 10 + d)
 | [], acc, m, d, b, h, hb => by
  unfold Lib.decFrom at h
  injection h with h; subst h
  simp [Lib.decFrom, hb]
 | x :: l, acc, m, d, b, h, hb => by
  rw [List.cons_append]
  unfold Lib.decFrom at h ⊢
  cases hx : Lib.digitVal x with
  | none => rw [hx] at h; cases h
  | some k => rw [hx] at h; exact decFrom_snoc h hb
theorem decFrom_ge : ∀ {l : List UInt8} {acc m : Nat}, Lib.decFrom acc l = some m → acc ≤ m
 | [], acc, m, h => by
  unfold Lib.decFrom at h
  injection h with h; omega
 | x :: l, acc, m, h => by
  unfold Lib.decFrom at h
  cases hx : Lib.digitVal x with
  | none => rw [hx] at h; cases h
  | some k =>
   rw [hx] at h
   have := decFrom_ge h
   omega
theorem decFrom_pos {l : List UInt8} {n : Nat} (h : Lib.decFrom 0 l = some n) (h0 : l ≠ []) (h1 : l.getD 0 0 ≠ 48) : 1 ≤ n := by
 cases l with
 | nil => exact absurd rfl h0
 | cons x r =>
  unfold Lib.decFrom at h
  cases hx : Lib.digitVal x with
  | none => rw [hx] at h; cases h
  | some k =>
   rw [hx] at h
   have h2 := decFrom_ge h
   have h3 := (dig_is hx).2.2
   simp at h1
   have : k ≠ 0 := fun e => h1 (h3.2 e)
   omega
theorem dd_head : ∀ u, 1 ≤ u → ∃ b r, Lib.decDigits u = b :: r ∧ b ≠ 48 := fun u => by
 induction u using Nat.strongRecOn with
 | _ u ih =>
  intro hu
  by_cases h : u < 10
  ·refine ⟨_, [], Lib.decDigits_one h, fun e => ?_⟩
   have := congrArg UInt8.toNat e
   simp at this
   omega
  ·obtain ⟨b, r, e, hb⟩ := ih (u / 10) (by omega) (by omega)
   rw [Lib.decDigits, dif_neg h, e]
   exact ⟨b, _, rfl, hb⟩
theorem canon_yes : ∀ {k : Nat} {l : List UInt8} {n : Nat}, l.length = k + 1 → Lib.decFrom 0 l = some n → l.all (inB digsB) = true → (l.length = 1 ∨ l.getD 0 0 ≠ 48) → Lib.decDigits n = l
 | 0, l, n, hl, h, ha, hc => by
  match l, hl with
  | [b], _ =>
   rw [List.all_cons, Bool.and_eq_true] at ha
   obtain ⟨d, hd⟩ := dig_val ha.1
   simp [Lib.decFrom, hd] at h
   subst h
   obtain ⟨e, h9, _⟩ := dig_is hd
   rw [Lib.decDigits_one (by omega), e]
 | k + 1, l, n, hl, h, ha, hc => by
  have hne : l ≠ [] := fun e => by rw [e] at hl; simp at hl
  obtain ⟨l', b, rfl⟩ : ∃ l' b, l = l' ++ [b] := ⟨l.dropLast, l.getLast hne, (List.dropLast_concat_getLast hne).symm⟩
  have hl' : l'.length = k + 1 := by simpa using hl
  rw [List.all_append, Bool.and_eq_true] at ha
  have hb := ha.2
  rw [List.all_cons, Bool.and_eq_true] at hb
  obtain ⟨d, hd⟩ := dig_val hb.1
  obtain ⟨m, hm⟩ := decFrom_all 0 ha.1
  have h2 := decFrom_snoc hm hd
  rw [h] at h2
  injection h2 with h2
  have h0 : (l' ++ [b]).getD 0 0 ≠ 48 := hc.resolve_left (by rw [hl]; omega)
  have hn' : l' ≠ [] := fun e => by rw [e] at hl'; simp at hl'
  have h0' : l'.getD 0 0 ≠ 48 := by
   cases l' with
   | nil => exact absurd rfl hn'
   | cons x r => simpa using h0
  have hp := decFrom_pos hm hn' h0'
  obtain ⟨e, h9, _⟩ := dig_is hd
  have ih := canon_yes hl' hm ha.1 (.inr h0')
  rw [Lib.decDigits, dif_neg (by omega), show n / 10 = m by omega, show n % 10 = d by omega, ih, ← e]
theorem canon_no {l : List UInt8} {n : Nat} (h : Lib.decDigits n = l) : l.length = 1 ∨ l.getD 0 0 ≠ 48 := by
 by_cases h0 : n = 0
 ·subst h0; rw [Lib.decDigits_one (by decide)] at h; subst h; exact .inl rfl
 ·obtain ⟨b, r, e, hb⟩ := dd_head n (by omega)
  rw [e] at h; subst h; exact .inr (by simpa using hb)
theorem canon {l : List UInt8} {n : Nat} (hn : l ≠ []) (h : Lib.decFrom 0 l = some n) (ha : l.all (inB digsB) = true) : Lib.decDigits n = l ↔ (l.length = 1 ∨ l.getD 0 0 ≠ 48) :=
 ⟨canon_no, canon_yes (k := l.length - 1) (by have := List.length_pos_iff.2 hn; omega) h ha⟩
end
section
theorem neg_yes {s : ByteArray} (h : negOf s = true) : byL s = 45 :: byL (dOf s) := by
 have h1 : Lib.hasPrefix (byL s) [45] = true := h
 have e : byL (dOf s) = (byL s).drop 1 := by
  show (Lib.trimPrefix (byL s) [45]).toArray.toList = _
  simp [Lib.trimPrefix, h1]
 rw [e]
 unfold Lib.hasPrefix at h1
 cases hs : byL s with
 | nil => rw [hs] at h1; cases h1
 | cons b r =>
  rw [hs] at h1
  simp [List.isPrefixOf] at h1
  simp [h1]
theorem neg_no {s : ByteArray} (h : negOf s = false) : dOf s = s := by
 have h1 : Lib.hasPrefix (byL s) [45] = false := h
 rw [dOf, Lib.trimPrefix, h1]
 simp [bytesOf]
def nVal (s : ByteArray) : Int := if negOf s = true then -valD (dOf s) else valD (dOf s)
def badR (d : ByteArray) (most : Int) : Bool := sEq d ⟨#[]⟩ || (decide (most < d.size) || !(byL d).all (inB digsB))
theorem badR_ok {d : ByteArray} {most : Int} (h : badR d most = false) : sEq d ⟨#[]⟩ = false ∧ d.size ≤ most ∧ (byL d).all (inB digsB) = true ∧ byL d ≠ [] := by
 unfold badR at h
 simp only [Bool.or_eq_false_iff, decide_eq_false_iff_not, Bool.not_eq_false', Int.not_lt] at h
 refine ⟨h.1, h.2.1, h.2.2, fun e => ?_⟩
 have := byL_len d
 rw [e] at this
 have hp := pos_of_ne (p := d) h.1
 simp at this; omega
theorem nVal_atoi {s : ByteArray} {most : Int} (hm : most ≤ 17) (h : badR (dOf s) most = false) : ∃ n : Nat, Lib.decFrom 0 (byL (dOf s)) = some n ∧ valD (dOf s) = n ∧ n < 1000000000000000000 ∧ Lib.atoi (byL s) = some (nVal s) ∧ s.size ≤ 18 := by
 obtain ⟨h1, h2, h3, h4⟩ := badR_ok h
 obtain ⟨n, e⟩ := decFrom_all 0 h3
 obtain ⟨n', e1⟩ := atoi_all h3 h4
 have hlt := Lib.decFrom_lt18 e (by rw [byL_len]; omega)
 have hnat : Lib.decNat (byL (dOf s)) = some n := by
  unfold Lib.decNat
  rw [if_neg (by simpa using h4), e]
 have hat : Lib.atoi (byL (dOf s)) = some (n : Int) := by
  cases hl : byL (dOf s) with
  | nil => exact absurd hl h4
  | cons b r =>
   rw [hl] at h3 hnat
   rw [List.all_cons, Bool.and_eq_true] at h3
   have hb : b ≠ 45 ∧ b ≠ 43 := by
    have hc := inB_contains digsB b
    rw [h3.1] at hc
    constructor <;> (rintro rfl; simp at hc)
   have e1 : (b == 45) = false := by simpa using hb.1
   have e2 : (b == 43) = false := by simpa using hb.2
   simp only [Lib.atoi, e1, e2, Bool.false_eq_true, if_false, hnat]
   rfl
 have hv : valD (dOf s) = n := by rw [valD, hat]; rfl
 have hsz := byL_len s
 have hdz := byL_len (dOf s)
 refine ⟨n, e, hv, hlt, ?_, ?_⟩
 ·cases hn : negOf s with
  | true =>
   rw [nVal, if_pos hn, neg_yes hn, hv]
   simp only [Lib.atoi, hnat, BEq.rfl, if_true]
   rfl
  | false =>
   rw [nVal, if_neg (by rw [hn]; simp), hv, ← hat, neg_no hn]
 ·cases hn : negOf s with
  | true => rw [neg_yes hn, List.length_cons] at hsz; omega
  | false => rw [neg_no hn] at h2; omega
def rfE (s : ByteArray) (most : Int) : Bool := !badR (dOf s) most && sEq (itoaS (nVal s)) s
def rfV (s : ByteArray) (most : Int) : Int := if badR (dOf s) most = true then 0 else nVal s
end
section
theorem trimD_eq (d : ByteArray) : sEq (trimD d) ⟨#[]⟩ = (byL d).all (inB digsB) := by
 cases h : (byL d).all (inB digsB) with
 | true =>
  rw [trimD, (trimS_all _ _).2 h]; exact sEq_eq.2 rfl
 | false =>
  cases h2 : sEq (trimD d) ⟨#[]⟩ with
  | false => rfl
  | true => rw [trimD_all h2] at h; cases h
theorem badD_eq (d : ByteArray) (neg : Bool) (most : Int) : badD d neg most = (badR d most || (zerD d && (decide ((1 : Int) < d.size) || neg))) := by
 unfold badD badR
 rw [trimD_eq]
 simp only [Bool.or_assoc]
theorem sEq_bytes {l : List UInt8} {s : ByteArray} : sEq (bytesOf l) s = decide (l = byL s) := by
 rw [Bool.eq_iff_iff, sEq_eq, decide_eq_true_eq]
 constructor
 ·rintro rfl; simp [bytesOf, byL]
 ·rintro rfl; exact bytesOf_byL s
theorem zerD_iff {d : ByteArray} : zerD d = true ↔ (byL d).getD 0 0 = 48 := by unfold zerD; rw [decide_eq_true_eq]
theorem num_same (s : ByteArray) (most : Int) (hm : most ≤ 17) : numE s most = rfE s most := by
  unfold numE rfE
  rw [badD_eq]
  cases hb : badR (dOf s) most with
  | true => rfl
  | false =>
    obtain ⟨n, e, hv, hlt, _, _⟩ := nVal_atoi hm hb
    obtain ⟨h1, h2, h3, h4⟩ := badR_ok hb
    have hc := canon h4 e h3
    rw [byL_len] at hc
    have hpos : 0 < (dOf s).size := pos_of_ne h1
    simp only [Bool.false_or, Bool.not_false, Bool.true_and]
    rw [itoaS, sEq_bytes]
    cases hn : negOf s with
    | false =>
      have hs : byL s = byL (dOf s) := by rw [neg_no hn]
      rw [nVal, if_neg (by rw [hn]; simp), hv, Lib.itoa_nonneg, hs]
      cases hz : zerD (dOf s) with
      | true =>
        have hz' := zerD_iff.1 hz
        simp only [Bool.true_and, Bool.or_false]
        rw [← decide_not]
        refine decide_eq_decide.2 ?_
        rw [hc]
        constructor
        · intro h; left; omega
        · rintro (h | h)
          · omega
          · exact absurd hz' h
      | false =>
        have hz' : ¬ (byL (dOf s)).getD 0 0 = 48 := fun h => by rw [zerD_iff.2 h] at hz; cases hz
        simp only [Bool.false_and, Bool.not_false]
        exact (decide_eq_true (hc.2 (.inr hz'))).symm
    | true =>
      rw [nVal, if_pos hn, hv, neg_yes hn]
      simp only [Bool.or_true, Bool.and_true]
      by_cases h0 : n = 0
      · subst h0
        have hz : zerD (dOf s) = true := by
          rw [zerD_iff]
          by_cases hh : (byL (dOf s)).getD 0 0 = 48
          · exact hh
          · have := decFrom_pos e h4 hh; omega
        rw [hz]
        symm
        refine decide_eq_false fun h => ?_
        rw [show -((0 : Nat) : Int) = ((0 : Nat) : Int) by rfl, Lib.itoa_nonneg, Lib.decDigits_one (by decide)] at h
        simp at h
      · rw [Lib.itoa_neg n (by omega)]
        cases hz : zerD (dOf s) with
        | true =>
          have hz' := zerD_iff.1 hz
          symm
          refine decide_eq_false fun h => ?_
          injection h with _ h
          rcases hc.1 h with h5 | h5
          · have hl : (byL (dOf s)).length = 1 := by rw [byL_len]; exact h5
            match hd : byL (dOf s), hl with
            | [b], _ =>
              rw [hd] at hz' e
              simp at hz'
              subst hz'
              simp [Lib.decFrom, Lib.digitVal] at e
              omega
          · exact h5 hz'
        | false =>
          have hz' : ¬ (byL (dOf s)).getD 0 0 = 48 := fun h => by rw [zerD_iff.2 h] at hz; cases hz
          symm
          refine decide_eq_true ?_
          rw [hc.2 (.inr hz')]
theorem numV_same (s : ByteArray) (most : Int) (hm : most ≤ 17) (h : numE s most = true) : numV s most = nVal s ∧ rfV s most = nVal s := by
 have h2 := h
 rw [num_same s most hm] at h2
 unfold numE at h
 unfold rfE at h2
 rw [Bool.and_eq_true] at h2
 constructor
 ·rw [numV, if_neg (by simpa using h)]; rfl
 ·rw [rfV, if_neg (by simpa using h2.1)]
end
section
def joinL (xs : List ByteArray) (sep : ByteArray) : List UInt8 := Lib.join (xs.map (·.data.toList)) sep.data.toList
theorem strings_Join_S {xs : List ByteArray} {sep : ByteArray} (hN : xs.length ≤ 1000000) (hlen : (joinL xs sep).length ≤ 100000000) : SpecN Tryz.prog 217 [avStrs xs, avS sep] (fun y => y = avS (bytesOf (joinL xs sep))) := by
 intro w us ha
 obtain ⟨hsz, hr⟩ := ha
 have h0 : Rep w (fun b => b < w.heap.size ∧ True) (avStrs xs) (us.getD 0 undef) := hr 0 (by simp)
 have h1 : us.getD 1 undef = .string sep := (hr 1 (by simp)).eq_v
 have hus : us = #[us.getD 0 undef, .string sep] := by
  apply Array.ext (by simpa using hsz)
  intro i hi hi'
  simp at hi'
  match i, hi' with
  | 0, _ => simp [Array.getD_eq_getD_getElem?, Array.getElem?_eq_getElem hi]
  | 1, _ =>
   rw [Array.getD_eq_getD_getElem?, Array.getElem?_eq_getElem hi] at h1
   simpa using h1
 generalize us.getD 0 undef = v at h0 hus
 subst hus
 have h2 : Rep w (fun b => b < w.heap.size ∧ True) (.im xs.length 1 fun j => avS (xs.getD j ByteArray.empty)) v := h0
 clear h0 hr hsz h1
 generalize hn : xs.length = n at h2
 cases h2 with
 | nil =>
  have hx : xs = [] := List.length_eq_zero_iff.1 hn
  subst hx
  refine (Tryz.strings_Join_none none 0 sep w).mono ?_
  rintro e w' ⟨rfl, rfl⟩
  exact ⟨_, _, rfl, rfl, .v _, Chg.refl _ _, trivial⟩
 | im n sz f b off cap c e u hZ k1 k2 hb hc hrr =>
  subst hn
  refine (Tryz.strings_Join b off cap xs sep w (fun j x hj => ?_) hZ.1 (by omega) k1 (by unfold joinL at hlen; omega)).mono ?_
  ·have hjl : j < xs.length := (List.getElem?_eq_some_iff.1 hj).1
   have hx := (hrr j (by omega)).eq_v
   have hcj := hc j (by omega)
   rw [hx] at hcj
   have e1 : xs.getD j ByteArray.empty = x := by rw [List.getD_eq_getElem?_getD, hj]; rfl
   simp only [World.cell?, hb]
   rw [← e1]
   exact hcj
  ·rintro e w' ⟨rfl, h⟩
   exact ⟨_, _, rfl, rfl, .v _, .ofBelowN h, trivial⟩
theorem bytesOf_append (l r : List UInt8) : bytesOf l ++ bytesOf r = bytesOf (l ++ r) := by
 apply ByteArray.ext
 simp [bytesOf]
theorem bytesOf_size (l : List UInt8) : (bytesOf l).size = l.length := by rw [← byL_len]; simp [bytesOf, byL]
theorem kit_Join {xs : List ByteArray} (hN : xs.length ≤ 1000000) (hlen : (joinL xs ⟨#[32]⟩).length ≤ 10000000) :
  SpecN Tryz.prog 143 [avStrs xs] (fun y => y = avS (bytesOf (joinL xs ⟨#[32]⟩ ++ [10]))) := by
 refine SpecN.of_VCN Tryz.func143 rfl Tryz.ntmps143 (Nle rfl) fun w A hB => ?_
 refine VC.seq ?_
 have hz := bytesOf_size (joinL xs ⟨#[32]⟩)
 have hz1 : (⟨#[10]⟩ : ByteArray).size = 1 := rfl
 refine VC.region ?_
 refine VO.ma rfl rfl rfl rfl ?_
 refine VO.nil ?_
 refine VC.sr ?_
 refine VO.mv rfl rfl rfl rfl ?_
 refine VO.op rfl (OpE.call rfl hB rfl Tryz.call217 rfl (SpecN.spec (strings_Join_S (sep := ⟨#[32]⟩) hN (by omega))) ?_)
 rintro _ rfl
 refine VO.val rfl rfl (OpV.sadd rfl rfl rfl (by omega)) ?_
 refine VO.ma rfl rfl rfl rfl ?_
 refine VO.nil ?_
 refine VC.ret ?_
 exact Exists.intro _ (And.intro (RetN.one Tryz.results143 (ResN.v rfl)) (by rw [← bytesOf_append]; rfl))
end
section
theorem nDig_le : ∀ (k u : Nat), u < 10 ^ (k + 1) → Lib.nDigits u ≤ k + 1
 | 0, u, h => by rw [Lib.nDigits_small (by simpa using h)]; exact Nat.le_refl _
 | k + 1, u, h => by
  by_cases h1 : u < 10
  ·rw [Lib.nDigits_small h1]; omega
  ·rw [Lib.nDigits_big h1]
   have := nDig_le k (u / 10) (by rw [Nat.pow_succ] at h; omega)
   omega
end
section
theorem index_app {c : UInt8} : ∀ {a r : List UInt8}, (∀ x ∈ a, x ≠ c) → Lib.indexByte (a ++ c :: r) c = (a.length : Int)
 | [], r, _ => by simp [Lib.indexByte]
 | b :: a, r, h => by
  have h1 := index_app (a := a) (r := r) fun x hx => h x (List.mem_cons_of_mem _ hx)
  have hb : (b == c) = false := by simpa using h b (List.mem_cons_self ..)
  rw [List.cons_append]
  unfold Lib.indexByte
  rw [hb, h1]
  simp only [Bool.false_eq_true, if_false, List.length_cons]
  have h2 : ((a.length : Int) == -1) = false := by simp
  rw [h2]
  simp
theorem linesL_cat : ∀ {xs : List (List UInt8)}, (∀ x ∈ xs, ∀ b ∈ x, b ≠ 10) → linesL (xs.flatMap fun x => x ++ [10]) = xs ∧ endL (xs.flatMap fun x => x ++ [10]) = true
 | [], _ => ⟨by simp [linesL], by simp [endL]⟩
 | x :: xs, h => by
  obtain ⟨h1, h2⟩ := linesL_cat (xs := xs) fun y hy => h y (List.mem_cons_of_mem _ hy)
  have hx := h x (List.mem_cons_self ..)
  have e : ((x :: xs).flatMap fun x => x ++ [10]) = x ++ 10 :: xs.flatMap fun x => x ++ [10] := by
   rw [List.flatMap_cons, List.append_assoc]; rfl
  rw [e]
  have h3 := index_app (r := xs.flatMap fun x => x ++ [10]) hx
  obtain ⟨k1, k2⟩ := linesL_some h3
  rw [k1, k2]
  have e2 : (x ++ 10 :: xs.flatMap fun x => x ++ [10]).drop (x.length + 1) = xs.flatMap fun x => x ++ [10] := by
   rw [← List.drop_drop, List.drop_left]; rfl
  have e3 : (x ++ 10 :: xs.flatMap fun x => x ++ [10]).take x.length = x := List.take_left
  rw [e2, e3, h1, h2]
  exact ⟨rfl, rfl⟩
theorem splitL_join {c : UInt8} : ∀ {ws : List (List UInt8)}, ws ≠ [] → (∀ w ∈ ws, ∀ b ∈ w, b ≠ c) → splitL c (Lib.join ws [c]) = ws
 | [], h, _ => absurd rfl h
 | [w], _, h => by
  have e : Lib.join [w] [c] = w := by simp [Lib.join]
  rw [e]; exact splitL_none (h w (List.mem_singleton.2 rfl))
 | w :: v :: r, _, h => by
  have ih := splitL_join (ws := v :: r) (by simp) fun y hy => h y (List.mem_cons_of_mem _ hy)
  have e : Lib.join (w :: v :: r) [c] = w ++ c :: Lib.join (v :: r) [c] := by simp [Lib.join, List.intercalate]
  rw [e, splitL_cut (h w (List.mem_cons_self ..)), ih]
def wordO (s : ByteArray) : Bool := decide (0 < s.size) && (byL s).all fun b => b != 32 && b != 10
theorem wordO_1 {s : ByteArray} (h : wordO s = true) : sEq s ⟨#[]⟩ = false := by
 unfold wordO at h
 simp only [Bool.and_eq_true, decide_eq_true_eq] at h
 cases e : sEq s ⟨#[]⟩ with
 | false => rfl
 | true => rw [sEq_eq.1 e] at h; exact absurd h.1 (by decide)
theorem wordO_2 {s : ByteArray} (h : wordO s = true) : ∀ b ∈ byL s, b ≠ 32 ∧ b ≠ 10 := fun b hb => by
 unfold wordO at h
 simp only [Bool.and_eq_true] at h
 have := List.all_eq_true.1 h.2 b hb
 simpa using this
def lineW (ws : List ByteArray) : ByteArray := bytesOf (joinL ws ⟨#[32]⟩)
theorem joinL_map (ws : List ByteArray) : joinL ws ⟨#[32]⟩ = Lib.join (ws.map byL) [32] := rfl
theorem splitS_line {ws : List ByteArray} (hne : ws ≠ []) (h : ∀ w ∈ ws, wordO w = true) : splitS 32 (lineW ws) = ws ∧ wordsB (lineW ws) = true := by
 have e : splitS 32 (lineW ws) = ws := by
  unfold splitS lineW
  rw [byL_bytesOf, joinL_map, splitL_join (by simpa using hne) (fun w hw => by
   obtain ⟨x, hx, rfl⟩ := List.mem_map.1 hw
   exact fun b hb => (wordO_2 (h x hx) b hb).1), List.map_map]
  conv => rhs; rw [← List.map_id ws]
  exact List.map_congr_left fun x _ => bytesOf_byL x
 refine ⟨e, ?_⟩
 unfold wordsB
 rw [e, List.all_eq_true]
 exact fun x hx => by rw [wordO_1 (h x hx)]; rfl
theorem mem_join {c b : UInt8} : ∀ {ws : List (List UInt8)}, b ∈ Lib.join ws [c] → b = c ∨ ∃ w ∈ ws, b ∈ w
 | [], h => by simp [Lib.join] at h
 | [w], h => .inr ⟨w, List.mem_singleton.2 rfl, by simpa [Lib.join] using h⟩
 | w :: v :: r, h => by
  have e : Lib.join (w :: v :: r) [c] = w ++ c :: Lib.join (v :: r) [c] := by simp [Lib.join, List.intercalate]
  rw [e] at h
  rcases List.mem_append.1 h with h | h
  ·exact .inr ⟨w, List.mem_cons_self .., h⟩
  ·rcases List.mem_cons.1 h with h | h
   ·exact .inl h
   ·rcases mem_join h with h | ⟨x, hx, h⟩
    ·exact .inl h
    ·exact .inr ⟨x, List.mem_cons_of_mem _ hx, h⟩
theorem lines_words {t : ByteArray} {l : List (List ByteArray)} (ht : byL t = l.flatMap fun ws => joinL ws ⟨#[32]⟩ ++ [10]) (h : ∀ ws ∈ l, ∀ w ∈ ws, wordO w = true) : linesR t = l.map lineW ∧ linesE t = true := by
 have e : (l.flatMap fun ws => joinL ws ⟨#[32]⟩ ++ [10]) = (l.map fun ws => joinL ws ⟨#[32]⟩).flatMap fun x => x ++ [10] := by rw [List.flatMap_map]
 have hx : ∀ x ∈ l.map fun ws => joinL ws ⟨#[32]⟩, ∀ b ∈ x, b ≠ 10 := fun x hx b hb => by
  obtain ⟨ws, hws, rfl⟩ := List.mem_map.1 hx
  rw [joinL_map] at hb
  rcases mem_join hb with rfl | ⟨w, hw, hb⟩
  ·decide
  ·obtain ⟨z, hz, rfl⟩ := List.mem_map.1 hw
   exact (wordO_2 (h ws hws z hz) b hb).2
 obtain ⟨h1, h2⟩ := linesL_cat hx
 rw [← e, ← ht] at h1 h2
 refine ⟨by rw [linesR_L, h1, List.map_map]; rfl, ?_⟩
 exact (linesE_L t).trans h2
theorem dig48 : ∀ d, d < 10 → inB digsB (UInt8.ofNat (48 + d)) = true ∧ Lib.digitVal (UInt8.ofNat (48 + d)) = some d := by decide +kernel
theorem dd_all : ∀ u, (Lib.decDigits u).all (inB digsB) = true ∧ Lib.decFrom 0 (Lib.decDigits u) = some u := fun u => by
 induction u using Nat.strongRecOn with
 | _ u ih =>
  by_cases h : u < 10
  ·obtain ⟨h1, h2⟩ := dig48 u h
   rw [Lib.decDigits_one h]
   refine ⟨by rw [List.all_cons, h1]; rfl, ?_⟩
   unfold Lib.decFrom
   rw [h2]
   simp [Lib.decFrom]
  ·obtain ⟨h1, h2⟩ := dig48 (u % 10) (by omega)
   obtain ⟨k1, k2⟩ := ih (u / 10) (by omega)
   rw [Lib.decDigits, dif_neg h]
   refine ⟨by rw [List.all_append, k1, List.all_cons, h1]; rfl, ?_⟩
   rw [decFrom_snoc k2 h2]
   congr 1; omega
theorem dd_word (u : Nat) : wordO (itoaS (u : Int)) = true := by
 have h1 := (dd_all u).1
 have h2 : 0 < (Lib.decDigits u).length := by
  have : Lib.decDigits u ≠ [] := fun e => by
   have h := (dd_all u).2
   rw [e] at h
   by_cases h0 : u = 0
   ·subst h0; rw [Lib.decDigits_one (by decide)] at e; cases e
   ·simp [Lib.decFrom] at h; omega
  exact List.length_pos_iff.2 this
 unfold wordO
 rw [itoaS, Lib.itoa_nonneg, byL_bytesOf, bytesOf_size, Bool.and_eq_true, decide_eq_true_eq, List.all_eq_true]
 refine ⟨h2, fun b hb => ?_⟩
 have := List.all_eq_true.1 h1 b hb
 obtain ⟨k, hk⟩ := dig_val this
 have h3 := (dig_is hk).1
 have h4 := (dig_is hk).2.1
 subst h3
 have : ∀ d, d < 10 → (UInt8.ofNat (48 + d) != 32 && UInt8.ofNat (48 + d) != 10) = true := by decide +kernel
 exact this k (by omega)
theorem num_back {n : Int} (h0 : 0 ≤ n) (h1 : n < 1000000000000000) : numE (itoaS n) 15 = true ∧ numV (itoaS n) 15 = n := by
 obtain ⟨u, rfl⟩ : ∃ u : Nat, n = u := ⟨n.toNat, by omega⟩
 obtain ⟨k1, k2⟩ := dd_all u
 have hb : byL (itoaS (u : Int)) = Lib.decDigits u := by rw [itoaS, Lib.itoa_nonneg, byL_bytesOf]
 have hneg : negOf (itoaS (u : Int)) = false := by
  cases hn : negOf (itoaS (u : Int)) with
  | false => rfl
  | true =>
   have h := neg_yes hn
   rw [hb] at h
   rw [h, List.all_cons] at k1
   exact absurd k1 (by
    have : inB digsB 45 = false := by decide +kernel
    rw [this]; simp)
 have hd := neg_no hneg
 have hl : (Lib.decDigits u).length ≤ 15 := by
  rw [Lib.decDigits_length]
  exact nDig_le 14 u (by show u < 1000000000000000; omega)
 have hw := wordO_1 (dd_word u)
 have hbad : badR (dOf (itoaS (u : Int))) 15 = false := by
  rw [hd]
  unfold badR
  rw [hw, hb, k1]
  have hs : (itoaS (u : Int)).size ≤ 15 := by rw [← byL_len, hb]; exact hl
  rw [decide_eq_false (by omega)]; rfl
 obtain ⟨m, e1, e2, _⟩ := nVal_atoi (most := 15) (by decide) hbad
 rw [hd, hb, k2] at e1
 injection e1 with e1
 subst e1
 have hv : nVal (itoaS (u : Int)) = u := by rw [nVal, if_neg (by rw [hneg]; simp), e2]
 have hE : rfE (itoaS (u : Int)) 15 = true := by
  unfold rfE
  rw [hbad, hv, sEq_refl]; rfl
 have hnE : numE (itoaS (u : Int)) 15 = true := by rw [num_same _ _ (by decide)]; exact hE
 refine ⟨hnE, ?_⟩
 have h2 := numV_same (itoaS (u : Int)) 15 (by decide) hnE
 rw [h2.1, hv]
theorem smallsB_word : keysB.all (fun b => b != 32 && b != 10) = true := by decide +kernel
theorem key_word {s : ByteArray} (h : keyF s = true) : wordO s = true := by
 unfold keyF at h
 simp only [Bool.and_eq_true, decide_eq_true_eq] at h
 obtain ⟨⟨⟨h1, _⟩, _⟩, h4⟩ := h
 unfold wordO
 rw [Bool.and_eq_true, decide_eq_true_eq, List.all_eq_true]
 refine ⟨by omega, fun b hb => ?_⟩
 have h5 := List.all_eq_true.1 h4 b hb
 have hc := inB_contains keysB b
 rw [h5] at hc
 have h6 : b ∈ keysB := by simpa using hc.symm
 exact List.all_eq_true.1 smallsB_word b h6
end
section
theorem cntL_cons (f : LookS → Bool) (x : LookS) (l : List LookS) : cntL f (x :: l) = (if f x = true then 1 else 0) + cntL f l := by
 unfold cntL
 by_cases h : f x = true
 ·rw [List.filter_cons_of_pos h, if_pos h, List.length_cons]; omega
 ·rw [List.filter_cons_of_neg h, if_neg h]; omega
theorem badN_cons (x : LookS) (l : List LookS) : badN (x :: l) = (if x.bad = true then 1 else 0) + badN l := cntL_cons (fun x => x.bad) x l
theorem c4_one (x : LookS) : (if fD x = true then 1 else 0) + (if fW x = true then 1 else 0) + (if fE x = true then 1 else 0) + (if fG x = true then 1 else 0) = 1 ∧ (if fD x = true then 1 else 0) + (if fE x = true then 1 else 0) = (if x.bad = true then 1 else 0) := by
 unfold fD fW fE fG
 cases isC x <;> cases x.bad <;> decide
theorem c4_sum (l : List LookS) : cntL fD l + cntL fW l + cntL fE l + cntL fG l = l.length ∧ cntL fD l + cntL fE l = badN l := by
 induction l with
 | nil => exact ⟨rfl, rfl⟩
 | cons x l ih =>
  obtain ⟨h1, h2⟩ := ih
  obtain ⟨k1, k2⟩ := c4_one x
  rw [cntL_cons, cntL_cons, cntL_cons, cntL_cons, badN_cons, List.length_cons]
  constructor <;> omega
theorem esc_count (l : List LookS) : (escS l).length = cntL fE l := by
 have h : (fun x => isEs x) = fE := by
  funext x
  unfold isEs fE isC
  by_cases h : x.verdict = 1 <;> cases x.bad <;> simp [h]
 unfold escS
 rw [sortPr_len]
 unfold escL cntL
 rw [List.length_map]
 exact congrArg (fun f => (l.filter f).length) h
theorem indN_zero {a : ByteArray} : ∀ {ks : List ByteArray}, a ∉ ks → (ks.map fun k => if sEq a k = true then 1 else 0).sum = 0
 | [], _ => rfl
 | k :: ks, h => by
  rw [List.map_cons, List.sum_cons, if_neg (fun e => h (by rw [sEq_eq.1 e]; exact List.mem_cons_self ..)), indN_zero fun hm => h (List.mem_cons_of_mem _ hm)]
theorem indN_one {a : ByteArray} : ∀ {ks : List ByteArray}, ks.Nodup → a ∈ ks → (ks.map fun k => if sEq a k = true then 1 else 0).sum = 1
 | [], _, h => by cases h
 | k :: ks, hd, h => by
  obtain ⟨h1, h2⟩ := List.nodup_cons.1 hd
  rw [List.map_cons, List.sum_cons]
  by_cases e : a = k
  ·subst e
   rw [if_pos (sEq_refl _), indN_zero h1]
  ·rw [if_neg (fun h' => e (sEq_eq.1 h')), indN_one h2 ((List.mem_cons.1 h).resolve_left e)]
theorem sumN_add {ks : List ByteArray} {f g : ByteArray → Nat} : (ks.map fun k => f k + g k).sum = (ks.map f).sum + (ks.map g).sum := by
 induction ks with
 | nil => rfl
 | cons k ks ih => simp only [List.map_cons, List.sum_cons, ih]; omega
theorem sumN_zero {ks : List ByteArray} : (ks.map fun _ => 0).sum = 0 := by
 induction ks with
 | nil => rfl
 | cons k ks ih => rw [List.map_cons, List.sum_cons, ih]
theorem sum_byK {ks : List ByteArray} (hd : ks.Nodup) : ∀ (l : List LookS), (∀ x ∈ l, x.machine ∈ ks) → (ks.map fun k => (mcF k l).length).sum = l.length
 | [], _ => sumN_zero
 | x :: l, h => by
  have ih := sum_byK hd l fun y hy => h y (List.mem_cons_of_mem _ hy)
  have h1 := indN_one hd (h x (List.mem_cons_self ..))
  have e : (fun k => (mcF k (x :: l)).length) = fun k => (if sEq x.machine k = true then 1 else 0) + (mcF k l).length := by
   funext k
   exact cntL_cons (fun x => sEq x.machine k) x l
  rw [e, sumN_add, h1, ih, List.length_cons]; omega
theorem mcK_sums (l : List LookS) : ((mcK l).map fun k => (mcF k l).length).sum = l.length ∧ ((mcK l).map fun k => badN (mcF k l)).sum = badN l := by
 have hd : (mcK l).Nodup := (uK_srt _).nd
 have hm : ∀ x ∈ l, x.machine ∈ mcK l := fun x hx => uK_mem.2 (List.mem_map.2 ⟨x, hx, rfl⟩)
 refine ⟨sum_byK hd l hm, ?_⟩
 have h := sum_byK hd (l.filter fun x => x.bad) fun x hx => hm x (List.mem_filter.1 hx).1
 have e : (fun k => badN (mcF k l)) = fun k => (mcF k (l.filter fun x => x.bad)).length := by
  funext k
  unfold badN mcF
  rw [List.filter_filter, List.filter_filter]
  congr 2
  funext x
  exact Bool.and_comm _ _
 rw [e, h]; rfl
theorem atoi_back {n : Nat} (h : n < 1000000000000000) : Lib.atoi (byL (decB n)) = some (n : Int) ∧ (decB n).size ≤ 18 := by
 have hb : byL (decB n) = Lib.decDigits n := by simp [byL, decB]
 obtain ⟨k1, k2⟩ := dd_all n
 have he : decB n = itoaS (n : Int) := by rw [itoaS, Lib.itoa_nonneg]; rfl
 have hl : (Lib.decDigits n).length ≤ 15 := by
  rw [Lib.decDigits_length]
  exact nDig_le 14 n (by show n < 1000000000000000; omega)
 have hneg : negOf (decB n) = false := by
  cases hn : negOf (decB n) with
  | false => rfl
  | true =>
   have h := neg_yes hn
   rw [hb] at h
   rw [h, List.all_cons] at k1
   exact absurd k1 (by
    have : inB digsB 45 = false := by decide +kernel
    rw [this]; simp)
 have hd := neg_no hneg
 have hw := wordO_1 (dd_word n)
 rw [← he] at hw
 have hbad : badR (dOf (decB n)) 15 = false := by
  rw [hd]
  unfold badR
  rw [hw, hb, k1]
  have hs : (decB n).size ≤ 15 := by rw [← byL_len, hb]; exact hl
  rw [decide_eq_false (by omega)]; rfl
 obtain ⟨m, e1, e2, e3, e4, e5⟩ := nVal_atoi (most := 15) (by decide) hbad
 rw [hd, hb, k2] at e1
 injection e1 with e1
 subst e1
 rw [e4, nVal, if_neg (by rw [hneg]; simp), e2]
 exact ⟨rfl, e5⟩
theorem dec_no47 (n : Nat) : ∀ b ∈ byL (decB n), b ≠ 47 := fun b hb => by
 have hbb : byL (decB n) = Lib.decDigits n := by simp [byL, decB]
 rw [hbb] at hb
 have h2 := List.all_eq_true.1 (dd_all n).1 b hb
 rintro rfl
 have : inB digsB 47 = false := by decide +kernel
 rw [this] at h2; cases h2
theorem cut_back (a b : Nat) : cutF 47 (decB a ++ slW ++ decB b) = true ∧ cutA 47 (decB a ++ slW ++ decB b) = decB a ∧ cutB 47 (decB a ++ slW ++ decB b) = decB b := by
 have e : byL (decB a ++ slW ++ decB b) = byL (decB a) ++ 47 :: byL (decB b) := by simp [byL, ByteArray.data_append, slW]
 have hi := index_app (r := byL (decB b)) (dec_no47 a)
 rw [← e] at hi
 have hf : cutF 47 (decB a ++ slW ++ decB b) = true := by unfold cutF; rw [hi]; exact decide_eq_true (by omega)
 have hz : (decB a ++ slW ++ decB b).size = (byL (decB a)).length + 1 + (byL (decB b)).length := by rw [← byL_len, e, List.length_append, List.length_cons]; omega
 refine ⟨hf, ?_, ?_⟩
 ·rw [cutA, if_pos hf, hi, Int.toNat_natCast]
  rw [← bytesOf_byL ((decB a ++ slW ++ decB b).extract 0 _), byL_extract, e, List.drop_zero, Nat.sub_zero, List.take_left, bytesOf_byL]
 ·rw [cutB, if_pos hf, hi, Int.toNat_natCast]
  rw [← bytesOf_byL ((decB a ++ slW ++ decB b).extract _ _), byL_extract, e]
  have : ((byL (decB a) ++ 47 :: byL (decB b)).drop ((byL (decB a)).length + 1)) = byL (decB b) := by
   rw [← List.drop_drop, List.drop_left]; rfl
  rw [this, List.take_of_length_le (by omega), bytesOf_byL]
end
section
theorem lk_app (a b : ByteArray) : (a ++ b).size = a.size + b.size := ByteArray.size_append
def vWords : List ByteArray := [⟨#[]⟩, ⟨#[103, 111, 111, 100]⟩, ⟨#[109, 105, 115, 115, 105, 110, 103]⟩, ⟨#[115, 104, 105, 102, 116, 101, 100]⟩, ⟨#[116, 117, 114, 110, 101, 100]⟩, ⟨#[115, 111, 108, 100, 101, 114, 101, 100]⟩]
def fineW : ByteArray := ⟨#[102, 105, 110, 101]⟩
def badW : ByteArray := ⟨#[98, 97, 100]⟩
def wordL (x : LookS) : ByteArray := if x.bad = true then badW else fineW
def vWd (x : LookS) : ByteArray := vWords.getD x.verdict.toNat ByteArray.empty
def lineWs (x : LookS) : List ByteArray := [decB x.at_.toNat, x.board, x.name, vWd x, wordL x, x.machine, x.nozzle, x.reel]
abbrev spB : ByteArray := ⟨#[32]⟩
def lineT (x : LookS) : ByteArray := bytesOf (joinL (lineWs x) ⟨#[32]⟩ ++ [10])
def txt (l : List LookS) : ByteArray := l.foldl (fun a x => a ++ lineT x) ⟨#[]⟩
theorem txt_take {l : List LookS} {q : Nat} (h : q < l.length) : txt (l.take (q + 1)) = txt (l.take q) ++ lineT (l.getD q default) := by
 have : l.take (q + 1) = l.take q ++ [l.getD q default] := by
  rw [List.take_succ_eq_append_getElem h]; simp [List.getD_eq_getElem?_getD, h]
 rw [this]; unfold txt; rw [List.foldl_append]; rfl
theorem lineT_eq (x : LookS) : lineT x = decB x.at_.toNat ++ spB ++ x.board ++ spB ++ x.name ++ spB ++ vWd x ++ spB ++ wordL x ++ spB ++ x.machine ++ spB ++ x.nozzle ++ spB ++ x.reel ++ ⟨#[10]⟩ := by
 unfold lineT
 apply ByteArray.ext
 apply Array.toList_inj.1
 simp [bytesOf, joinL, lineWs, Lib.join, List.intercalate, ByteArray.data_append]
structure LkT (x : LookS) : Prop where
 at_ : 0 ≤ x.at_ ∧ x.at_ < 100
 verdict : 1 ≤ x.verdict ∧ x.verdict ≤ 5
 board : x.board.size ≤ 1000
 name : x.name.size ≤ 1000
 machine : x.machine.size ≤ 1000
 nozzle : x.nozzle.size ≤ 1000
 reel : x.reel.size ≤ 1000
theorem LkT.of {m : Nat} (hm : m ≤ 9) {l : List LookS} (hk : ∀ x ∈ l, LkG m x) (h0 : lookF l = 0) {q : Nat} (h : q < l.length) : LkT (l.getD q default) := by
 have h1 := lookE_zero ((lookOk h0).all q h)
 have h2 := LkG.getD hk q
 have h3 := h2.at_.2 h1.at_.1 h1.at_.2
 exact ⟨⟨h1.at_.1, by omega⟩, h1.verdict, h2.board.1, h2.name.1, h2.machine, h2.nozzle, h2.reel⟩
theorem vWords_size : ∀ j, j < 6 → (vWords.getD j ByteArray.empty).size ≤ 10 := by decide +kernel
theorem lineT_size {x : LookS} (h : LkT x) : (lineT x).size ≤ 5100 ∧ (joinL (lineWs x) ⟨#[32]⟩).length ≤ 5100 := by
 have h1 := h.at_
 have h2 := h.verdict
 have h3 := decB_size x.at_.toNat (by omega)
 have h4 : (vWd x).size ≤ 10 := vWords_size x.verdict.toNat (by omega)
 have h5 : (wordL x).size ≤ 4 := by unfold wordL; split <;> decide
 have e1 : spB.size = 1 := rfl
 have e2 : (⟨#[10]⟩ : ByteArray).size = 1 := rfl
 have a1 := h.board
 have a2 := h.name
 have a3 := h.machine
 have a4 := h.nozzle
 have a5 := h.reel
 have key : (lineT x).size ≤ 5100 := by
  rw [lineT_eq]
  simp only [lk_app]
  omega
 refine ⟨key, ?_⟩
 have hl : (lineT x).size = (joinL (lineWs x) ⟨#[32]⟩ ++ [10]).length := by unfold lineT; rw [bytesOf_size]
 rw [List.length_append] at hl
 simp at hl
 omega
theorem txt_size {l : List LookS} (h : ∀ j, j < l.length → LkT (l.getD j default)) : ∀ q, q ≤ l.length → (txt (l.take q)).size ≤ 5100 * q
 | 0, _ => by rw [List.take_zero]; exact Nat.le_refl _
 | q + 1, hq => by
  have ih := txt_size h q (by omega)
  have h1 := (lineT_size (h q (by omega))).1
  rw [txt_take (by omega), lk_app]
  omega
theorem lineWs_len (x : LookS) : (lineWs x).length = 8 := rfl
end
end Go.Proofs.YtcploodfholkkaaGreatDoor
namespace Go.Proofs.YtcploodfholkkaaGreatDoor
set_option maxRecDepth 100000
section
open Go.RowKit Go.Lib
def bysA (s : ByteArray) : List AV := (strCells s).map .v
theorem bysA_len (s : ByteArray) : (bysA s).length = s.size := by rw [bysA, List.length_map, strCells_length]
theorem appendS_run {P : Program} (w : World) (T U ty e : TypeId) (i : TypeInfo) (ht : P.underlying T = some (.slice e)) (hU : P.underlying U = some .string) (hi : P.info? e = some i) (hz : i.zero = some (.int .u8 0)) (hs : i.size = 1) (hb : i.bytes = 1)
  (u : Value) (n : Nat) (xs : List Value) (hown : w.ownsRow 0 e 1 u n xs) (s : ByteArray) (hlen : n + s.size ≤ 10000000000) :
  ∃ v' w', (Builtin.append_ #[T, U] ty #[u, .string s]).run P w = .ok v' w' ∧ w'.ownsRow 0 e 1 v' (n + s.size) (xs ++ strCells s) ∧ Chg (fun q => u.ownBlock = some q) w w' ∧ (v'.ownBlock = u.ownBlock ∨ ∃ g, v'.ownBlock = some g ∧ w.heap.size ≤ g) := by
 have h63 : n + s.size ≤ maxLen := by simp only [maxLen]; omega
 have hxl : xs.length = n := by simpa using hown.1
 have hll : (xs ++ strCells s).length = (n + s.size) * 1 := by rw [List.length_append, hxl, strCells_length, Nat.mul_one]
 have grown : ∀ (old : Nat), (w.drew.alloc (.cells (xs.toArray ++ (strCells s).toArray ++ Builtin.zeroCells (Value.int .u8 0).cells (grownCap w (n + s.size) old e - (n + s.size))) e)).ownsRow 0 e 1 (.slice (some ⟨w.heap.size, 0, none⟩) (n + s.size) (grownCap w (n + s.size) old e)) (n + s.size) (xs ++ strCells s) := by
  intro old
  have hge := grownCap_ge w (n + s.size) old e
  have hcm : grownCap w (n + s.size) old e ≤ maxLen := grownCap_le_maxLen w (n + s.size) old e h63
  refine ⟨hll, .inr ⟨w.heap.size, _, _, rfl, Nat.zero_le _, heap_alloc_new w.drew _, hge, hcm, ?_, ?_⟩⟩
  ·have hz1 : (Value.int IntKind.u8 0).cells.size = 1 := rfl
   simp only [Array.size_append, List.size_toArray, size_zeroCells, hz1, hxl, strCells_length]
   omega
  ·simp only [Array.toList_append, List.append_assoc]
   rw [← List.append_assoc, ← hll]
   exact List.take_left
 rcases hown.2 with ⟨rfl, rfl⟩ | ⟨g, cap, cur, rfl, hbg, hg, hnc, hcm, hcs, htake⟩
 ·have hx : xs = [] := List.eq_nil_of_length_eq_zero hxl
  subst hx
  by_cases hm : s.size = 0
  ·have hn : strCells s = [] := List.eq_nil_of_length_eq_zero (by rw [strCells_length]; exact hm)
   refine ⟨.slice none 0 0, w, ?_, by rw [hm, hn]; exact World.ownsRow_nil w 0 e 1, Chg.refl _ _, .inl rfl⟩
   have hf := run_firstCells_string (P := P) w 1 s
   rw [hm] at hf
   simp [Builtin.append_, run_underlying ht, run_underlying hU, sizeOf, typeInfo, hi, hs, Builtin.lenOf, hm, hf]
  ·have hr := run_append_nil_string (P := P) w T U ty e i (.int .u8 0) ht hU hi hz s (by omega) (by omega) (by rw [hb]; omega)
   have hgr := grown 0
   simp only [Nat.zero_add, List.nil_append, Array.empty_append] at hgr ⊢
   have e1 : (s.data.map fun b => Value.int .u8 b.toNat) = (strCells s).toArray := by
    apply Array.ext'
    simp [strCells]
   rw [e1] at hr
   exact ⟨_, _, hr, hgr, (Chg.refl _ w).drew.alloc _, .inr ⟨_, rfl, by simp⟩⟩
 ·by_cases hroom : n + s.size ≤ cap
  ·have hcs' : cur.size = cap := by simpa using hcs
   have hr := run_append_room_string (P := P) w T U ty e i ht hU hi hs g n cap cur hg s hroom (by omega)
   refine ⟨_, _, hr, ⟨hll, .inr ⟨g, cap, _, rfl, hbg, setRow_heap w g cur _ e _ hg, hroom, hcm, ?_, ?_⟩⟩, chg_setRow w g _, .inl rfl⟩
   ·simp only [List.size_toArray, List.length_append, List.length_take, List.length_drop, Array.length_toList, strCells_length]
    omega
   ·have ht' : cur.toList.take n = xs := by simpa using htake
    rw [ht', ← hll]
    exact List.take_left
  ·have holds : ∀ j u, xs[j]? = some u → w.cell? ((⟨g, 0, none⟩ : Addr).add j) = some u := hown.cells (g := g) rfl
   have hr := run_append_grow_string (P := P) w T U ty e i (.int .u8 0) ht hU hi hz ⟨g, 0, none⟩ n cap xs (by rw [hs]; simpa using hxl) holds s (by omega) (by omega) (by rw [hb]; exact growslice_fits (by omega) (by omega))
   exact ⟨_, _, hr, grown cap, (Chg.refl _ w).drew.alloc _, .inr ⟨_, rfl, by simp⟩⟩
theorem ownsRow_of {w : World} {Z : Nat → Prop} {u : Value} {t : ByteArray} {e : TypeId} (h : EntR w Z (.row u t.size 1 (bysA t) e)) : w.ownsRow 0 e 1 u t.size (strCells t) := by
 obtain ⟨h0, h⟩ := h
 refine ⟨by rw [strCells_length, Nat.mul_one], ?_⟩
 rcases h with ⟨rfl, h⟩ | ⟨g, cap, c, rfl, h1, h2, h3, h4, h5⟩
 ·exact .inl ⟨rfl, h⟩
 ·refine .inr ⟨g, cap, c, rfl, Nat.zero_le _, h3, h1, h2, h4, ?_⟩
  apply List.ext_getElem?
  intro j
  rw [List.getElem?_take]
  by_cases hj : j < t.size
  ·rw [if_pos (by omega)]
   obtain ⟨x, k1, k2⟩ := h5 j (by rw [bysA_len]; exact hj)
   have hl : j < (strCells t).length := by rw [strCells_length]; exact hj
   have k3 : (bysA t)[j]'(by rw [bysA_len]; exact hj) = .v ((strCells t)[j]) := by simp [bysA]
   rw [k3] at k2
   rw [Array.getElem?_toList, k1, k2.eq_v, List.getElem?_eq_getElem hl]
  ·rw [if_neg (by omega), List.getElem?_eq_none (by rw [strCells_length]; omega)]
theorem row_of_owns {w : World} {Z : Nat → Prop} {u : Value} {t : ByteArray} {n : Nat} {e : TypeId} (hn : n = t.size) (h : w.ownsRow 0 e 1 u n (strCells t)) : EntR w Z (.row u n 1 (bysA t) e) := by
 subst hn
 refine ⟨by rw [bysA_len, Nat.mul_one], ?_⟩
 rcases h.2 with ⟨rfl, h0⟩ | ⟨g, cap, cur, rfl, hbg, hg, hnc, hcm, hcs, htake⟩
 ·exact .inl ⟨rfl, h0⟩
 ·refine .inr ⟨g, cap, cur, rfl, hnc, hcm, hg, hcs, fun j hj => ?_⟩
  rw [bysA_len] at hj
  have hl : j < (strCells t).length := by rw [strCells_length]; exact hj
  have k3 : (bysA t)[j]'(by rw [bysA_len]; exact hj) = .v ((strCells t)[j]) := by simp [bysA]
  rw [k3]
  refine ⟨(strCells t)[j], ?_, .v _⟩
  have := congrArg (fun z => z[j]?) htake
  simp only [List.getElem?_take, List.getElem?_eq_getElem hl, Nat.mul_one] at this
  rw [if_pos hj] at this
  simpa using this
section
variable {P : Program} {B : Bs} {W : Nat → Prop} {s : St'} {a : Act} {w w' : World} {o : Oper} {K : St' → Prop}
theorem OpE.appendStr {x y : Operand} {T U e i : Nat} {u : Value} {t s0 : ByteArray} (ho : o.op = .call { callee := .builtin .append, args := #[x, y], argTypes := #[T, U] }) (hB : B.Ok) (hd : okd B.nt o.dst = true)
  (hu : P.underlying T = some (.slice e)) (hU : P.underlying U = some .string) (hinfo : (P.info? e).map (fun i => (i.zero, i.size, i.bytes)) = some (some (.int .u8 0), 1, 1))
  (hx : evO s x = some (.v u)) (hi : s.hp[i]? = some (.row u t.size 1 (bysA t) e)) (hy : evO s y = some (avS s0)) (hlen : t.size + s0.size ≤ 10000000000) (hW : ∀ g, u.ownBlock = some g → W g)
  (hK : ∀ u', K ((St'.mk s.sl (s.hp.set i (.row u' (t ++ s0).size 1 (bysA (t ++ s0)) e)) s.k).put o.dst (.v u'))) : OpE P B W s o K := by
 obtain ⟨ii, hii, hz0, hz1, hz2⟩ := info_parts hinfo
 intro a w hr next Qx hn
 have hmem := List.mem_of_getElem? hi
 have hE := hr.blocks _ hmem
 obtain ⟨v', w', hrun, hown, hch, hbl⟩ := appendS_run (P := P) w T U o.type e ii hu hU hii hz0 hz1 hz2 u t.size (strCells t) (ownsRow_of hE) s0 hlen
 have hsz : (t ++ s0).size = t.size + s0.size := ByteArray.size_append
 have hsc : strCells (t ++ s0) = strCells t ++ strCells s0 := by unfold strCells; rw [← List.map_append, ByteArray.data_append, Array.toList_append]
 have hr' := hr.set hB hi (e' := .row v' (t ++ s0).size 1 (bysA (t ++ s0)) e) hch hbl (row_of_owns rfl (by rw [hsc, hsz]; exact hown))
 unfold Oper.wp
 simp only [execOp, ho, resolve, invoke, builtin, List.map_toArray, List.map_cons, List.map_nil, hr.evv hx, hr.evv hy, Sem.run_bind, Sem.run_pure, Result.andThen_ok, hrun]
 exact hn _ _ _ (hK _) (hr'.put _ hd _ _ (.v _)) (hch.mono fun b _ h => .inr (hW b h))
end
end
section
def Inp (w : World) (a : Option Addr) (L : List Int) : Prop :=
 L.length ≤ 9223372036854775807 ∧ ∀ i, i < L.length → ∃ b o, a = some ⟨b, o, none⟩ ∧ w.cell? ⟨b, o + i, none⟩ = some (.int .i64 (L.getD i 0))
theorem Inp.ofRow {w : World} {a : Option Addr} {len cap : Nat} {zs : List Int}
  (h : (a = none ∧ len = 0 ∧ cap = 0 ∧ zs = []) ∨
   ∃ x, a = some x ∧ len ≤ cap ∧ cap ≤ maxLen ∧ zs.length = cap ∧ (∀ i, i < zs.length → w.cell? (x.add i) = some (.int .i64 (zs.getD i 0))) ∧ ∀ n ∈ zs, (Lit.int .i64 n).wf = true) :
  ∃ L : List Int, L.length = len ∧ Inp w a L := by
 rcases h with ⟨rfl, rfl, rfl, rfl⟩ | ⟨x, rfl, h1, h2, h3, h4, h5⟩
 ·exact ⟨[], rfl, by simp, by simp⟩
 ·unfold maxLen at h2
  refine ⟨zs.take len, by simp; omega, by simp; omega, fun i hi => ?_⟩
  have hi' : i < len ∧ i < zs.length := by simp at hi; omega
  obtain ⟨b, o, s⟩ := x
  have h0 := h4 0 (by omega)
  have hs : s = none := by
   cases s with
   | none => rfl
   | some s =>
    simp only [Addr.add, if_true, World.cell?] at h0
    split at h0 <;> simp at h0
  subst hs
  have hadd : (⟨b, o, none⟩ : Addr).add i = ⟨b, o + i, none⟩ := by unfold Addr.add; split <;> simp_all
  have := h4 i hi'.2
  rw [hadd] at this
  exact ⟨b, o, rfl, by rw [this]; simp [hi'.1, hi'.2]⟩
def lawQ (t : Nat) (x : Value) (e : Exit) (s : St') : Prop := e = .ret ∧ look s.sl t = some (.v x)
section
variable {P : Program} {w : World} {A : Nat → Prop} {nt t : Nat} {x : Value} {c : Code} {s : St'}
theorem VC.rebase (h : ∀ a w1, R (B0 w A nt) s a w1 → ∃ (B1 : Bs) (s1 : St'), B1.nt = nt ∧ B1.w0 = w1 ∧ (∀ b, B1.S b → w.heap.size ≤ b) ∧ R B1 s1 a w1 ∧ VC P B1 c (lawQ t x) s1) : VC P (B0 w A nt) c (lawQ t x) s := fun a w1 hr => by
 obtain ⟨B1, s1, h1, h2, h3, h4, h5⟩ := h a w1 hr
 refine Code.wp_mono (fun e a' w' ⟨s2, ⟨k1, k2⟩, k3⟩ => ?_) (h5 a w1 h4)
 refine ⟨⟨[(t, .v x)], [], 0⟩, ⟨k1, by simp [look_put]⟩, fun t' y hy => ?_, k3.size.trans h1, k3.defs, fun p hp => by simp at hp, List.Pairwise.nil, ?_, fun p hp => by simp at hp, trivial⟩
 ·rw [look_put] at hy
  split at hy
  ·rename_i e; subst e; cases hy; exact (k3.slots _ _ k2).flat ⟨_, rfl⟩
  ·cases hy
 ·have c1 := hr.chg
  have c2 := k3.chg
  rw [h2] at c2
  exact (c1.any.trans c2).mono fun b hb hs => (Nat.not_lt.2 (h3 b hs) hb).elim
theorem VC.stream {a0 : Option Addr} {cap0 g tot i : Nat} {L : List Int} {sl : List (Nat × AV)} (hi : s.hp[i]? = some (.box g ⟨[.v (.slice a0 L.length cap0), .v (.int .i64 0)], 25, tot⟩)) (htot : tot = 2) (hin : Inp w a0 L) (hsl : LeL s.sl sl) (hf : ∀ p ∈ sl, ∃ v, p.2 = .v v)
  (h : ∀ w1, w.heap.size ≤ g → (B1 w1 (fun b => b ≠ g) nt (fun b => b = g) (fun b => b ≤ g) (TT g L)).Ok → VC P (B1 w1 (fun b => b ≠ g) nt (fun b => b = g) (fun b => b ≤ g) (TT g L)) c (lawQ t x) ⟨sl, [], 0⟩) : VC P (B0 w A nt) c (lawQ t x) s :=
 VC.rebase fun a w1 hr => by
  have hm := List.mem_of_getElem? hi
  obtain ⟨cc, k1, k2, k3, k4⟩ := hr.blocks _ hm
  have hnew : ¬ g < w.heap.size := hr.isNew (fun b h => h) hm rfl
  have hge : w.heap.size ≤ g := by omega
  have hcc : cc = #[.slice a0 L.length cap0, .int .i64 0] := by
   obtain ⟨u0, p0, q0⟩ := k4 0 (by simp)
   obtain ⟨u1, p1, q1⟩ := k4 1 (by simp)
   have e0 := q0.eq_v
   have e1 := q1.eq_v
   have hsz : cc.size = 2 := k2.trans htot
   apply Array.ext (by simpa using hsz)
   intro i hi hi'
   simp at hi'
   match i, hi' with
   | 0, _ => have := Array.getElem?_eq_some_iff.1 p0; simp; rw [this.2, e0]
   | 1, _ => have := Array.getElem?_eq_some_iff.1 p1; simp; rw [this.2, e1]
  subst hcc
  have hT : TT g L w1 0 := ⟨0, Nat.le_refl _, a0, cap0, k1, hin.1, fun i hi => by
   obtain ⟨b, o, e1, e2⟩ := hin.2 i hi
   have hb := World.block_lt_of_cell? w _ e2
   exact ⟨b, o, e1, Nat.lt_of_lt_of_le hb hge, hr.chg.cell e2 fun h => h⟩⟩
  refine ⟨_, _, rfl, rfl, fun b hb => by rw [hb]; exact hge, ?_, h w1 hge (TT.ok hT)⟩
  refine ⟨fun t' y hy => ?_, hr.size, hr.defs, fun p hp => by simp at hp, List.Pairwise.nil, Chg.refl _ _, fun p hp => by simp at hp, hT⟩
  have hs := hr.slots t' y (LeL.look hsl t' y hy)
  have : ∃ v, y = .v v := by
   have key : ∀ (l : List (Nat × AV)), (∀ p ∈ l, ∃ v, p.2 = .v v) → look l t' = some y → ∃ v, y = .v v := by
    intro l
    induction l with
    | nil => intro _ h; cases h
    | cons p r ih =>
     intro hp hl
     obtain ⟨k, z⟩ := p
     rw [look_put] at hl
     split at hl
     ·cases hl; exact hp (k, y) (by simp)
     ·exact ih (fun q hq => hp q (by simp [hq])) hl
   exact key sl hf hy
  exact hs.flat this
theorem law_calls {F : FuncId} {fn : Func} {a0 : Option Addr} {cap0 : Nat} {L : List Int} {body : Code} (hf : P.funcs[F]? = some fn) (hb : fn.body = some body) (hn : fn.ntmps = nt) (h1 : 1 ≤ nt) (hres : fn.results = #[.tmp t])
  (h : VC P (B0 w (fun _ => True) nt) body (lawQ t (.bool true)) ⟨slots0 0 [.v (.slice a0 L.length cap0)], [], 0⟩) : Calls P F #[.slice a0 L.length cap0] w fun e w' => e = .returned (.bool true) ∧ Chg NoB w w' := by
 subst hn
 refine calls_of_wp hf hb (Code.wp_mono (fun e a w' hq => ?_) (h _ w (R.start (us := #[.slice a0 L.length cap0]) (k := 0) rfl ⟨rfl, fun j hj => by simp at hj; subst hj; exact .v _⟩ (fun _ h => h.elim) trivial (by show fn.ntmps = 1 + (fn.ntmps - 1); omega))))
 obtain ⟨s, ⟨rfl, hq⟩, hr⟩ := hq
 refine ⟨hr.defs, .bool true, ?_, rfl, hr.chg⟩
 have hv := (hr.slots t _ hq).eq_v
 simp [results_eq, hres, resRun, hv]
end
theorem Le.boolT {B : Bs} {s : St'} {t : Nat} {b : Bool} (ht : look s.sl t = some (avB b)) (hb : b = true) : Le B s ⟨(t, avB true) :: s.sl, s.hp, s.k⟩ := Le.recast ht fun w Z u h => by subst hb; exact h
end
end Go.Proofs.YtcploodfholkkaaGreatDoor
namespace Go.Proofs.YtcploodfholkkaaGreatDoor
set_option maxRecDepth 100000
section
open Go.RowKit Go.Lib
def bldOk (g : Nat) (p : Value) : Prop := p = .pointer none ∨ p = ptv g
theorem bldOk.none (g : Nat) : bldOk g (.pointer none) := .inl rfl
theorem bldOk.self (g : Nat) : bldOk g (ptv g) := .inr rfl
abbrev bldE (g : Nat) (p u : Value) : Ent := .box g ⟨[.v p, .v u], 252, 2⟩
abbrev bufE (u : Value) (t : ByteArray) : Ent := .row u t.size 1 (bysA t) 5
set_option maxHeartbeats 1000000 in
theorem copyCheck_used (g : Nat) (w : World) (h0 : w.cell? ⟨g, 0, none⟩ = some (.pointer (some ⟨g, 0, none⟩))) : Calls Tryz.prog 216 #[.pointer (some ⟨g, 0, none⟩)] w fun e w' => e = .returned (.tuple #[]) ∧ w' = w := by
 obtain ⟨j, hj, _⟩ := Option.map_eq_some_iff.1 (show (Tryz.prog.info? 252).map (·.size) = some 2 by kernel_rfl)
 go_enter Tryz.func216, Tryz.ntmps216
 go_wp2
 rw [Lib.run_neq_ptr_same w _ Tryz.underlying249 hj]
 go_wp2
 go_end0
 exact ⟨rfl, rfl⟩
set_option maxHeartbeats 1000000 in
theorem copyCheck_fresh (g : Nat) (w : World) (h0 : w.cell? ⟨g, 0, none⟩ = some (.pointer none)) (hsh : w.shape? g = some (252, 2)) (hfz : w.frozen? ⟨g, 0, none⟩ = false) :
  Calls Tryz.prog 216 #[.pointer (some ⟨g, 0, none⟩)] w fun e w' => e = .returned (.tuple #[]) ∧ w' = w.setCell ⟨g, 0, none⟩ (.pointer (some ⟨g, 0, none⟩)) := by
 obtain ⟨j, hj, hjs⟩ := Option.map_eq_some_iff.1 (show (Tryz.prog.info? 252).map (·.size) = some 2 by kernel_rfl)
 go_enter Tryz.func216, Tryz.ntmps216
 go_wp2
 rw [Lib.run_to_unsafe w ⟨g, 0, none⟩ Tryz.underlying249 Tryz.underlying369 hj (by rw [hjs]; decide) hsh (Nat.zero_lt_succ 1)]
 simp only [Result.andThen]
 rw [Oper.upon_value]
 go_wp2
 rw [run_callFunc_extern Tryz.func291 (by kernel_rfl) (by kernel_rfl) (by kernel_rfl) (e := Extern.AbiNoEscape.same) (by kernel_rfl)]
 rw [Lib.run_noEscape]
 simp only [Result.andThen]
 rw [Oper.upon_value]
 go_wp2
 rw [Lib.run_from_unsafe w ⟨g, 0, none⟩ Tryz.underlying369 Tryz.underlying249 hj hsh (by show liesAt _ _ _ _ 0 _ 1 = true; decide +kernel)]
 simp only [Result.andThen]
 rw [Oper.upon_value]
 go_wp2
 go_end0
 exact ⟨rfl, rfl⟩
theorem copyCheck_H {g : Nat} {p u : Value} (hp : bldOk g p) : SpecH Tryz.prog 216 [pt g] [bldE g p u] (fun y hp' => y = .tup [] ∧ hp' = [bldE g (ptv g) u]) := fun w A us ha hap hA hE => by
 obtain rfl := args1 ha
 obtain ⟨c, k1, k2, k3, k4⟩ := hE _ (List.mem_cons_self ..)
 obtain ⟨v0, p0, q0⟩ := k4 0 (by simp)
 obtain ⟨v1, p1, q1⟩ := k4 1 (by simp)
 have e0 : v0 = p := (show Rep w _ (.v p) v0 from q0).eq_v
 have e1 : v1 = u := (show Rep w _ (.v u) v1 from q1).eq_v
 subst e0; subst e1
 have hcell : w.cell? ⟨g, 0, none⟩ = some v0 := by simp [World.cell?, k1, p0]
 have hc2 : c.size = 2 := k2
 rcases hp with rfl | rfl
 ·refine (copyCheck_fresh g w hcell (by simp [World.shape?, k1, hc2]) (by simp [World.frozen?, k1])).mono fun e w' ⟨h1, h2⟩ => ?_
  subst h1; subst h2
  have hheap : (w.setCell ⟨g, 0, none⟩ (ptv g)).heap[g]? = some (.cells (c.setIfInBounds 0 (ptv g)) 252 (0, 0)) := by simp [World.setCell, Array.getElem?_modify, k1]
  refine ⟨_, .tuple #[], _, ⟨rfl, rfl⟩, rfl, List.pairwise_singleton _ _, .tup _ _ rfl (fun j hj => by simp at hj), fun e he => ?_, fun b ⟨e, he, hb⟩ _ => ?_, (Chg.setAt w g 0 _).mono fun b _ hb => ⟨_, List.mem_cons_self .., by have : b = g := hb; rw [this]; rfl⟩⟩
  ·obtain rfl := List.mem_singleton.1 he
   refine ⟨_, hheap, by simp [hc2], by simp, fun j hj => ?_⟩
   match j, hj with
   | 0, _ => exact ⟨ptv g, by simp [hc2], .v _⟩
   | 1, _ => exact ⟨v1, by rw [Array.getElem?_setIfInBounds_ne (by decide)]; exact p1, .v _⟩
  ·obtain rfl := List.mem_singleton.1 he
   exact ⟨_, List.mem_cons_self .., hb⟩
 ·refine (copyCheck_used g w hcell).mono fun e w' ⟨h1, h2⟩ => ?_
  subst h1; subst h2
  refine ⟨_, .tuple #[], _, ⟨rfl, rfl⟩, rfl, List.pairwise_singleton _ _, .tup _ _ rfl (fun j hj => by simp at hj), fun e he => ?_, fun b ⟨e, he, hb⟩ _ => ?_, Chg.refl _ _⟩
  ·obtain rfl := List.mem_singleton.1 he
   refine ⟨_, k1, k2, k3, fun j hj => ?_⟩
   match j, hj with
   | 0, _ => exact ⟨_, p0, .v _⟩
   | 1, _ => exact ⟨_, p1, .v _⟩
  ·obtain rfl := List.mem_singleton.1 he
   exact ⟨_, List.mem_cons_self .., hb⟩
theorem Builder_WriteString_H {g : Nat} {p u : Value} {t s : ByteArray} (hp : bldOk g p) (hlen : t.size + s.size ≤ 1000000000) :
  SpecH Tryz.prog 142 [pt g, avS s] [bldE g p u, bufE u t] (fun y hp' => ∃ u', y = .tup [avI s.size, .v .nilIface] ∧ hp' = [bldE g (ptv g) u', bufE u' (t ++ s)]) := by
 refine SpecH.of_VC Tryz.func142 rfl Tryz.ntmps142 (Nle rfl) fun w A hB => ?_
 refine VC.sr ?_
 refine VO.ma rfl rfl rfl rfl ?_
 refine VO.ma rfl rfl rfl rfl ?_
 refine VO.nil ?_
 refine VC.sr ?_
 refine VO.mv rfl rfl rfl rfl ?_
 refine VO.op rfl (OpE.callH (rest := [_]) rfl hB rfl Tryz.call216 rfl rfl (copyCheck_H hp) (List.Perm.refl _) (fun _ _ => trivial) ?_)
 rintro _ _ ⟨rfl, rfl⟩
 refine VO.nil ?_
 refine VC.sr ?_
 refine VO.mv rfl rfl rfl rfl ?_
 refine VO.mv rfl rfl rfl rfl ?_
 refine VO.val rfl rfl (OpV.nilCheck rfl rfl) ?_
 refine VO.val rfl rfl (OpV.fieldAddrO 1 rfl Tryz.underlying252 rfl rfl Tryz.sizeOf250 rfl) ?_
 refine VO.val rfl rfl (OpV.load_own (i := 0) rfl hB Tryz.isAgg250 rfl rfl rfl (fun h => h)) ?_
 refine VO.mv rfl rfl rfl rfl ?_
 refine VO.op rfl (OpE.appendStr (i := 1) rfl hB rfl Tryz.underlying250 Tryz.underlying9 (infoOf Tryz.t5 1 (by kernel_rfl) rfl rfl) rfl rfl rfl (by omega) (fun _ _ => trivial) ?_)
 intro u14
 refine VO.rowIs (i := 1) rfl (fun b14 c14 hu14 => ?_)
 subst hu14
 refine VO.val rfl rfl (OpV.nilCheck rfl rfl) ?_
 refine VO.val rfl rfl (OpV.fieldAddrO 1 rfl Tryz.underlying252 rfl rfl Tryz.sizeOf250 rfl) ?_
 refine VO.op rfl (OpE.store (i := 0) rfl hB rfl Tryz.sizeOf250 rfl rfl rfl rfl rfl rfl (Nle rfl) trivial ?_)
 refine VO.nil ?_
 refine VC.sr ?_
 refine VO.mv rfl rfl rfl rfl ?_
 refine VO.val rfl rfl (OpV.len_s rfl Tryz.underlying9 rfl) ?_
 refine VO.ma rfl rfl rfl rfl ?_
 refine VO.ma rfl rfl rfl rfl ?_
 refine VO.nil ?_
 refine VC.ret ?_
 exact Exists.intro _ (And.intro (RetV.two Tryz.results142 (ResV.tmp rfl) (ResV.tmp rfl)) (⟨_, rfl, rfl⟩))
theorem Builder_Len_H {g : Nat} {p u : Value} {t : ByteArray}  :
  SpecH Tryz.prog 145 [pt g] [bldE g p u, bufE u t] (fun y hp' => y = avI t.size ∧ hp' = [bldE g p u, bufE u t]) := by
 refine SpecH.of_VC Tryz.func145 rfl Tryz.ntmps145 (Nle rfl) fun w A hB => ?_
 refine VC.sr ?_
 refine VO.ma rfl rfl rfl rfl ?_
 refine VO.nil ?_
 refine VC.sr ?_
 refine VO.mv rfl rfl rfl rfl ?_
 refine VO.val rfl rfl (OpV.nilCheck rfl rfl) ?_
 refine VO.val rfl rfl (OpV.fieldAddrO 1 rfl Tryz.underlying252 rfl rfl Tryz.sizeOf250 rfl) ?_
 refine VO.val rfl rfl (OpV.load_own (i := 0) rfl hB Tryz.isAgg250 rfl rfl rfl (fun h => h)) ?_
 refine VO.val rfl rfl (OpV.len_row (i := 1) rfl Tryz.underlying250 rfl rfl) ?_
 refine VO.ma rfl rfl rfl rfl ?_
 refine VO.nil ?_
 refine VC.ret ?_
 exact Exists.intro _ (And.intro (RetV.one Tryz.results145 (ResV.tmp rfl)) (⟨rfl, rfl⟩))
theorem ownsRow_ofB {w : World} {Z : Nat → Prop} {u : Value} {t : ByteArray} {e : TypeId} {B0 : Nat} (h : EntR w Z (.row u t.size 1 (bysA t) e)) (hb : ∀ g, u.ownBlock = some g → B0 ≤ g) : w.ownsRow B0 e 1 u t.size (strCells t) := by
 obtain ⟨h0, h1⟩ := ownsRow_of h
 refine ⟨h0, ?_⟩
 rcases h1 with h1 | ⟨g, cap, cur, rfl, h2, h3⟩
 ·exact .inl h1
 ·exact .inr ⟨g, cap, cur, rfl, hb g rfl, h3⟩
section
variable {B : Bs} {s : St'} {o : Oper} {K : St' → Prop}
theorem OpE.bstr {x : Operand} {ts : Array TypeId} {g i j : Nat} {p u : Value} {d : ByteArray} (ho : o.op = .call { callee := .value (.func 146), args := #[x], argTypes := ts }) (hB : B.Ok) (hd : okd B.nt o.dst = true) (hS : ∀ b, ¬ B.S b)
  (hcall : ∀ us w, (callFunc 146 us).run Tryz.prog w = .ok (.enter 146 us) w) (hx : evO s x = some (pt g)) (hi : s.hp[i]? = some (bldE g p u)) (hp : bldOk g p) (hj : s.hp[j]? = some (bufE u d)) (hne : i ≠ j)
  (hK : K ((St'.mk [] [] s.k).put o.dst (avS d))) : OpE Tryz.prog B AllW s o K := by
 intro a w hr next Qx hn
 have hmi := List.mem_of_getElem? hi
 have hmj := List.mem_of_getElem? hj
 have hnew : ∀ q ∈ s.hp, ∀ b, q.blk = some b → B.w0.heap.size ≤ b := fun q hq b hb => by
  have := hr.isNew (fun b h => hS b h) hq hb
  omega
 have hE := hr.blocks _ hmj
 have hown := ownsRow_ofB hE (B0 := B.w0.heap.size) (fun b hb => hnew _ hmj b hb)
 obtain ⟨c, k1, k2, k3, k4⟩ := hr.blocks _ hmi
 obtain ⟨v0, p0, q0⟩ := k4 0 (by simp)
 obtain ⟨v1, p1, q1⟩ := k4 1 (by simp)
 have e0 : v0 = p := (show Rep w _ (.v p) v0 from q0).eq_v
 have e1 : v1 = u := (show Rep w _ (.v u) v1 from q1).eq_v
 subst e0; subst e1
 have hc2 : c.size = 2 := k2
 have hcc : c = #[v0, v1] := by
  apply Array.ext (by simpa using hc2)
  intro n h1 h2
  have h2' : n < 2 := by simpa using h2
  match n, h2' with
  | 0, _ => have := Array.getElem?_eq_some_iff.1 p0; simp; rw [this.2]
  | 1, _ => have := Array.getElem?_eq_some_iff.1 p1; simp; rw [this.2]
 subst hcc
 have hapart : v1.ownBlock ≠ some g := by
  intro e
  have hh := hr.nodup
  unfold Apart at hh
  have hil := (List.getElem?_eq_some_iff.1 hi).1
  have hjl := (List.getElem?_eq_some_iff.1 hj).1
  rw [List.pairwise_iff_getElem] at hh
  have ei := (List.getElem?_eq_some_iff.1 hi).2
  have ej := (List.getElem?_eq_some_iff.1 hj).2
  rcases Nat.lt_or_gt_of_ne hne with h | h
  ·have := hh i j hil hjl h g (by rw [ei]; rfl)
   rw [ej] at this; exact this e
  ·have := hh j i hjl hil h g (by rw [ej]; exact e)
   rw [ei] at this; exact this rfl
 have hbs : Lib.IsBuilder 252 5 B.w0.heap.size g (Lib.byteCells d.data.toList) w := by
  have hb0 := hnew _ hmi g rfl
  have hrow : w.ownsRow B.w0.heap.size 5 1 v1 (Lib.byteCells d.data.toList).length (Lib.byteCells d.data.toList) := by
   have e2 : (Lib.byteCells d.data.toList) = strCells d := rfl
   rw [e2, strCells_length]; exact hown
  rcases hp with rfl | rfl
  ·exact .inl ⟨hb0, v1, k1, hrow, hapart⟩
  ·exact .inr ⟨hb0, v1, k1, hrow, hapart⟩
 have h1 := Tryz.Builder_String_any B.w0.heap.size g d.data.toList w hbs hr.chg.size
 unfold Oper.wp
 have hxv := hr.evv hx
 simp only [execOp, ho, resolve, Act.eval, Deferred.ofValue, Sem.run_bind, Sem.run_pure, Result.andThen_ok, invoke, hcall, Array.empty_append, Array.append_empty]
 simp only [Oper.upon]
 have hargs : (#[x].map a.eval) = #[ptv g] := by simp [hxv]
 rw [hargs]
 refine h1.mono fun e w' ⟨h2, h3⟩ => ?_
 subst h2
 have hchg : Chg (fun b => B.w0.heap.size ≤ b) w w' := ⟨h3.os, h3.tape, h3.output, h3.size, fun k hk hn => h3.block k (Nat.lt_of_not_le hn)⟩
 have hr' : R B ⟨[], [], s.k⟩ a w' := by
  refine ⟨fun t y hy => (by cases hy), hr.size, hr.defs, fun q hq => (by cases hq), List.Pairwise.nil, ?_, fun q hq => (by cases hq), hB.keep hr.res hchg fun b hb h => ?_⟩
  ·obtain ⟨c1, c2, c3, c4, c5⟩ := hr.chg
   exact ⟨h3.os.trans c1, h3.tape.trans c2, h3.output.trans c3, Nat.le_trans c4 h3.size, fun k hk hn => (h3.block k hk).trans (c5 k hk hn)⟩
  ·have := hB.low b hb; omega
 exact hn _ _ _ hK (hr'.put _ hd _ _ (.v _)) ⟨h3.os, h3.tape, h3.output, h3.size, fun k hk hn => (hn (.inr trivial)).elim⟩
end
end
section
theorem inspect_verdictWords   :
  Spec Tryz.prog 144 [] (fun y => y = avStrs vWords) := by
 refine Spec.of_VC Tryz.func144 rfl Tryz.ntmps144 (Nle rfl) fun w A hB => ?_
 refine VC.sr ?_
 refine VO.ma rfl rfl rfl rfl ?_
 refine VO.nil ?_
 refine VC.sr ?_
 refine VO.op rfl (OpE.buildSlice (zc := #[.string ⟨#[]⟩, .string ⟨#[]⟩, .string ⟨#[]⟩, .string ⟨#[]⟩, .string ⟨#[]⟩, .string ⟨#[]⟩]) rfl hB rfl Tryz.underlying82 Tryz.sizeOf9 Tryz.zeroValue9 (by decide) (by decide) (by kernel_rfl) rfl rfl ?_)
 refine VO.le _ (Le.litsS (t := 1) (xs := vWords) rfl rfl) ?_
 refine VO.ma rfl rfl rfl rfl ?_
 refine VO.nil ?_
 refine VC.ret ?_
 exact Exists.intro _ (And.intro (RetV.one Tryz.results144 (ResV.tmp rfl)) (rfl))
theorem wordL_t {x : LookS} (h : x.bad = true) : badW = wordL x := by rw [wordL, if_pos h]
theorem wordL_f {x : LookS} (h : x.bad = false) : fineW = wordL x := by rw [wordL, if_neg (by rw [h]; simp)]
end
section
theorem OpVN.load_at {P : Program} {B : Bs} {s : St'} {o : Oper} {N : Nat} {W : Nat → Prop} {x : Operand} {t m : Nat} {F : Nat → AV} (ho : o.op = .load t x) (hB : B.Ok) (hW : ∀ b, W b → N ≤ b) (hag : ∀ w, (isAgg t).run P w = .ok false w) (hx : evO s x = some (.at_ m F)) (hm : Nat.blt 0 m = true) : OpVN P B W s o (F 0) N := by
 intro a w hr hN
 have := hr.ev hx
 generalize hv : a.eval x = u at this
 have hm' : 0 < m := by simpa using hm
 cases this with
 | at_ m f' b off c e u hZ hb hc hr' =>
  refine ⟨u 0, fun w' hcw => ?_, hr' 0 hm'⟩
  have hb' := (new_keep hB hr (fun b h => hN ▸ hW b h) hcw hZ).trans hb
  have hcell : w'.cell? ⟨b, off, none⟩ = some (u 0) := by simpa [World.cell?, hb'] using hc 0 hm'
  simp [execOp, ho, hv, Instr.loadAt, Instr.sureAddr, loadVar, hag, load, Sem.run, hcell]
end
section
theorem splitS_sz {c : UInt8} : ∀ (n : Nat) (s : ByteArray), s.size ≤ n → ∀ x ∈ splitS c s, x.size ≤ s.size
 | 0, s, h, x, hx => by
  by_cases hi : Lib.indexByte (byL s) c < 0
  ·rw [splitS_none hi] at hx; simp at hx; subst hx; exact Nat.le_refl _
  ·obtain ⟨m, hm⟩ : ∃ m : Nat, Lib.indexByte (byL s) c = m := ⟨(Lib.indexByte (byL s) c).toNat, by omega⟩
   have := (splitS_some hm).1
   omega
 | n + 1, s, h, x, hx => by
  by_cases hi : Lib.indexByte (byL s) c < 0
  ·rw [splitS_none hi] at hx; simp at hx; subst hx; exact Nat.le_refl _
  ·obtain ⟨m, hm⟩ : ∃ m : Nat, Lib.indexByte (byL s) c = m := ⟨(Lib.indexByte (byL s) c).toNat, by omega⟩
   obtain ⟨h1, h2⟩ := splitS_some hm
   rw [h2] at hx
   rcases List.mem_cons.1 hx with rfl | hx
   ·rw [ByteArray.size_extract]; omega
   ·have hz : (s.extract (m + 1) s.size).size ≤ n := by rw [ByteArray.size_extract]; omega
    have := splitS_sz n _ hz x hx
    rw [ByteArray.size_extract] at this
    omega
theorem getD_sz {l : List ByteArray} {n : Nat} (h : ∀ x ∈ l, x.size ≤ n) (i : Nat) : (l.getD i ByteArray.empty).size ≤ n := by
 rw [List.getD_eq_getElem?_getD]
 cases hi : l[i]? with
 | none => exact Nat.zero_le _
 | some x => exact h x (List.mem_of_getElem? hi)
theorem splitS_get (c : UInt8) (s : ByteArray) (i : Nat) : ((splitS c s).getD i ByteArray.empty).size ≤ s.size := getD_sz (splitS_sz s.size s (Nat.le_refl _)) i
theorem splitS_length (c : UInt8) (s : ByteArray) : (splitS c s).length ≤ s.size + 1 := by
 rw [splitS_len]
 have : Lib.countByte (byL s) c ≤ s.size := by rw [← byL_len]; exact List.count_le_length
 omega
theorem linesR_get (s : ByteArray) (i : Nat) : ((linesR s).getD i ByteArray.empty).size ≤ s.size := by
 unfold linesR
 split
 ·simp
 ·exact Nat.le_trans (splitS_get _ _ i) (trimSuffix_size s ⟨#[10]⟩)
theorem linesR_length (s : ByteArray) : (linesR s).length ≤ s.size + 1 := by
 unfold linesR
 split
 ·exact Nat.zero_le _
 ·have := splitS_length 10 (bytesOf (Lib.trimSuffix (byL s) [10]))
  have h2 := trimSuffix_size s ⟨#[10]⟩
  have h3 : (bytesOf (Lib.trimSuffix (byL s) [10])).size ≤ s.size := h2
  omega
abbrev w8 (s : ByteArray) (i : Nat) : ByteArray := (splitS 32 s).getD i ByteArray.empty
def vIx (w : ByteArray) : Int := fidx (fun x => sEq w x) vWords
def okLk (s : ByteArray) : Bool := wordsB s && (decide ((splitS 32 s).length = 8) && (numE (w8 s 0) 15 && (decide (1 ≤ vIx (w8 s 3)) && (sEq (w8 s 4) badW || sEq (w8 s 4) fineW))))
def lkOf (s : ByteArray) : LookS := ⟨w8 s 1, w8 s 2, numV (w8 s 0) 15, vIx (w8 s 3), sEq (w8 s 4) badW, w8 s 5, w8 s 6, w8 s 7⟩
theorem okLk_8 {s : ByteArray} (h1 : wordsB s = true) (h2 : (splitS 32 s).length = 8) : okLk s = (numE (w8 s 0) 15 && (decide (1 ≤ vIx (w8 s 3)) && (sEq (w8 s 4) badW || sEq (w8 s 4) fineW))) := by
 unfold okLk; rw [h1, decide_eq_true h2, Bool.true_and, Bool.true_and]
theorem okLk_no {s : ByteArray} (h : wordsB s = false ∨ (splitS 32 s).length ≠ 8) : okLk s = false := by
 unfold okLk
 rcases h with h | h
 ·rw [h]; rfl
 ·rw [decide_eq_false h]; simp
abbrev okL1 : List ByteArray → ByteArray → Bool := fun _ x => okLk x
abbrev lkBad (text : ByteArray) : Option Nat := lnF (okAt okL1 (linesR text)) (linesR text) (linesE text)
def lkRead (text : ByteArray) : List LookS × Int × Int :=
 if 200000 < text.size then ([], 0, 2)
 else match lkBad text with
  | some i => ([], (i : Int), 9)
  | none => if lookF ((linesR text).map lkOf) = 0 then ((linesR text).map lkOf, 0, 0) else ([], 0, lookF ((linesR text).map lkOf))
section
variable {text : ByteArray}
theorem lkRead_2 (h : 200000 < text.size) : lkRead text = ([], 0, 2) := by rw [lkRead, if_pos h]
theorem lkRead_9 (h : ¬ 200000 < text.size) {i : Nat} (hi : lkBad text = some i) : lkRead text = ([], (i : Int), 9) := by rw [lkRead, if_neg h, hi]
theorem lkRead_e (h : ¬ 200000 < text.size) (hi : lkBad text = none) (hf : lookF ((linesR text).map lkOf) ≠ 0) : lkRead text = ([], 0, lookF ((linesR text).map lkOf)) := by rw [lkRead, if_neg h, hi]; simp only; rw [if_neg hf]
theorem lkRead_0 (h : ¬ 200000 < text.size) (hi : lkBad text = none) (hf : lookF ((linesR text).map lkOf) = 0) : lkRead text = ((linesR text).map lkOf, 0, 0) := by rw [lkRead, if_neg h, hi]; simp only; rw [if_pos hf]
theorem lkOf_sm {n : Nat} {s : ByteArray} (h : s.size ≤ n) : (lkOf s).board.size ≤ n ∧ (lkOf s).name.size ≤ n ∧ (lkOf s).machine.size ≤ n ∧ (lkOf s).nozzle.size ≤ n ∧ (lkOf s).reel.size ≤ n :=
 ⟨Nat.le_trans (splitS_get _ _ _) h, Nat.le_trans (splitS_get _ _ _) h, Nat.le_trans (splitS_get _ _ _) h, Nat.le_trans (splitS_get _ _ _) h, Nat.le_trans (splitS_get _ _ _) h⟩
theorem lkOf_SmLk {ls : List ByteArray} {n : Nat} (hn : n ≤ 1000000) (hl : ls.length ≤ 1000000) (h : ∀ i, (ls.getD i ByteArray.empty).size ≤ n) : SmLk (ls.map lkOf) := by
 have hg : ∀ i, ((ls.map lkOf).getD i default).board.size ≤ 1000000 ∧ ((ls.map lkOf).getD i default).name.size ≤ 1000000 ∧ ((ls.map lkOf).getD i default).machine.size ≤ 1000000 ∧ ((ls.map lkOf).getD i default).nozzle.size ≤ 1000000 ∧ ((ls.map lkOf).getD i default).reel.size ≤ 1000000 := fun i => by
  by_cases hi : i < ls.length
  ·have e : (ls.map lkOf).getD i default = lkOf (ls.getD i ByteArray.empty) := by simp [List.getD_eq_getElem?_getD, hi]
   rw [e]
   exact lkOf_sm (Nat.le_trans (h i) hn)
  ·have e : (ls.map lkOf).getD i default = default := by rw [List.getD_eq_getElem?_getD, List.getElem?_eq_none (by rw [List.length_map]; omega)]; rfl
   rw [e]
   exact ⟨Nat.zero_le _, Nat.zero_le _, Nat.zero_le _, Nat.zero_le _, Nat.zero_le _⟩
 exact ⟨by rw [List.length_map]; exact hl, fun i => (hg i).1, fun i => (hg i).2.1, fun i => (hg i).2.2.1, fun i => (hg i).2.2.2.1, fun i => (hg i).2.2.2.2⟩
theorem lkMap_take {ls : List ByteArray} {q : Nat} (h : q < ls.length) : (ls.take (q + 1)).map lkOf = (ls.take q).map lkOf ++ [lkOf (ls.getD q ByteArray.empty)] := by
 have : ls.take (q + 1) = ls.take q ++ [ls.getD q ByteArray.empty] := by
  rw [List.take_succ_eq_append_getElem h]; simp [List.getD_eq_getElem?_getD, h]
 rw [this, List.map_append]; rfl
theorem lnBad_at {ls : List ByteArray} {e : Bool} {q : Nat} : lnBad (okAt okL1 ls) ls e q = (!okLk (ls.getD q ByteArray.empty) || (!e && decide (q + 1 = ls.length))) := rfl
end
theorem rd_out {x : LookS} {a b : Bool} (h : a = b) : AV.tup [avT x, avB a] = AV.tup [avT x, avB b] := by rw [h]
section
variable {o A B C D : Bool} (h : o = (A && (B && (C || D))))
include h
theorem rd1 (h1 : A = false) : false = o := by rw [h, h1]; rfl
theorem rd2 (h1 : A = true) (h2 : B = false) : false = o := by rw [h, h1, h2]; rfl
theorem rd3 (h1 : A = true) (h2 : B = true) (h3 : C = true) : true = o := by rw [h, h1, h2, h3]; rfl
theorem rd4 (h1 : A = true) (h2 : B = true) (h3 : C = false) : D = o := by rw [h, h1, h2, h3]; rfl
end
set_option maxHeartbeats 4000000 in
theorem inspect_readLine {s : ByteArray} (hs : s.size ≤ 10000000) :
    SpecN Tryz.prog 148 [avS s] (fun y => ∃ x : LookS, (okLk s = true → x = lkOf s) ∧ y = .tup [avT x, avB (okLk s)]) := by
  refine SpecN.of_VCN Tryz.func148 rfl Tryz.ntmps148 (Nle rfl) fun w A hB => ?_
  have hnew : True := trivial
  refine VC.sr ?_
  refine VO.op rfl (OpE.alloc rfl hB rfl Tryz.zeroValue124 rfl ?_)
  intro g2
  refine VO.ma rfl rfl rfl rfl ?_
  refine VO.nil ?_
  refine VC.seq ?_
  have hwl := splitS_length 32 s
  have hwz := splitS_get 32 s
  refine VC.region ?_
  refine VO.mv rfl rfl rfl rfl ?_
  refine VO.op rfl (OpE.call rfl hB rfl Tryz.call220 rfl (kit_Words (by omega)) ?_)
  rintro _ rfl
  obtain ⟨wb, hwb⟩ : ∃ wb, wordsB s = wb := ⟨_, rfl⟩
  rw [hwb]
  have hwr : wb = true → wordsR s = splitS 32 s := fun e => by rw [wordsR, if_pos (by rw [hwb]; exact e)]
  have hwr0 : wb = false → wordsR s = [] := fun e => by rw [wordsR, if_neg (by rw [hwb, e]; simp)]
  refine VO.mv rfl rfl rfl rfl ?_
  refine VO.val rfl rfl (OpV.extract rfl rfl rfl) ?_
  refine VO.val rfl rfl (OpV.extract rfl rfl rfl) ?_
  refine VO.ma rfl rfl rfl rfl ?_
  refine VO.ma rfl rfl rfl rfl ?_
  refine VO.nil ?_
  refine VC.seq ?_
  refine VC.sr ?_
  refine VO.mv rfl rfl rfl rfl ?_
  refine VO.val rfl rfl (OpV.not rfl rfl) ?_
  refine VO.mv rfl rfl rfl rfl ?_
  refine VO.opG rfl rfl rfl rfl (fun aK1b => ?_) (fun aK1b => ?_)
  · replace aK1b : _ = false := aK1b
    have aK1 := aK1b
    try simp only [qq] at aK1
    refine OpE.val (W := NoB) (OpV.move (.inl rfl) rfl) rfl ?_
    refine VO.opY rfl rfl rfl rfl aK1b ?_
    refine OpE.val (W := NoB) (OpV.len_im rfl Tryz.underlying82 rfl) rfl ?_
    refine VO.opY rfl rfl rfl rfl aK1b ?_
    refine OpE.val (W := NoB) (OpV.neq rfl rfl rfl) rfl ?_
    refine VO.val rfl rfl (OpV.pickF rfl rfl rfl rfl aK1b) ?_
    refine VO.nil ?_
    refine VC.cond rfl (fun h0b => ?_) (fun h0b => ?_)
    · have h0 := h0b
      try simp only [qq] at h0
      have hno : okLk s = false := okLk_no (.inr (by rw [← hwr (by assumption)]; omega))
      refine VC.sr ?_
      refine VO.val rfl rfl (OpV.build (pls := #[(0, 1), (1, 1), (2, 1), (3, 1), (4, 1), (5, 1), (6, 1), (7, 1)]) rfl Tryz.zeroValue124 Tryz.underlying124 (fun w => by kernel_rfl) rfl rfl) ?_
      refine VO.op rfl (OpE.store (i := 0) rfl hB rfl Tryz.sizeOf124 rfl rfl rfl rfl rfl rfl (Nle rfl) trivial ?_)
      refine VO.ma rfl rfl rfl rfl ?_
      refine VO.nil ?_
      refine VC.ret ?_
      exact Exists.intro _ (And.intro (RetN.two Tryz.results148 ((by first | exact ResN.cellF (i := 0) Tryz.isAgg124 Tryz.sizeOf124 rfl rfl rfl (flat_ofB rfl))) (ResN.v rfl)) (⟨default, (fun e => by rw [hno] at e; (cases e)), by rw [hno]; rfl⟩))
    · have h0 := h0b
      try simp only [qq] at h0
      have hwt : wb = true := by simp_all
      have hok : okLk s = (numE ((splitS 32 s).getD 0 ByteArray.empty) 15 && (decide (1 ≤ vIx ((splitS 32 s).getD 3 ByteArray.empty)) && (sEq ((splitS 32 s).getD 4 ByteArray.empty) badW || sEq ((splitS 32 s).getD 4 ByteArray.empty) fineW))) := okLk_8 (by rw [hwb, hwt]) (by rw [← hwr hwt]; omega)
      have hl8 : (splitS 32 s).length = 8 := by rw [← hwr hwt]; omega
      refine VC.le _ (Le.recast (t := 4) (y := avStrs (splitS 32 s)) rfl (fun w Z u h => by rw [← hwr hwt]; exact h)) ?_
      obtain ⟨ws, hws⟩ : ∃ ws, splitS 32 s = ws := ⟨_, rfl⟩
      rw [hws] at hl8 hwz hok ⊢
      refine VC.skip ?_
      refine VC.sr ?_
      refine VO.mv rfl rfl rfl rfl ?_
      refine VO.val rfl rfl (OpV.indexAddr_1 rfl Tryz.underlying82 Tryz.sizeOf9 rfl rfl (Int.toNat_of_nonneg (by omega)).symm (by omega)) ?_
      refine VO.val rfl rfl (OpV.load_at rfl hB OutW.no Tryz.isAgg9 rfl rfl) ?_
      refine VO.op rfl (OpE.call rfl hB rfl Tryz.call221 rfl (SpecN.spec (kit_Number (Nat.le_trans (hwz 0) (by omega)) (by decide) (by decide))) ?_)
      rintro _ rfl
      refine VO.mv rfl rfl rfl rfl ?_
      refine VO.val rfl rfl (OpV.extract rfl rfl rfl) ?_
      refine VO.val rfl rfl (OpV.extract rfl rfl rfl) ?_
      refine VO.ma rfl rfl rfl rfl ?_
      refine VO.ma rfl rfl rfl rfl ?_
      refine VO.nil ?_
      refine VC.seq ?_
      refine VC.drawN (fun N j b => j ∈ [27] ∧ N ≤ b) hB (by kernel_rfl) (fun N hN => ?_)
      refine VN.take (i := 0) rfl (by kernel_rfl) (by kernel_rfl) (by kernel_rfl) rfl rfl (OpVN.of (OpV.move (.inl rfl) rfl)) ?_
      refine VN.take (i := 1) rfl (by kernel_rfl) (by kernel_rfl) (by kernel_rfl) rfl rfl (OpVN.of (OpV.move (.inl rfl) rfl)) ?_
      refine VN.take (i := 2) rfl (by kernel_rfl) (by kernel_rfl) (by kernel_rfl) rfl rfl (OpVN.of (OpV.indexAddr_1 rfl Tryz.underlying82 Tryz.sizeOf9 rfl rfl (Int.toNat_of_nonneg (by omega)).symm (by omega))) ?_
      refine VN.take (i := 3) rfl (by kernel_rfl) (by kernel_rfl) (by kernel_rfl) rfl rfl (OpVN.load_at rfl hB (fun b ⟨_, _, _, h⟩ => h) Tryz.isAgg9 rfl rfl) ?_
      refine VN.take (i := 4) rfl (by kernel_rfl) (by kernel_rfl) (by kernel_rfl) rfl rfl (OpVN.of (OpV.move (.inl rfl) rfl)) ?_
      refine VN.take (i := 5) rfl (by kernel_rfl) (by kernel_rfl) (by kernel_rfl) rfl rfl (OpVN.of (OpV.indexAddr_1 rfl Tryz.underlying82 Tryz.sizeOf9 rfl rfl (Int.toNat_of_nonneg (by omega)).symm (by omega))) ?_
      refine VN.take (i := 6) rfl (by kernel_rfl) (by kernel_rfl) (by kernel_rfl) rfl rfl (OpVN.load_at rfl hB (fun b ⟨_, _, _, h⟩ => h) Tryz.isAgg9 rfl rfl) ?_
      refine VN.take (i := 8) rfl (by kernel_rfl) (by kernel_rfl) (by kernel_rfl) rfl rfl (OpVN.of (OpV.move (.inl rfl) rfl)) ?_
      refine VN.take (i := 9) rfl (by kernel_rfl) (by kernel_rfl) (by kernel_rfl) rfl rfl (OpVN.of (OpV.indexAddr_1 rfl Tryz.underlying82 Tryz.sizeOf9 rfl rfl (Int.toNat_of_nonneg (by omega)).symm (by omega))) ?_
      refine VN.take (i := 10) rfl (by kernel_rfl) (by kernel_rfl) (by kernel_rfl) rfl rfl (OpVN.load_at rfl hB (fun b ⟨_, _, _, h⟩ => h) Tryz.isAgg9 rfl rfl) ?_
      refine VN.take (i := 12) rfl (by kernel_rfl) (by kernel_rfl) (by kernel_rfl) rfl rfl (OpVN.of (OpV.move (.inl rfl) rfl)) ?_
      refine VN.take (i := 13) rfl (by kernel_rfl) (by kernel_rfl) (by kernel_rfl) rfl rfl (OpVN.of (OpV.indexAddr_1 rfl Tryz.underlying82 Tryz.sizeOf9 rfl rfl (Int.toNat_of_nonneg (by omega)).symm (by omega))) ?_
      refine VN.take (i := 14) rfl (by kernel_rfl) (by kernel_rfl) (by kernel_rfl) rfl rfl (OpVN.load_at rfl hB (fun b ⟨_, _, _, h⟩ => h) Tryz.isAgg9 rfl rfl) ?_
      refine VN.take (i := 15) rfl (by kernel_rfl) (by kernel_rfl) (by kernel_rfl) rfl rfl (OpVN.of (OpV.seql rfl rfl rfl)) ?_
      refine VN.take (i := 16) rfl (by kernel_rfl) (by kernel_rfl) (by kernel_rfl) rfl rfl (OpVN.of (OpV.move (.inl rfl) rfl)) ?_
      refine VN.take (i := 17) rfl (by kernel_rfl) (by kernel_rfl) (by kernel_rfl) rfl rfl (OpVN.of (OpV.indexAddr_1 rfl Tryz.underlying82 Tryz.sizeOf9 rfl rfl (Int.toNat_of_nonneg (by omega)).symm (by omega))) ?_
      refine VN.take (i := 18) rfl (by kernel_rfl) (by kernel_rfl) (by kernel_rfl) rfl rfl (OpVN.load_at rfl hB (fun b ⟨_, _, _, h⟩ => h) Tryz.isAgg9 rfl rfl) ?_
      refine VN.take (i := 19) rfl (by kernel_rfl) (by kernel_rfl) (by kernel_rfl) rfl rfl (OpVN.of (OpV.move (.inl rfl) rfl)) ?_
      refine VN.take (i := 20) rfl (by kernel_rfl) (by kernel_rfl) (by kernel_rfl) rfl rfl (OpVN.of (OpV.indexAddr_1 rfl Tryz.underlying82 Tryz.sizeOf9 rfl rfl (Int.toNat_of_nonneg (by omega)).symm (by omega))) ?_
      refine VN.take (i := 21) rfl (by kernel_rfl) (by kernel_rfl) (by kernel_rfl) rfl rfl (OpVN.load_at rfl hB (fun b ⟨_, _, _, h⟩ => h) Tryz.isAgg9 rfl rfl) ?_
      refine VN.take (i := 22) rfl (by kernel_rfl) (by kernel_rfl) (by kernel_rfl) rfl rfl (OpVN.of (OpV.move (.inl rfl) rfl)) ?_
      refine VN.take (i := 23) rfl (by kernel_rfl) (by kernel_rfl) (by kernel_rfl) rfl rfl (OpVN.of (OpV.indexAddr_1 rfl Tryz.underlying82 Tryz.sizeOf9 rfl rfl (Int.toNat_of_nonneg (by omega)).symm (by omega))) ?_
      refine VN.take (i := 24) rfl (by kernel_rfl) (by kernel_rfl) (by kernel_rfl) rfl rfl (OpVN.load_at rfl hB (fun b ⟨_, _, _, h⟩ => h) Tryz.isAgg9 rfl rfl) ?_
      refine VN.toM ?_
      refine VM.all (rs := [7, 26]) (by kernel_rfl) (by decide) ?_
      refine ⟨⟨_, rfl, rfl, ?_⟩, ⟨_, rfl, rfl, ?_⟩, trivial⟩
      ·
        refine OpM.of ?_
        refine OpE.call rfl hB rfl Tryz.call144 rfl (inspect_verdictWords) ?_
        rintro _ rfl
        refine VM.all (rs := [11, 26]) (by kernel_rfl) (by decide) ?_
        refine ⟨⟨_, rfl, rfl, ?_⟩, ⟨_, rfl, rfl, ?_⟩, trivial⟩
        ·
          refine OpM.of ?_
          refine OpE.call rfl hB rfl Tryz.call170 rfl (SpecN.spec (slices_Index_str (by decide))) ?_
          rintro _ rfl
          refine VM.take (i := 25) rfl (by kernel_rfl) (by kernel_rfl) (by kernel_rfl) rfl rfl (OpV.build (pls := #[(0, 1), (1, 1), (2, 1), (3, 1), (4, 1), (5, 1), (6, 1), (7, 1)]) rfl Tryz.zeroValue124 Tryz.underlying124 (fun w => by kernel_rfl) rfl rfl) ?_
          refine VM.all (rs := [26]) (by kernel_rfl) (by decide) ?_
          refine ⟨⟨_, rfl, rfl, ?_⟩, trivial⟩
          refine OpM.alloc rfl hB rfl Tryz.zeroValue124 rfl ?_
          intro g7 hg7
          refine VM.all (rs := [27]) (by kernel_rfl) (by decide) ?_
          refine ⟨⟨_, rfl, rfl, ?_⟩, trivial⟩
          refine OpM.of ?_
          refine OpE.store (i := 1) rfl hB rfl Tryz.sizeOf124 rfl rfl rfl rfl rfl rfl (Nle rfl) ⟨by decide, by assumption⟩ ?_
          refine VM.done (by kernel_rfl) ?_
          refine VC.seq ?_
          have hlo : lkOf s = ⟨ws.getD 1 ByteArray.empty, ws.getD 2 ByteArray.empty, numV (ws.getD 0 ByteArray.empty) 15, vIx (ws.getD 3 ByteArray.empty), sEq (ws.getD 4 ByteArray.empty) badW, ws.getD 5 ByteArray.empty, ws.getD 6 ByteArray.empty, ws.getD 7 ByteArray.empty⟩ := by rw [← hws]; rfl
          obtain ⟨x, hx⟩ : ∃ x : LookS, x = ⟨ws.getD 1 ByteArray.empty, ws.getD 2 ByteArray.empty, numV (ws.getD 0 ByteArray.empty) 15, vIx (ws.getD 3 ByteArray.empty), sEq (ws.getD 4 ByteArray.empty) badW, ws.getD 5 ByteArray.empty, ws.getD 6 ByteArray.empty, ws.getD 7 ByteArray.empty⟩ := ⟨_, rfl⟩
          refine VC.le _ (Le.freezeAt (t := 7) (m := 8) (f := Sxc.cell x) (i := 1) rfl rfl (Nat.le_refl _) (fun w Z u h => h.at_congr (g := Sxc.cell x) (by subst hx; exact lt8 rfl rfl rfl rfl rfl rfl rfl rfl)) hnew hB) ?_
          have hxo : x = lkOf s := by rw [hx, hlo]
          have hx3 : x.verdict = vIx (ws.getD 3 ByteArray.empty) := by rw [hx]
          have hx4 : x.bad = sEq (ws.getD 4 ByteArray.empty) badW := by rw [hx]
          have hok2 : okLk s = (numE (ws.getD 0 ByteArray.empty) 15 && (decide (1 ≤ x.verdict) && (x.bad || sEq (ws.getD 4 ByteArray.empty) fineW))) := by rw [hx3, hx4]; exact hok
          refine VC.draw (fun j b => j = 17 ∧ b = g2) hB (by kernel_rfl) ?_
          refine VA.take (i := 0) rfl (by kernel_rfl) (by kernel_rfl) (by kernel_rfl) rfl rfl (OpV.loadK_at rfl hB (by first | exact OutW.wi1 (k := 0) rfl rfl | exact OutW.wi1 (k := 1) rfl rfl) Tryz.isAgg124 Tryz.sizeOf124 rfl rfl) ?_
          refine VA.take (i := 1) rfl (by kernel_rfl) (by kernel_rfl) (by kernel_rfl) rfl rfl (OpV.move (.inl rfl) rfl) ?_
          refine VA.take (i := 2) rfl (by kernel_rfl) (by kernel_rfl) (by kernel_rfl) rfl rfl (OpV.move (.inl rfl) rfl) ?_
          refine VA.split (t := 56) rfl (fun aK2b => ?_) (fun aK2b => ?_)
          · have aK2 := aK2b
            try simp only [qq] at aK2
            refine VA.takeY (i := 3) rfl (by kernel_rfl) (by kernel_rfl) (by kernel_rfl) rfl rfl rfl rfl aK2b (OpV.fieldAddr_atO 3 rfl Tryz.underlying124 rfl rfl Tryz.sizeOf3 rfl rfl) ?_
            refine VA.takeY (i := 4) rfl (by kernel_rfl) (by kernel_rfl) (by kernel_rfl) rfl rfl rfl rfl aK2b (OpV.load_at rfl hB (by first | exact OutW.wi1 (k := 0) rfl rfl | exact OutW.wi1 (k := 1) rfl rfl) Tryz.isAgg3 rfl rfl) ?_
            refine VA.takeY (i := 5) rfl (by kernel_rfl) (by kernel_rfl) (by kernel_rfl) rfl rfl rfl rfl aK2b (OpV.geq rfl rfl rfl) ?_
            refine VA.take (i := 6) rfl (by kernel_rfl) (by kernel_rfl) (by kernel_rfl) rfl rfl (OpV.pickT rfl rfl rfl rfl aK2b) ?_
            refine VA.take (i := 7) rfl (by kernel_rfl) (by kernel_rfl) (by kernel_rfl) rfl rfl (OpV.move (.inl rfl) rfl) ?_
            refine VA.split (t := 61) rfl (fun aK3b => ?_) (fun aK3b => ?_)
            · have aK3 := aK3b
              try simp only [qq] at aK3
              refine VA.takeY (i := 8) rfl (by kernel_rfl) (by kernel_rfl) (by kernel_rfl) rfl rfl rfl rfl aK3b (OpV.fieldAddr_atO 4 rfl Tryz.underlying124 rfl rfl Tryz.sizeOf4 rfl rfl) ?_
              refine VA.takeY (i := 9) rfl (by kernel_rfl) (by kernel_rfl) (by kernel_rfl) rfl rfl rfl rfl aK3b (OpV.load_at rfl hB (by first | exact OutW.wi1 (k := 0) rfl rfl | exact OutW.wi1 (k := 1) rfl rfl) Tryz.isAgg4 rfl rfl) ?_
              refine VA.takeY (i := 10) rfl (by kernel_rfl) (by kernel_rfl) (by kernel_rfl) rfl rfl rfl rfl aK3b (OpV.move (.inl rfl) rfl) ?_
              refine VA.split (t := 64) rfl (fun aK4b => ?_) (fun aK4b => ?_)
              · have aK4 := aK4b
                try simp only [qq] at aK4
                refine VA.takeX (i := 11) rfl (by kernel_rfl) (by kernel_rfl) (by kernel_rfl) rfl rfl rfl rfl aK4b ?_
                refine VA.takeX (i := 12) rfl (by kernel_rfl) (by kernel_rfl) (by kernel_rfl) rfl rfl rfl rfl aK4b ?_
                refine VA.takeX (i := 13) rfl (by kernel_rfl) (by kernel_rfl) (by kernel_rfl) rfl rfl rfl rfl aK4b ?_
                refine VA.takeX (i := 14) rfl (by kernel_rfl) (by kernel_rfl) (by kernel_rfl) rfl rfl rfl rfl aK4b ?_
                refine VA.takeY (i := 15) rfl (by kernel_rfl) (by kernel_rfl) (by kernel_rfl) rfl rfl rfl rfl aK3b (OpV.pickT rfl rfl rfl rfl aK4b) ?_
                refine VA.take (i := 16) rfl (by kernel_rfl) (by kernel_rfl) (by kernel_rfl) rfl rfl (OpV.pickT rfl rfl rfl rfl aK3b) ?_
                refine VA.all (rs := [17]) (by kernel_rfl) (by decide) ?_
                refine ⟨⟨_, rfl, .inl rfl, ?_⟩, trivial⟩
                refine OpE.store (i := 0) rfl hB rfl Tryz.sizeOf124 rfl rfl rfl rfl rfl rfl (Nle rfl) (by first | exact ⟨rfl, rfl⟩ | exact .inl ⟨rfl, rfl⟩ | exact .inr ⟨rfl, rfl⟩ | exact ⟨rfl, trivial⟩ | exact .inl ⟨rfl, trivial⟩ | exact .inr ⟨rfl, trivial⟩ | exact ⟨by decide, rfl⟩) ?_
                refine VA.take (i := 18) rfl (by kernel_rfl) (by kernel_rfl) (by kernel_rfl) rfl rfl (OpV.move (.inr rfl) rfl) ?_
                refine VA.done (by kernel_rfl) ?_
                refine VC.ret ?_
                exact Exists.intro _ (And.intro (RetN.two Tryz.results148 ((by first | exact ResN.cellF (i := 0) Tryz.isAgg124 Tryz.sizeOf124 rfl rfl rfl (flat_ofB rfl) | exact ResN.cellF (i := 1) Tryz.isAgg124 Tryz.sizeOf124 rfl rfl rfl (flat_ofB rfl))) (ResN.v rfl)) (by first | exact ⟨x, fun _ => hxo, rd_out (rd1 hok2 (by assumption))⟩ | exact ⟨x, fun _ => hxo, rd_out (rd2 hok2 (by assumption) (by assumption))⟩ | exact ⟨x, fun _ => hxo, rd_out (rd3 hok2 (by assumption) (by assumption) (by assumption))⟩ | exact ⟨x, fun _ => hxo, rd_out (rd4 hok2 (by assumption) (by assumption) (by assumption))⟩))
              · have aK4 := aK4b
                try simp only [qq] at aK4
                refine VA.takeY (i := 11) rfl (by kernel_rfl) (by kernel_rfl) (by kernel_rfl) rfl rfl rfl rfl aK4b (OpV.move (.inl rfl) rfl) ?_
                refine VA.takeY (i := 12) rfl (by kernel_rfl) (by kernel_rfl) (by kernel_rfl) rfl rfl rfl rfl aK4b (OpV.indexAddr_1 rfl Tryz.underlying82 Tryz.sizeOf9 rfl rfl (Int.toNat_of_nonneg (by omega)).symm (by omega)) ?_
                refine VA.takeY (i := 13) rfl (by kernel_rfl) (by kernel_rfl) (by kernel_rfl) rfl rfl rfl rfl aK4b (OpV.load_at rfl hB (by first | exact OutW.wi1 (k := 0) rfl rfl | exact OutW.wi1 (k := 1) rfl rfl) Tryz.isAgg9 rfl rfl) ?_
                refine VA.takeY (i := 14) rfl (by kernel_rfl) (by kernel_rfl) (by kernel_rfl) rfl rfl rfl rfl aK4b (OpV.seql rfl rfl rfl) ?_
                refine VA.takeY (i := 15) rfl (by kernel_rfl) (by kernel_rfl) (by kernel_rfl) rfl rfl rfl rfl aK3b (OpV.pickF rfl rfl rfl rfl aK4b) ?_
                refine VA.take (i := 16) rfl (by kernel_rfl) (by kernel_rfl) (by kernel_rfl) rfl rfl (OpV.pickT rfl rfl rfl rfl aK3b) ?_
                refine VA.all (rs := [17]) (by kernel_rfl) (by decide) ?_
                refine ⟨⟨_, rfl, .inl rfl, ?_⟩, trivial⟩
                refine OpE.store (i := 0) rfl hB rfl Tryz.sizeOf124 rfl rfl rfl rfl rfl rfl (Nle rfl) (by first | exact ⟨rfl, rfl⟩ | exact .inl ⟨rfl, rfl⟩ | exact .inr ⟨rfl, rfl⟩ | exact ⟨rfl, trivial⟩ | exact .inl ⟨rfl, trivial⟩ | exact .inr ⟨rfl, trivial⟩ | exact ⟨by decide, rfl⟩) ?_
                refine VA.take (i := 18) rfl (by kernel_rfl) (by kernel_rfl) (by kernel_rfl) rfl rfl (OpV.move (.inr rfl) rfl) ?_
                refine VA.done (by kernel_rfl) ?_
                refine VC.ret ?_
                exact Exists.intro _ (And.intro (RetN.two Tryz.results148 ((by first | exact ResN.cellF (i := 0) Tryz.isAgg124 Tryz.sizeOf124 rfl rfl rfl (flat_ofB rfl) | exact ResN.cellF (i := 1) Tryz.isAgg124 Tryz.sizeOf124 rfl rfl rfl (flat_ofB rfl))) (ResN.v rfl)) (by first | exact ⟨x, fun _ => hxo, rd_out (rd1 hok2 (by assumption))⟩ | exact ⟨x, fun _ => hxo, rd_out (rd2 hok2 (by assumption) (by assumption))⟩ | exact ⟨x, fun _ => hxo, rd_out (rd3 hok2 (by assumption) (by assumption) (by assumption))⟩ | exact ⟨x, fun _ => hxo, rd_out (rd4 hok2 (by assumption) (by assumption) (by assumption))⟩))
            · have aK3 := aK3b
              try simp only [qq] at aK3
              refine VA.takeX (i := 8) rfl (by kernel_rfl) (by kernel_rfl) (by kernel_rfl) rfl rfl rfl rfl aK3b ?_
              refine VA.takeX (i := 9) rfl (by kernel_rfl) (by kernel_rfl) (by kernel_rfl) rfl rfl rfl rfl aK3b ?_
              refine VA.takeX (i := 10) rfl (by kernel_rfl) (by kernel_rfl) (by kernel_rfl) rfl rfl rfl rfl aK3b ?_
              refine VA.takeU (i := 11) rfl (by kernel_rfl) (by kernel_rfl) (by kernel_rfl) rfl rfl rfl rfl ?_
              refine VA.takeU (i := 12) rfl (by kernel_rfl) (by kernel_rfl) (by kernel_rfl) rfl rfl rfl rfl ?_
              refine VA.takeU (i := 13) rfl (by kernel_rfl) (by kernel_rfl) (by kernel_rfl) rfl rfl rfl rfl ?_
              refine VA.takeU (i := 14) rfl (by kernel_rfl) (by kernel_rfl) (by kernel_rfl) rfl rfl rfl rfl ?_
              refine VA.takeX (i := 15) rfl (by kernel_rfl) (by kernel_rfl) (by kernel_rfl) rfl rfl rfl rfl aK3b ?_
              refine VA.take (i := 16) rfl (by kernel_rfl) (by kernel_rfl) (by kernel_rfl) rfl rfl (OpV.pickF rfl rfl rfl rfl aK3b) ?_
              refine VA.all (rs := [17]) (by kernel_rfl) (by decide) ?_
              refine ⟨⟨_, rfl, .inl rfl, ?_⟩, trivial⟩
              refine OpE.store (i := 0) rfl hB rfl Tryz.sizeOf124 rfl rfl rfl rfl rfl rfl (Nle rfl) (by first | exact ⟨rfl, rfl⟩ | exact .inl ⟨rfl, rfl⟩ | exact .inr ⟨rfl, rfl⟩ | exact ⟨rfl, trivial⟩ | exact .inl ⟨rfl, trivial⟩ | exact .inr ⟨rfl, trivial⟩ | exact ⟨by decide, rfl⟩) ?_
              refine VA.take (i := 18) rfl (by kernel_rfl) (by kernel_rfl) (by kernel_rfl) rfl rfl (OpV.move (.inr rfl) rfl) ?_
              refine VA.done (by kernel_rfl) ?_
              refine VC.ret ?_
              exact Exists.intro _ (And.intro (RetN.two Tryz.results148 ((by first | exact ResN.cellF (i := 0) Tryz.isAgg124 Tryz.sizeOf124 rfl rfl rfl (flat_ofB rfl) | exact ResN.cellF (i := 1) Tryz.isAgg124 Tryz.sizeOf124 rfl rfl rfl (flat_ofB rfl))) (ResN.v rfl)) (by first | exact ⟨x, fun _ => hxo, rd_out (rd1 hok2 (by assumption))⟩ | exact ⟨x, fun _ => hxo, rd_out (rd2 hok2 (by assumption) (by assumption))⟩ | exact ⟨x, fun _ => hxo, rd_out (rd3 hok2 (by assumption) (by assumption) (by assumption))⟩ | exact ⟨x, fun _ => hxo, rd_out (rd4 hok2 (by assumption) (by assumption) (by assumption))⟩))
          · have aK2 := aK2b
            try simp only [qq] at aK2
            refine VA.takeX (i := 3) rfl (by kernel_rfl) (by kernel_rfl) (by kernel_rfl) rfl rfl rfl rfl aK2b ?_
            refine VA.takeX (i := 4) rfl (by kernel_rfl) (by kernel_rfl) (by kernel_rfl) rfl rfl rfl rfl aK2b ?_
            refine VA.takeX (i := 5) rfl (by kernel_rfl) (by kernel_rfl) (by kernel_rfl) rfl rfl rfl rfl aK2b ?_
            refine VA.take (i := 6) rfl (by kernel_rfl) (by kernel_rfl) (by kernel_rfl) rfl rfl (OpV.pickF rfl rfl rfl rfl aK2b) ?_
            refine VA.take (i := 7) rfl (by kernel_rfl) (by kernel_rfl) (by kernel_rfl) rfl rfl (OpV.move (.inl rfl) rfl) ?_
            refine VA.takeX (i := 8) rfl (by kernel_rfl) (by kernel_rfl) (by kernel_rfl) rfl rfl rfl rfl rfl ?_
            refine VA.takeX (i := 9) rfl (by kernel_rfl) (by kernel_rfl) (by kernel_rfl) rfl rfl rfl rfl rfl ?_
            refine VA.takeX (i := 10) rfl (by kernel_rfl) (by kernel_rfl) (by kernel_rfl) rfl rfl rfl rfl rfl ?_
            refine VA.takeU (i := 11) rfl (by kernel_rfl) (by kernel_rfl) (by kernel_rfl) rfl rfl rfl rfl ?_
            refine VA.takeU (i := 12) rfl (by kernel_rfl) (by kernel_rfl) (by kernel_rfl) rfl rfl rfl rfl ?_
            refine VA.takeU (i := 13) rfl (by kernel_rfl) (by kernel_rfl) (by kernel_rfl) rfl rfl rfl rfl ?_
            refine VA.takeU (i := 14) rfl (by kernel_rfl) (by kernel_rfl) (by kernel_rfl) rfl rfl rfl rfl ?_
            refine VA.takeX (i := 15) rfl (by kernel_rfl) (by kernel_rfl) (by kernel_rfl) rfl rfl rfl rfl rfl ?_
            refine VA.take (i := 16) rfl (by kernel_rfl) (by kernel_rfl) (by kernel_rfl) rfl rfl (OpV.pickF rfl rfl rfl rfl rfl) ?_
            refine VA.all (rs := [17]) (by kernel_rfl) (by decide) ?_
            refine ⟨⟨_, rfl, .inl rfl, ?_⟩, trivial⟩
            refine OpE.store (i := 0) rfl hB rfl Tryz.sizeOf124 rfl rfl rfl rfl rfl rfl (Nle rfl) (by first | exact ⟨rfl, rfl⟩ | exact .inl ⟨rfl, rfl⟩ | exact .inr ⟨rfl, rfl⟩ | exact ⟨rfl, trivial⟩ | exact .inl ⟨rfl, trivial⟩ | exact .inr ⟨rfl, trivial⟩ | exact ⟨by decide, rfl⟩) ?_
            refine VA.take (i := 18) rfl (by kernel_rfl) (by kernel_rfl) (by kernel_rfl) rfl rfl (OpV.move (.inr rfl) rfl) ?_
            refine VA.done (by kernel_rfl) ?_
            refine VC.ret ?_
            exact Exists.intro _ (And.intro (RetN.two Tryz.results148 ((by first | exact ResN.cellF (i := 0) Tryz.isAgg124 Tryz.sizeOf124 rfl rfl rfl (flat_ofB rfl) | exact ResN.cellF (i := 1) Tryz.isAgg124 Tryz.sizeOf124 rfl rfl rfl (flat_ofB rfl))) (ResN.v rfl)) (by first | exact ⟨x, fun _ => hxo, rd_out (rd1 hok2 (by assumption))⟩ | exact ⟨x, fun _ => hxo, rd_out (rd2 hok2 (by assumption) (by assumption))⟩ | exact ⟨x, fun _ => hxo, rd_out (rd3 hok2 (by assumption) (by assumption) (by assumption))⟩ | exact ⟨x, fun _ => hxo, rd_out (rd4 hok2 (by assumption) (by assumption) (by assumption))⟩))
        ·
          refine OpM.alloc rfl hB rfl Tryz.zeroValue124 rfl ?_
          intro g7 hg7
          refine VM.all (rs := [11]) (by kernel_rfl) (by decide) ?_
          refine ⟨⟨_, rfl, rfl, ?_⟩, trivial⟩
          refine OpM.of ?_
          refine OpE.call rfl hB rfl Tryz.call170 rfl (SpecN.spec (slices_Index_str (by decide))) ?_
          rintro _ rfl
          refine VM.take (i := 25) rfl (by kernel_rfl) (by kernel_rfl) (by kernel_rfl) rfl rfl (OpV.build (pls := #[(0, 1), (1, 1), (2, 1), (3, 1), (4, 1), (5, 1), (6, 1), (7, 1)]) rfl Tryz.zeroValue124 Tryz.underlying124 (fun w => by kernel_rfl) rfl rfl) ?_
          refine VM.all (rs := [27]) (by kernel_rfl) (by decide) ?_
          refine ⟨⟨_, rfl, rfl, ?_⟩, trivial⟩
          refine OpM.of ?_
          refine OpE.store (i := 1) rfl hB rfl Tryz.sizeOf124 rfl rfl rfl rfl rfl rfl (Nle rfl) ⟨by decide, by assumption⟩ ?_
          refine VM.done (by kernel_rfl) ?_
          refine VC.seq ?_
          have hlo : lkOf s = ⟨ws.getD 1 ByteArray.empty, ws.getD 2 ByteArray.empty, numV (ws.getD 0 ByteArray.empty) 15, vIx (ws.getD 3 ByteArray.empty), sEq (ws.getD 4 ByteArray.empty) badW, ws.getD 5 ByteArray.empty, ws.getD 6 ByteArray.empty, ws.getD 7 ByteArray.empty⟩ := by rw [← hws]; rfl
          obtain ⟨x, hx⟩ : ∃ x : LookS, x = ⟨ws.getD 1 ByteArray.empty, ws.getD 2 ByteArray.empty, numV (ws.getD 0 ByteArray.empty) 15, vIx (ws.getD 3 ByteArray.empty), sEq (ws.getD 4 ByteArray.empty) badW, ws.getD 5 ByteArray.empty, ws.getD 6 ByteArray.empty, ws.getD 7 ByteArray.empty⟩ := ⟨_, rfl⟩
          refine VC.le _ (Le.freezeAt (t := 7) (m := 8) (f := Sxc.cell x) (i := 1) rfl rfl (Nat.le_refl _) (fun w Z u h => h.at_congr (g := Sxc.cell x) (by subst hx; exact lt8 rfl rfl rfl rfl rfl rfl rfl rfl)) hnew hB) ?_
          have hxo : x = lkOf s := by rw [hx, hlo]
          have hx3 : x.verdict = vIx (ws.getD 3 ByteArray.empty) := by rw [hx]
          have hx4 : x.bad = sEq (ws.getD 4 ByteArray.empty) badW := by rw [hx]
          have hok2 : okLk s = (numE (ws.getD 0 ByteArray.empty) 15 && (decide (1 ≤ x.verdict) && (x.bad || sEq (ws.getD 4 ByteArray.empty) fineW))) := by rw [hx3, hx4]; exact hok
          refine VC.draw (fun j b => j = 17 ∧ b = g2) hB (by kernel_rfl) ?_
          refine VA.take (i := 0) rfl (by kernel_rfl) (by kernel_rfl) (by kernel_rfl) rfl rfl (OpV.loadK_at rfl hB (by first | exact OutW.wi1 (k := 0) rfl rfl | exact OutW.wi1 (k := 1) rfl rfl) Tryz.isAgg124 Tryz.sizeOf124 rfl rfl) ?_
          refine VA.take (i := 1) rfl (by kernel_rfl) (by kernel_rfl) (by kernel_rfl) rfl rfl (OpV.move (.inl rfl) rfl) ?_
          refine VA.take (i := 2) rfl (by kernel_rfl) (by kernel_rfl) (by kernel_rfl) rfl rfl (OpV.move (.inl rfl) rfl) ?_
          refine VA.split (t := 56) rfl (fun aK5b => ?_) (fun aK5b => ?_)
          · have aK5 := aK5b
            try simp only [qq] at aK5
            refine VA.takeY (i := 3) rfl (by kernel_rfl) (by kernel_rfl) (by kernel_rfl) rfl rfl rfl rfl aK5b (OpV.fieldAddr_atO 3 rfl Tryz.underlying124 rfl rfl Tryz.sizeOf3 rfl rfl) ?_
            refine VA.takeY (i := 4) rfl (by kernel_rfl) (by kernel_rfl) (by kernel_rfl) rfl rfl rfl rfl aK5b (OpV.load_at rfl hB (by first | exact OutW.wi1 (k := 0) rfl rfl | exact OutW.wi1 (k := 1) rfl rfl) Tryz.isAgg3 rfl rfl) ?_
            refine VA.takeY (i := 5) rfl (by kernel_rfl) (by kernel_rfl) (by kernel_rfl) rfl rfl rfl rfl aK5b (OpV.geq rfl rfl rfl) ?_
            refine VA.take (i := 6) rfl (by kernel_rfl) (by kernel_rfl) (by kernel_rfl) rfl rfl (OpV.pickT rfl rfl rfl rfl aK5b) ?_
            refine VA.take (i := 7) rfl (by kernel_rfl) (by kernel_rfl) (by kernel_rfl) rfl rfl (OpV.move (.inl rfl) rfl) ?_
            refine VA.split (t := 61) rfl (fun aK6b => ?_) (fun aK6b => ?_)
            · have aK6 := aK6b
              try simp only [qq] at aK6
              refine VA.takeY (i := 8) rfl (by kernel_rfl) (by kernel_rfl) (by kernel_rfl) rfl rfl rfl rfl aK6b (OpV.fieldAddr_atO 4 rfl Tryz.underlying124 rfl rfl Tryz.sizeOf4 rfl rfl) ?_
              refine VA.takeY (i := 9) rfl (by kernel_rfl) (by kernel_rfl) (by kernel_rfl) rfl rfl rfl rfl aK6b (OpV.load_at rfl hB (by first | exact OutW.wi1 (k := 0) rfl rfl | exact OutW.wi1 (k := 1) rfl rfl) Tryz.isAgg4 rfl rfl) ?_
              refine VA.takeY (i := 10) rfl (by kernel_rfl) (by kernel_rfl) (by kernel_rfl) rfl rfl rfl rfl aK6b (OpV.move (.inl rfl) rfl) ?_
              refine VA.split (t := 64) rfl (fun aK7b => ?_) (fun aK7b => ?_)
              · have aK7 := aK7b
                try simp only [qq] at aK7
                refine VA.takeX (i := 11) rfl (by kernel_rfl) (by kernel_rfl) (by kernel_rfl) rfl rfl rfl rfl aK7b ?_
                refine VA.takeX (i := 12) rfl (by kernel_rfl) (by kernel_rfl) (by kernel_rfl) rfl rfl rfl rfl aK7b ?_
                refine VA.takeX (i := 13) rfl (by kernel_rfl) (by kernel_rfl) (by kernel_rfl) rfl rfl rfl rfl aK7b ?_
                refine VA.takeX (i := 14) rfl (by kernel_rfl) (by kernel_rfl) (by kernel_rfl) rfl rfl rfl rfl aK7b ?_
                refine VA.takeY (i := 15) rfl (by kernel_rfl) (by kernel_rfl) (by kernel_rfl) rfl rfl rfl rfl aK6b (OpV.pickT rfl rfl rfl rfl aK7b) ?_
                refine VA.take (i := 16) rfl (by kernel_rfl) (by kernel_rfl) (by kernel_rfl) rfl rfl (OpV.pickT rfl rfl rfl rfl aK6b) ?_
                refine VA.all (rs := [17]) (by kernel_rfl) (by decide) ?_
                refine ⟨⟨_, rfl, .inl rfl, ?_⟩, trivial⟩
                refine OpE.store (i := 0) rfl hB rfl Tryz.sizeOf124 rfl rfl rfl rfl rfl rfl (Nle rfl) (by first | exact ⟨rfl, rfl⟩ | exact .inl ⟨rfl, rfl⟩ | exact .inr ⟨rfl, rfl⟩ | exact ⟨rfl, trivial⟩ | exact .inl ⟨rfl, trivial⟩ | exact .inr ⟨rfl, trivial⟩ | exact ⟨by decide, rfl⟩) ?_
                refine VA.take (i := 18) rfl (by kernel_rfl) (by kernel_rfl) (by kernel_rfl) rfl rfl (OpV.move (.inr rfl) rfl) ?_
                refine VA.done (by kernel_rfl) ?_
                refine VC.ret ?_
                exact Exists.intro _ (And.intro (RetN.two Tryz.results148 ((by first | exact ResN.cellF (i := 0) Tryz.isAgg124 Tryz.sizeOf124 rfl rfl rfl (flat_ofB rfl) | exact ResN.cellF (i := 1) Tryz.isAgg124 Tryz.sizeOf124 rfl rfl rfl (flat_ofB rfl))) (ResN.v rfl)) (by first | exact ⟨x, fun _ => hxo, rd_out (rd1 hok2 (by assumption))⟩ | exact ⟨x, fun _ => hxo, rd_out (rd2 hok2 (by assumption) (by assumption))⟩ | exact ⟨x, fun _ => hxo, rd_out (rd3 hok2 (by assumption) (by assumption) (by assumption))⟩ | exact ⟨x, fun _ => hxo, rd_out (rd4 hok2 (by assumption) (by assumption) (by assumption))⟩))
              · have aK7 := aK7b
                try simp only [qq] at aK7
                refine VA.takeY (i := 11) rfl (by kernel_rfl) (by kernel_rfl) (by kernel_rfl) rfl rfl rfl rfl aK7b (OpV.move (.inl rfl) rfl) ?_
                refine VA.takeY (i := 12) rfl (by kernel_rfl) (by kernel_rfl) (by kernel_rfl) rfl rfl rfl rfl aK7b (OpV.indexAddr_1 rfl Tryz.underlying82 Tryz.sizeOf9 rfl rfl (Int.toNat_of_nonneg (by omega)).symm (by omega)) ?_
                refine VA.takeY (i := 13) rfl (by kernel_rfl) (by kernel_rfl) (by kernel_rfl) rfl rfl rfl rfl aK7b (OpV.load_at rfl hB (by first | exact OutW.wi1 (k := 0) rfl rfl | exact OutW.wi1 (k := 1) rfl rfl) Tryz.isAgg9 rfl rfl) ?_
                refine VA.takeY (i := 14) rfl (by kernel_rfl) (by kernel_rfl) (by kernel_rfl) rfl rfl rfl rfl aK7b (OpV.seql rfl rfl rfl) ?_
                refine VA.takeY (i := 15) rfl (by kernel_rfl) (by kernel_rfl) (by kernel_rfl) rfl rfl rfl rfl aK6b (OpV.pickF rfl rfl rfl rfl aK7b) ?_
                refine VA.take (i := 16) rfl (by kernel_rfl) (by kernel_rfl) (by kernel_rfl) rfl rfl (OpV.pickT rfl rfl rfl rfl aK6b) ?_
                refine VA.all (rs := [17]) (by kernel_rfl) (by decide) ?_
                refine ⟨⟨_, rfl, .inl rfl, ?_⟩, trivial⟩
                refine OpE.store (i := 0) rfl hB rfl Tryz.sizeOf124 rfl rfl rfl rfl rfl rfl (Nle rfl) (by first | exact ⟨rfl, rfl⟩ | exact .inl ⟨rfl, rfl⟩ | exact .inr ⟨rfl, rfl⟩ | exact ⟨rfl, trivial⟩ | exact .inl ⟨rfl, trivial⟩ | exact .inr ⟨rfl, trivial⟩ | exact ⟨by decide, rfl⟩) ?_
                refine VA.take (i := 18) rfl (by kernel_rfl) (by kernel_rfl) (by kernel_rfl) rfl rfl (OpV.move (.inr rfl) rfl) ?_
                refine VA.done (by kernel_rfl) ?_
                refine VC.ret ?_
                exact Exists.intro _ (And.intro (RetN.two Tryz.results148 ((by first | exact ResN.cellF (i := 0) Tryz.isAgg124 Tryz.sizeOf124 rfl rfl rfl (flat_ofB rfl) | exact ResN.cellF (i := 1) Tryz.isAgg124 Tryz.sizeOf124 rfl rfl rfl (flat_ofB rfl))) (ResN.v rfl)) (by first | exact ⟨x, fun _ => hxo, rd_out (rd1 hok2 (by assumption))⟩ | exact ⟨x, fun _ => hxo, rd_out (rd2 hok2 (by assumption) (by assumption))⟩ | exact ⟨x, fun _ => hxo, rd_out (rd3 hok2 (by assumption) (by assumption) (by assumption))⟩ | exact ⟨x, fun _ => hxo, rd_out (rd4 hok2 (by assumption) (by assumption) (by assumption))⟩))
            · have aK6 := aK6b
              try simp only [qq] at aK6
              refine VA.takeX (i := 8) rfl (by kernel_rfl) (by kernel_rfl) (by kernel_rfl) rfl rfl rfl rfl aK6b ?_
              refine VA.takeX (i := 9) rfl (by kernel_rfl) (by kernel_rfl) (by kernel_rfl) rfl rfl rfl rfl aK6b ?_
              refine VA.takeX (i := 10) rfl (by kernel_rfl) (by kernel_rfl) (by kernel_rfl) rfl rfl rfl rfl aK6b ?_
              refine VA.takeU (i := 11) rfl (by kernel_rfl) (by kernel_rfl) (by kernel_rfl) rfl rfl rfl rfl ?_
              refine VA.takeU (i := 12) rfl (by kernel_rfl) (by kernel_rfl) (by kernel_rfl) rfl rfl rfl rfl ?_
              refine VA.takeU (i := 13) rfl (by kernel_rfl) (by kernel_rfl) (by kernel_rfl) rfl rfl rfl rfl ?_
              refine VA.takeU (i := 14) rfl (by kernel_rfl) (by kernel_rfl) (by kernel_rfl) rfl rfl rfl rfl ?_
              refine VA.takeX (i := 15) rfl (by kernel_rfl) (by kernel_rfl) (by kernel_rfl) rfl rfl rfl rfl aK6b ?_
              refine VA.take (i := 16) rfl (by kernel_rfl) (by kernel_rfl) (by kernel_rfl) rfl rfl (OpV.pickF rfl rfl rfl rfl aK6b) ?_
              refine VA.all (rs := [17]) (by kernel_rfl) (by decide) ?_
              refine ⟨⟨_, rfl, .inl rfl, ?_⟩, trivial⟩
              refine OpE.store (i := 0) rfl hB rfl Tryz.sizeOf124 rfl rfl rfl rfl rfl rfl (Nle rfl) (by first | exact ⟨rfl, rfl⟩ | exact .inl ⟨rfl, rfl⟩ | exact .inr ⟨rfl, rfl⟩ | exact ⟨rfl, trivial⟩ | exact .inl ⟨rfl, trivial⟩ | exact .inr ⟨rfl, trivial⟩ | exact ⟨by decide, rfl⟩) ?_
              refine VA.take (i := 18) rfl (by kernel_rfl) (by kernel_rfl) (by kernel_rfl) rfl rfl (OpV.move (.inr rfl) rfl) ?_
              refine VA.done (by kernel_rfl) ?_
              refine VC.ret ?_
              exact Exists.intro _ (And.intro (RetN.two Tryz.results148 ((by first | exact ResN.cellF (i := 0) Tryz.isAgg124 Tryz.sizeOf124 rfl rfl rfl (flat_ofB rfl) | exact ResN.cellF (i := 1) Tryz.isAgg124 Tryz.sizeOf124 rfl rfl rfl (flat_ofB rfl))) (ResN.v rfl)) (by first | exact ⟨x, fun _ => hxo, rd_out (rd1 hok2 (by assumption))⟩ | exact ⟨x, fun _ => hxo, rd_out (rd2 hok2 (by assumption) (by assumption))⟩ | exact ⟨x, fun _ => hxo, rd_out (rd3 hok2 (by assumption) (by assumption) (by assumption))⟩ | exact ⟨x, fun _ => hxo, rd_out (rd4 hok2 (by assumption) (by assumption) (by assumption))⟩))
          · have aK5 := aK5b
            try simp only [qq] at aK5
            refine VA.takeX (i := 3) rfl (by kernel_rfl) (by kernel_rfl) (by kernel_rfl) rfl rfl rfl rfl aK5b ?_
            refine VA.takeX (i := 4) rfl (by kernel_rfl) (by kernel_rfl) (by kernel_rfl) rfl rfl rfl rfl aK5b ?_
            refine VA.takeX (i := 5) rfl (by kernel_rfl) (by kernel_rfl) (by kernel_rfl) rfl rfl rfl rfl aK5b ?_
            refine VA.take (i := 6) rfl (by kernel_rfl) (by kernel_rfl) (by kernel_rfl) rfl rfl (OpV.pickF rfl rfl rfl rfl aK5b) ?_
            refine VA.take (i := 7) rfl (by kernel_rfl) (by kernel_rfl) (by kernel_rfl) rfl rfl (OpV.move (.inl rfl) rfl) ?_
            refine VA.takeX (i := 8) rfl (by kernel_rfl) (by kernel_rfl) (by kernel_rfl) rfl rfl rfl rfl rfl ?_
            refine VA.takeX (i := 9) rfl (by kernel_rfl) (by kernel_rfl) (by kernel_rfl) rfl rfl rfl rfl rfl ?_
            refine VA.takeX (i := 10) rfl (by kernel_rfl) (by kernel_rfl) (by kernel_rfl) rfl rfl rfl rfl rfl ?_
            refine VA.takeU (i := 11) rfl (by kernel_rfl) (by kernel_rfl) (by kernel_rfl) rfl rfl rfl rfl ?_
            refine VA.takeU (i := 12) rfl (by kernel_rfl) (by kernel_rfl) (by kernel_rfl) rfl rfl rfl rfl ?_
            refine VA.takeU (i := 13) rfl (by kernel_rfl) (by kernel_rfl) (by kernel_rfl) rfl rfl rfl rfl ?_
            refine VA.takeU (i := 14) rfl (by kernel_rfl) (by kernel_rfl) (by kernel_rfl) rfl rfl rfl rfl ?_
            refine VA.takeX (i := 15) rfl (by kernel_rfl) (by kernel_rfl) (by kernel_rfl) rfl rfl rfl rfl rfl ?_
            refine VA.take (i := 16) rfl (by kernel_rfl) (by kernel_rfl) (by kernel_rfl) rfl rfl (OpV.pickF rfl rfl rfl rfl rfl) ?_
            refine VA.all (rs := [17]) (by kernel_rfl) (by decide) ?_
            refine ⟨⟨_, rfl, .inl rfl, ?_⟩, trivial⟩
            refine OpE.store (i := 0) rfl hB rfl Tryz.sizeOf124 rfl rfl rfl rfl rfl rfl (Nle rfl) (by first | exact ⟨rfl, rfl⟩ | exact .inl ⟨rfl, rfl⟩ | exact .inr ⟨rfl, rfl⟩ | exact ⟨rfl, trivial⟩ | exact .inl ⟨rfl, trivial⟩ | exact .inr ⟨rfl, trivial⟩ | exact ⟨by decide, rfl⟩) ?_
            refine VA.take (i := 18) rfl (by kernel_rfl) (by kernel_rfl) (by kernel_rfl) rfl rfl (OpV.move (.inr rfl) rfl) ?_
            refine VA.done (by kernel_rfl) ?_
            refine VC.ret ?_
            exact Exists.intro _ (And.intro (RetN.two Tryz.results148 ((by first | exact ResN.cellF (i := 0) Tryz.isAgg124 Tryz.sizeOf124 rfl rfl rfl (flat_ofB rfl) | exact ResN.cellF (i := 1) Tryz.isAgg124 Tryz.sizeOf124 rfl rfl rfl (flat_ofB rfl))) (ResN.v rfl)) (by first | exact ⟨x, fun _ => hxo, rd_out (rd1 hok2 (by assumption))⟩ | exact ⟨x, fun _ => hxo, rd_out (rd2 hok2 (by assumption) (by assumption))⟩ | exact ⟨x, fun _ => hxo, rd_out (rd3 hok2 (by assumption) (by assumption) (by assumption))⟩ | exact ⟨x, fun _ => hxo, rd_out (rd4 hok2 (by assumption) (by assumption) (by assumption))⟩))
      ·
        refine OpM.alloc rfl hB rfl Tryz.zeroValue124 rfl ?_
        intro g7 hg7
        refine VM.all (rs := [7]) (by kernel_rfl) (by decide) ?_
        refine ⟨⟨_, rfl, rfl, ?_⟩, trivial⟩
        refine OpM.of ?_
        refine OpE.call rfl hB rfl Tryz.call144 rfl (inspect_verdictWords) ?_
        rintro _ rfl
        refine VM.all (rs := [11]) (by kernel_rfl) (by decide) ?_
        refine ⟨⟨_, rfl, rfl, ?_⟩, trivial⟩
        refine OpM.of ?_
        refine OpE.call rfl hB rfl Tryz.call170 rfl (SpecN.spec (slices_Index_str (by decide))) ?_
        rintro _ rfl
        refine VM.take (i := 25) rfl (by kernel_rfl) (by kernel_rfl) (by kernel_rfl) rfl rfl (OpV.build (pls := #[(0, 1), (1, 1), (2, 1), (3, 1), (4, 1), (5, 1), (6, 1), (7, 1)]) rfl Tryz.zeroValue124 Tryz.underlying124 (fun w => by kernel_rfl) rfl rfl) ?_
        refine VM.all (rs := [27]) (by kernel_rfl) (by decide) ?_
        refine ⟨⟨_, rfl, rfl, ?_⟩, trivial⟩
        refine OpM.of ?_
        refine OpE.store (i := 1) rfl hB rfl Tryz.sizeOf124 rfl rfl rfl rfl rfl rfl (Nle rfl) ⟨by decide, by assumption⟩ ?_
        refine VM.done (by kernel_rfl) ?_
        refine VC.seq ?_
        have hlo : lkOf s = ⟨ws.getD 1 ByteArray.empty, ws.getD 2 ByteArray.empty, numV (ws.getD 0 ByteArray.empty) 15, vIx (ws.getD 3 ByteArray.empty), sEq (ws.getD 4 ByteArray.empty) badW, ws.getD 5 ByteArray.empty, ws.getD 6 ByteArray.empty, ws.getD 7 ByteArray.empty⟩ := by rw [← hws]; rfl
        obtain ⟨x, hx⟩ : ∃ x : LookS, x = ⟨ws.getD 1 ByteArray.empty, ws.getD 2 ByteArray.empty, numV (ws.getD 0 ByteArray.empty) 15, vIx (ws.getD 3 ByteArray.empty), sEq (ws.getD 4 ByteArray.empty) badW, ws.getD 5 ByteArray.empty, ws.getD 6 ByteArray.empty, ws.getD 7 ByteArray.empty⟩ := ⟨_, rfl⟩
        refine VC.le _ (Le.freezeAt (t := 7) (m := 8) (f := Sxc.cell x) (i := 1) rfl rfl (Nat.le_refl _) (fun w Z u h => h.at_congr (g := Sxc.cell x) (by subst hx; exact lt8 rfl rfl rfl rfl rfl rfl rfl rfl)) hnew hB) ?_
        have hxo : x = lkOf s := by rw [hx, hlo]
        have hx3 : x.verdict = vIx (ws.getD 3 ByteArray.empty) := by rw [hx]
        have hx4 : x.bad = sEq (ws.getD 4 ByteArray.empty) badW := by rw [hx]
        have hok2 : okLk s = (numE (ws.getD 0 ByteArray.empty) 15 && (decide (1 ≤ x.verdict) && (x.bad || sEq (ws.getD 4 ByteArray.empty) fineW))) := by rw [hx3, hx4]; exact hok
        refine VC.draw (fun j b => j = 17 ∧ b = g2) hB (by kernel_rfl) ?_
        refine VA.take (i := 0) rfl (by kernel_rfl) (by kernel_rfl) (by kernel_rfl) rfl rfl (OpV.loadK_at rfl hB (by first | exact OutW.wi1 (k := 0) rfl rfl | exact OutW.wi1 (k := 1) rfl rfl) Tryz.isAgg124 Tryz.sizeOf124 rfl rfl) ?_
        refine VA.take (i := 1) rfl (by kernel_rfl) (by kernel_rfl) (by kernel_rfl) rfl rfl (OpV.move (.inl rfl) rfl) ?_
        refine VA.take (i := 2) rfl (by kernel_rfl) (by kernel_rfl) (by kernel_rfl) rfl rfl (OpV.move (.inl rfl) rfl) ?_
        refine VA.split (t := 56) rfl (fun aK8b => ?_) (fun aK8b => ?_)
        · have aK8 := aK8b
          try simp only [qq] at aK8
          refine VA.takeY (i := 3) rfl (by kernel_rfl) (by kernel_rfl) (by kernel_rfl) rfl rfl rfl rfl aK8b (OpV.fieldAddr_atO 3 rfl Tryz.underlying124 rfl rfl Tryz.sizeOf3 rfl rfl) ?_
          refine VA.takeY (i := 4) rfl (by kernel_rfl) (by kernel_rfl) (by kernel_rfl) rfl rfl rfl rfl aK8b (OpV.load_at rfl hB (by first | exact OutW.wi1 (k := 0) rfl rfl | exact OutW.wi1 (k := 1) rfl rfl) Tryz.isAgg3 rfl rfl) ?_
          refine VA.takeY (i := 5) rfl (by kernel_rfl) (by kernel_rfl) (by kernel_rfl) rfl rfl rfl rfl aK8b (OpV.geq rfl rfl rfl) ?_
          refine VA.take (i := 6) rfl (by kernel_rfl) (by kernel_rfl) (by kernel_rfl) rfl rfl (OpV.pickT rfl rfl rfl rfl aK8b) ?_
          refine VA.take (i := 7) rfl (by kernel_rfl) (by kernel_rfl) (by kernel_rfl) rfl rfl (OpV.move (.inl rfl) rfl) ?_
          refine VA.split (t := 61) rfl (fun aK9b => ?_) (fun aK9b => ?_)
          · have aK9 := aK9b
            try simp only [qq] at aK9
            refine VA.takeY (i := 8) rfl (by kernel_rfl) (by kernel_rfl) (by kernel_rfl) rfl rfl rfl rfl aK9b (OpV.fieldAddr_atO 4 rfl Tryz.underlying124 rfl rfl Tryz.sizeOf4 rfl rfl) ?_
            refine VA.takeY (i := 9) rfl (by kernel_rfl) (by kernel_rfl) (by kernel_rfl) rfl rfl rfl rfl aK9b (OpV.load_at rfl hB (by first | exact OutW.wi1 (k := 0) rfl rfl | exact OutW.wi1 (k := 1) rfl rfl) Tryz.isAgg4 rfl rfl) ?_
            refine VA.takeY (i := 10) rfl (by kernel_rfl) (by kernel_rfl) (by kernel_rfl) rfl rfl rfl rfl aK9b (OpV.move (.inl rfl) rfl) ?_
            refine VA.split (t := 64) rfl (fun aK10b => ?_) (fun aK10b => ?_)
            · have aK10 := aK10b
              try simp only [qq] at aK10
              refine VA.takeX (i := 11) rfl (by kernel_rfl) (by kernel_rfl) (by kernel_rfl) rfl rfl rfl rfl aK10b ?_
              refine VA.takeX (i := 12) rfl (by kernel_rfl) (by kernel_rfl) (by kernel_rfl) rfl rfl rfl rfl aK10b ?_
              refine VA.takeX (i := 13) rfl (by kernel_rfl) (by kernel_rfl) (by kernel_rfl) rfl rfl rfl rfl aK10b ?_
              refine VA.takeX (i := 14) rfl (by kernel_rfl) (by kernel_rfl) (by kernel_rfl) rfl rfl rfl rfl aK10b ?_
              refine VA.takeY (i := 15) rfl (by kernel_rfl) (by kernel_rfl) (by kernel_rfl) rfl rfl rfl rfl aK9b (OpV.pickT rfl rfl rfl rfl aK10b) ?_
              refine VA.take (i := 16) rfl (by kernel_rfl) (by kernel_rfl) (by kernel_rfl) rfl rfl (OpV.pickT rfl rfl rfl rfl aK9b) ?_
              refine VA.all (rs := [17]) (by kernel_rfl) (by decide) ?_
              refine ⟨⟨_, rfl, .inl rfl, ?_⟩, trivial⟩
              refine OpE.store (i := 0) rfl hB rfl Tryz.sizeOf124 rfl rfl rfl rfl rfl rfl (Nle rfl) (by first | exact ⟨rfl, rfl⟩ | exact .inl ⟨rfl, rfl⟩ | exact .inr ⟨rfl, rfl⟩ | exact ⟨rfl, trivial⟩ | exact .inl ⟨rfl, trivial⟩ | exact .inr ⟨rfl, trivial⟩ | exact ⟨by decide, rfl⟩) ?_
              refine VA.take (i := 18) rfl (by kernel_rfl) (by kernel_rfl) (by kernel_rfl) rfl rfl (OpV.move (.inr rfl) rfl) ?_
              refine VA.done (by kernel_rfl) ?_
              refine VC.ret ?_
              exact Exists.intro _ (And.intro (RetN.two Tryz.results148 ((by first | exact ResN.cellF (i := 0) Tryz.isAgg124 Tryz.sizeOf124 rfl rfl rfl (flat_ofB rfl) | exact ResN.cellF (i := 1) Tryz.isAgg124 Tryz.sizeOf124 rfl rfl rfl (flat_ofB rfl))) (ResN.v rfl)) (by first | exact ⟨x, fun _ => hxo, rd_out (rd1 hok2 (by assumption))⟩ | exact ⟨x, fun _ => hxo, rd_out (rd2 hok2 (by assumption) (by assumption))⟩ | exact ⟨x, fun _ => hxo, rd_out (rd3 hok2 (by assumption) (by assumption) (by assumption))⟩ | exact ⟨x, fun _ => hxo, rd_out (rd4 hok2 (by assumption) (by assumption) (by assumption))⟩))
            · have aK10 := aK10b
              try simp only [qq] at aK10
              refine VA.takeY (i := 11) rfl (by kernel_rfl) (by kernel_rfl) (by kernel_rfl) rfl rfl rfl rfl aK10b (OpV.move (.inl rfl) rfl) ?_
              refine VA.takeY (i := 12) rfl (by kernel_rfl) (by kernel_rfl) (by kernel_rfl) rfl rfl rfl rfl aK10b (OpV.indexAddr_1 rfl Tryz.underlying82 Tryz.sizeOf9 rfl rfl (Int.toNat_of_nonneg (by omega)).symm (by omega)) ?_
              refine VA.takeY (i := 13) rfl (by kernel_rfl) (by kernel_rfl) (by kernel_rfl) rfl rfl rfl rfl aK10b (OpV.load_at rfl hB (by first | exact OutW.wi1 (k := 0) rfl rfl | exact OutW.wi1 (k := 1) rfl rfl) Tryz.isAgg9 rfl rfl) ?_
              refine VA.takeY (i := 14) rfl (by kernel_rfl) (by kernel_rfl) (by kernel_rfl) rfl rfl rfl rfl aK10b (OpV.seql rfl rfl rfl) ?_
              refine VA.takeY (i := 15) rfl (by kernel_rfl) (by kernel_rfl) (by kernel_rfl) rfl rfl rfl rfl aK9b (OpV.pickF rfl rfl rfl rfl aK10b) ?_
              refine VA.take (i := 16) rfl (by kernel_rfl) (by kernel_rfl) (by kernel_rfl) rfl rfl (OpV.pickT rfl rfl rfl rfl aK9b) ?_
              refine VA.all (rs := [17]) (by kernel_rfl) (by decide) ?_
              refine ⟨⟨_, rfl, .inl rfl, ?_⟩, trivial⟩
              refine OpE.store (i := 0) rfl hB rfl Tryz.sizeOf124 rfl rfl rfl rfl rfl rfl (Nle rfl) (by first | exact ⟨rfl, rfl⟩ | exact .inl ⟨rfl, rfl⟩ | exact .inr ⟨rfl, rfl⟩ | exact ⟨rfl, trivial⟩ | exact .inl ⟨rfl, trivial⟩ | exact .inr ⟨rfl, trivial⟩ | exact ⟨by decide, rfl⟩) ?_
              refine VA.take (i := 18) rfl (by kernel_rfl) (by kernel_rfl) (by kernel_rfl) rfl rfl (OpV.move (.inr rfl) rfl) ?_
              refine VA.done (by kernel_rfl) ?_
              refine VC.ret ?_
              exact Exists.intro _ (And.intro (RetN.two Tryz.results148 ((by first | exact ResN.cellF (i := 0) Tryz.isAgg124 Tryz.sizeOf124 rfl rfl rfl (flat_ofB rfl) | exact ResN.cellF (i := 1) Tryz.isAgg124 Tryz.sizeOf124 rfl rfl rfl (flat_ofB rfl))) (ResN.v rfl)) (by first | exact ⟨x, fun _ => hxo, rd_out (rd1 hok2 (by assumption))⟩ | exact ⟨x, fun _ => hxo, rd_out (rd2 hok2 (by assumption) (by assumption))⟩ | exact ⟨x, fun _ => hxo, rd_out (rd3 hok2 (by assumption) (by assumption) (by assumption))⟩ | exact ⟨x, fun _ => hxo, rd_out (rd4 hok2 (by assumption) (by assumption) (by assumption))⟩))
          · have aK9 := aK9b
            try simp only [qq] at aK9
            refine VA.takeX (i := 8) rfl (by kernel_rfl) (by kernel_rfl) (by kernel_rfl) rfl rfl rfl rfl aK9b ?_
            refine VA.takeX (i := 9) rfl (by kernel_rfl) (by kernel_rfl) (by kernel_rfl) rfl rfl rfl rfl aK9b ?_
            refine VA.takeX (i := 10) rfl (by kernel_rfl) (by kernel_rfl) (by kernel_rfl) rfl rfl rfl rfl aK9b ?_
            refine VA.takeU (i := 11) rfl (by kernel_rfl) (by kernel_rfl) (by kernel_rfl) rfl rfl rfl rfl ?_
            refine VA.takeU (i := 12) rfl (by kernel_rfl) (by kernel_rfl) (by kernel_rfl) rfl rfl rfl rfl ?_
            refine VA.takeU (i := 13) rfl (by kernel_rfl) (by kernel_rfl) (by kernel_rfl) rfl rfl rfl rfl ?_
            refine VA.takeU (i := 14) rfl (by kernel_rfl) (by kernel_rfl) (by kernel_rfl) rfl rfl rfl rfl ?_
            refine VA.takeX (i := 15) rfl (by kernel_rfl) (by kernel_rfl) (by kernel_rfl) rfl rfl rfl rfl aK9b ?_
            refine VA.take (i := 16) rfl (by kernel_rfl) (by kernel_rfl) (by kernel_rfl) rfl rfl (OpV.pickF rfl rfl rfl rfl aK9b) ?_
            refine VA.all (rs := [17]) (by kernel_rfl) (by decide) ?_
            refine ⟨⟨_, rfl, .inl rfl, ?_⟩, trivial⟩
            refine OpE.store (i := 0) rfl hB rfl Tryz.sizeOf124 rfl rfl rfl rfl rfl rfl (Nle rfl) (by first | exact ⟨rfl, rfl⟩ | exact .inl ⟨rfl, rfl⟩ | exact .inr ⟨rfl, rfl⟩ | exact ⟨rfl, trivial⟩ | exact .inl ⟨rfl, trivial⟩ | exact .inr ⟨rfl, trivial⟩ | exact ⟨by decide, rfl⟩) ?_
            refine VA.take (i := 18) rfl (by kernel_rfl) (by kernel_rfl) (by kernel_rfl) rfl rfl (OpV.move (.inr rfl) rfl) ?_
            refine VA.done (by kernel_rfl) ?_
            refine VC.ret ?_
            exact Exists.intro _ (And.intro (RetN.two Tryz.results148 ((by first | exact ResN.cellF (i := 0) Tryz.isAgg124 Tryz.sizeOf124 rfl rfl rfl (flat_ofB rfl) | exact ResN.cellF (i := 1) Tryz.isAgg124 Tryz.sizeOf124 rfl rfl rfl (flat_ofB rfl))) (ResN.v rfl)) (by first | exact ⟨x, fun _ => hxo, rd_out (rd1 hok2 (by assumption))⟩ | exact ⟨x, fun _ => hxo, rd_out (rd2 hok2 (by assumption) (by assumption))⟩ | exact ⟨x, fun _ => hxo, rd_out (rd3 hok2 (by assumption) (by assumption) (by assumption))⟩ | exact ⟨x, fun _ => hxo, rd_out (rd4 hok2 (by assumption) (by assumption) (by assumption))⟩))
        · have aK8 := aK8b
          try simp only [qq] at aK8
          refine VA.takeX (i := 3) rfl (by kernel_rfl) (by kernel_rfl) (by kernel_rfl) rfl rfl rfl rfl aK8b ?_
          refine VA.takeX (i := 4) rfl (by kernel_rfl) (by kernel_rfl) (by kernel_rfl) rfl rfl rfl rfl aK8b ?_
          refine VA.takeX (i := 5) rfl (by kernel_rfl) (by kernel_rfl) (by kernel_rfl) rfl rfl rfl rfl aK8b ?_
          refine VA.take (i := 6) rfl (by kernel_rfl) (by kernel_rfl) (by kernel_rfl) rfl rfl (OpV.pickF rfl rfl rfl rfl aK8b) ?_
          refine VA.take (i := 7) rfl (by kernel_rfl) (by kernel_rfl) (by kernel_rfl) rfl rfl (OpV.move (.inl rfl) rfl) ?_
          refine VA.takeX (i := 8) rfl (by kernel_rfl) (by kernel_rfl) (by kernel_rfl) rfl rfl rfl rfl rfl ?_
          refine VA.takeX (i := 9) rfl (by kernel_rfl) (by kernel_rfl) (by kernel_rfl) rfl rfl rfl rfl rfl ?_
          refine VA.takeX (i := 10) rfl (by kernel_rfl) (by kernel_rfl) (by kernel_rfl) rfl rfl rfl rfl rfl ?_
          refine VA.takeU (i := 11) rfl (by kernel_rfl) (by kernel_rfl) (by kernel_rfl) rfl rfl rfl rfl ?_
          refine VA.takeU (i := 12) rfl (by kernel_rfl) (by kernel_rfl) (by kernel_rfl) rfl rfl rfl rfl ?_
          refine VA.takeU (i := 13) rfl (by kernel_rfl) (by kernel_rfl) (by kernel_rfl) rfl rfl rfl rfl ?_
          refine VA.takeU (i := 14) rfl (by kernel_rfl) (by kernel_rfl) (by kernel_rfl) rfl rfl rfl rfl ?_
          refine VA.takeX (i := 15) rfl (by kernel_rfl) (by kernel_rfl) (by kernel_rfl) rfl rfl rfl rfl rfl ?_
          refine VA.take (i := 16) rfl (by kernel_rfl) (by kernel_rfl) (by kernel_rfl) rfl rfl (OpV.pickF rfl rfl rfl rfl rfl) ?_
          refine VA.all (rs := [17]) (by kernel_rfl) (by decide) ?_
          refine ⟨⟨_, rfl, .inl rfl, ?_⟩, trivial⟩
          refine OpE.store (i := 0) rfl hB rfl Tryz.sizeOf124 rfl rfl rfl rfl rfl rfl (Nle rfl) (by first | exact ⟨rfl, rfl⟩ | exact .inl ⟨rfl, rfl⟩ | exact .inr ⟨rfl, rfl⟩ | exact ⟨rfl, trivial⟩ | exact .inl ⟨rfl, trivial⟩ | exact .inr ⟨rfl, trivial⟩ | exact ⟨by decide, rfl⟩) ?_
          refine VA.take (i := 18) rfl (by kernel_rfl) (by kernel_rfl) (by kernel_rfl) rfl rfl (OpV.move (.inr rfl) rfl) ?_
          refine VA.done (by kernel_rfl) ?_
          refine VC.ret ?_
          exact Exists.intro _ (And.intro (RetN.two Tryz.results148 ((by first | exact ResN.cellF (i := 0) Tryz.isAgg124 Tryz.sizeOf124 rfl rfl rfl (flat_ofB rfl) | exact ResN.cellF (i := 1) Tryz.isAgg124 Tryz.sizeOf124 rfl rfl rfl (flat_ofB rfl))) (ResN.v rfl)) (by first | exact ⟨x, fun _ => hxo, rd_out (rd1 hok2 (by assumption))⟩ | exact ⟨x, fun _ => hxo, rd_out (rd2 hok2 (by assumption) (by assumption))⟩ | exact ⟨x, fun _ => hxo, rd_out (rd3 hok2 (by assumption) (by assumption) (by assumption))⟩ | exact ⟨x, fun _ => hxo, rd_out (rd4 hok2 (by assumption) (by assumption) (by assumption))⟩))
  · replace aK1b : _ = true := aK1b
    have aK1 := aK1b
    try simp only [qq] at aK1
    refine VO.opX rfl rfl rfl rfl aK1b ?_
    refine VO.opX rfl rfl rfl rfl aK1b ?_
    refine VO.val rfl rfl (OpV.pickT rfl rfl rfl rfl aK1b) ?_
    refine VO.nil ?_
    refine VC.condT rfl rfl ?_
    have hno : okLk s = false := okLk_no (.inl (by simp_all))
    refine VC.sr ?_
    refine VO.val rfl rfl (OpV.build (pls := #[(0, 1), (1, 1), (2, 1), (3, 1), (4, 1), (5, 1), (6, 1), (7, 1)]) rfl Tryz.zeroValue124 Tryz.underlying124 (fun w => by kernel_rfl) rfl rfl) ?_
    refine VO.op rfl (OpE.store (i := 0) rfl hB rfl Tryz.sizeOf124 rfl rfl rfl rfl rfl rfl (Nle rfl) trivial ?_)
    refine VO.ma rfl rfl rfl rfl ?_
    refine VO.nil ?_
    refine VC.ret ?_
    exact Exists.intro _ (And.intro (RetN.two Tryz.results148 ((by first | exact ResN.cellF (i := 0) Tryz.isAgg124 Tryz.sizeOf124 rfl rfl rfl (flat_ofB rfl))) (ResN.v rfl)) (⟨default, (fun e => by rw [hno] at e; (cases e)), by rw [hno]; rfl⟩))
end
section
theorem decB_itoa (n : Nat) : decB n = itoaS (n : Int) := by
 rw [itoaS, Lib.itoa_nonneg]; rfl
theorem badW_word : wordO badW = true := by decide +kernel
theorem fineW_word : wordO fineW = true := by decide +kernel
theorem vWords_word : ∀ j, j < 6 → 1 ≤ j → wordO (vWords.getD j ByteArray.empty) = true ∧ vIx (vWords.getD j ByteArray.empty) = (j : Int) := by decide +kernel
theorem vWd_back {x : LookS} (h : 1 ≤ x.verdict ∧ x.verdict ≤ 5) : wordO (vWd x) = true ∧ vIx (vWd x) = x.verdict := by
 obtain ⟨h1, h2⟩ := vWords_word x.verdict.toNat (by omega) (by omega)
 exact ⟨h1, by unfold vWd; rw [h2]; omega⟩
theorem wordL_back (x : LookS) : wordO (wordL x) = true ∧ sEq (wordL x) badW = x.bad ∧ (sEq (wordL x) badW || sEq (wordL x) fineW) = true := by
 unfold wordL
 cases x.bad with
 | true => exact ⟨badW_word, sEq_refl _, by rw [if_pos rfl, sEq_refl]; rfl⟩
 | false =>
  have h : sEq fineW badW = false := by decide +kernel
  exact ⟨fineW_word, h, by rw [if_neg (by simp), h, sEq_refl]; rfl⟩
theorem w8_lineL {ws : List ByteArray} (hne : ws ≠ []) (h : ∀ w ∈ ws, wordO w = true) (i : Nat) : w8 (lineW ws) i = ws.getD i ByteArray.empty := by
 unfold w8; rw [(splitS_line hne h).1]
theorem lineWs_word {x : LookS} (h : LkT x) (hk : (lkStrs x).all keyF = true) : ∀ w ∈ lineWs x, wordO w = true := fun w hw => by
 have hk' := List.all_eq_true.1 hk
 simp only [lineWs, List.mem_cons, List.not_mem_nil, or_false] at hw
 rcases hw with rfl | rfl | rfl | rfl | rfl | rfl | rfl | rfl
 ·rw [decB_itoa]; exact dd_word _
 ·exact key_word (hk' _ (by simp [lkStrs]))
 ·exact key_word (hk' _ (by simp [lkStrs]))
 ·exact (vWd_back h.verdict).1
 ·exact (wordL_back x).1
 ·exact key_word (hk' _ (by simp [lkStrs]))
 ·exact key_word (hk' _ (by simp [lkStrs]))
 ·exact key_word (hk' _ (by simp [lkStrs]))
theorem look_back {x : LookS} (h : LkT x) (hk : (lkStrs x).all keyF = true) : okLk (lineW (lineWs x)) = true ∧ lkOf (lineW (lineWs x)) = x := by
 have hws := lineWs_word h hk
 have hne : lineWs x ≠ [] := by simp [lineWs]
 obtain ⟨e1, e2⟩ := splitS_line hne hws
 have g := fun i => w8_lineL hne hws i
 have hat := h.at_
 obtain ⟨n1, n2⟩ := num_back (n := x.at_) hat.1 (by omega)
 have ed : decB x.at_.toNat = itoaS x.at_ := by rw [decB_itoa]; congr 1; omega
 have g0 : w8 (lineW (lineWs x)) 0 = itoaS x.at_ := by rw [g 0]; exact ed
 have g3 : w8 (lineW (lineWs x)) 3 = vWd x := g 3
 have g4 : w8 (lineW (lineWs x)) 4 = wordL x := g 4
 obtain ⟨_, v2⟩ := vWd_back h.verdict
 obtain ⟨_, b2, b3⟩ := wordL_back x
 refine ⟨?_, ?_⟩
 ·rw [okLk_8 e2 (by rw [e1]; rfl), g0, g3, g4, n1, v2, b3, decide_eq_true h.verdict.1]; rfl
 ·unfold lkOf
  rw [g0, g3, g4, n2, v2, b2, g 1, g 2, g 5, g 6, g 7]
  rfl
theorem byL_appL (a b : ByteArray) : byL (a ++ b) = byL a ++ byL b := by simp [byL, ByteArray.data_append]
theorem foldL_L (l : List LookS) (s : ByteArray) : byL (l.foldl (fun a x => a ++ lineT x) s) = byL s ++ l.flatMap fun x => byL (lineT x) := by
 induction l generalizing s with
 | nil => simp
 | cons x l ih => rw [List.foldl_cons, ih, byL_appL, List.flatMap_cons, List.append_assoc]
theorem txt_words (l : List LookS) : byL (txt l) = (l.map lineWs).flatMap fun ws => joinL ws ⟨#[32]⟩ ++ [10] := by
 unfold txt
 rw [foldL_L, List.flatMap_map]
 show [] ++ _ = _
 rw [List.nil_append]
 apply congrArg (fun f => l.flatMap f)
 funext x
 unfold lineT
 rw [byL_bytesOf]
theorem lk_back {m : Nat} {l : List LookS} (hm : m ≤ 9) (hk : ∀ x ∈ l, LkG m x) (h0 : lookF l = 0) (hz : (txt l).size ≤ 200000) : lkRead (txt l) = (l, 0, 0) := by
 have hx : ∀ x ∈ l, LkT x ∧ (lkStrs x).all keyF = true := fun x hx => by
  obtain ⟨j, hj, rfl⟩ := List.getElem_of_mem hx
  have h1 := LkT.of hm hk h0 hj
  have h2 := (lookE_zero ((lookOk h0).all j hj)).keys
  rw [List.getD_eq_getElem?_getD, List.getElem?_eq_getElem hj] at h1 h2
  exact ⟨h1, h2⟩
 obtain ⟨e1, e2⟩ := lines_words (txt_words l) (fun ws hws w hw => by
  obtain ⟨x, hx', rfl⟩ := List.mem_map.1 hws
  exact lineWs_word (hx x hx').1 (hx x hx').2 w hw)
 rw [List.map_map] at e1
 have hmap : (linesR (txt l)).map lkOf = l := by
  rw [e1, List.map_map]
  conv => rhs; rw [← List.map_id l]
  exact List.map_congr_left fun x hx' => (look_back (hx x hx').1 (hx x hx').2).2
 have hbad : lkBad (txt l) = none := by
  show lnF _ _ _ = none
  refine lnF_none fun j hj => ?_
  unfold lnBad okAt okL1
  rw [e2]
  have hj' : j < l.length := by rw [e1] at hj; simpa using hj
  have : (linesR (txt l)).getD j ByteArray.empty = lineW (lineWs l[j]) := by rw [e1]; simp [List.getD_eq_getElem?_getD, hj']
  rw [this, (look_back (hx _ (List.getElem_mem hj')).1 (hx _ (List.getElem_mem hj')).2).1]
  rfl
 rw [lkRead_0 (by omega) hbad (by rw [hmap]; exact h0), hmap]
end
section
structure PaceS where
 product : ByteArray
 cycle : Int
 needs : List NeedS
instance : Inhabited PaceS := ⟨⟨ByteArray.empty, 0, []⟩⟩
instance : Sxc PaceS where
 k := 3
 pos := by decide
 cell m j := match j with
  | 0 => avS m.product
  | 1 => avI m.cycle
  | 2 => avL m.needs
  | _ => .any
structure OrdrS where
 key : ByteArray
 product : ByteArray
 count : Int
 ready : Int
 due : Int
instance : Inhabited OrdrS := ⟨⟨ByteArray.empty, ByteArray.empty, 0, 0, 0⟩⟩
instance : Sxc OrdrS where
 k := 5
 pos := by decide
 cell m j := match j with
  | 0 => avS m.key
  | 1 => avS m.product
  | 2 => avI m.count
  | 3 => avI m.ready
  | 4 => avI m.due
  | _ => .any
structure WinS where
 fr : Int
 «to» : Int
instance : Inhabited WinS := ⟨⟨0, 0⟩⟩
instance : Sxc WinS where
 k := 2
 pos := by decide
 cell m j := match j with
  | 0 => avI m.fr
  | 1 => avI m.to
  | _ => .any
abbrev avPc (x : PaceS) : AV := .agg [avS x.product, avI x.cycle, avL x.needs]
structure SmPc (p : List PaceS) : Prop where
 len : p.length ≤ 1000000
 prod : ∀ i, (p.getD i default).product.size ≤ 1000000
 nlen : ∀ i, (p.getD i default).needs.length ≤ 1000000
 nkey : ∀ i j, ((p.getD i default).needs.getD j default).key.size ≤ 1000000
structure SmOr (o : List OrdrS) : Prop where
 len : o.length ≤ 1000000
 key : ∀ i, (o.getD i default).key.size ≤ 1000000
 prod : ∀ i, (o.getD i default).product.size ≤ 1000000
def paceE (p : List PaceS) (i : Nat) : Int :=
 if keyF (p.getD i default).product = false then 5
 else if (decide (0 < i) && sLe (p.getD i default).product (p.getD (i - 1) default).product) = true then 7
 else if outR (p.getD i default).cycle 1 10000000 = true then 1
 else needsF (p.getD i default).needs 1 1000
def paceF (p : List PaceS) : Int := if 200 < p.length then 2 else firstE (paceE p) p.length
def ordrE (o : List OrdrS) (i : Nat) : Int :=
 if (keyF (o.getD i default).key && keyF (o.getD i default).product) = false then 5
 else if (outR (o.getD i default).count 1 100000 || (outR (o.getD i default).ready 0 345686399999 || outR (o.getD i default).due 0 345686399999)) = true then 1
 else if (decide (0 < i) && sLe (o.getD i default).key (o.getD (i - 1) default).key) = true then 7
 else 0
def ordrF (o : List OrdrS) : Int := if 200 < o.length then 2 else firstE (ordrE o) o.length
section
variable {p : List PaceS} {i : Nat}
theorem paceE_5 (h : keyF (p.getD i default).product = false) : paceE p i = 5 := by rw [paceE, if_pos h]
theorem paceE_7 (h : keyF (p.getD i default).product = true) (hi : 0 < i) (hs : sLe (p.getD i default).product (p.getD (i - 1) default).product = true) : paceE p i = 7 := by
 rw [paceE, if_neg (by rw [h]; simp), if_pos (by rw [hs, decide_eq_true hi]; rfl)]
theorem paceE_x (h : keyF (p.getD i default).product = true) (hs : i = 0 ∨ sLe (p.getD i default).product (p.getD (i - 1) default).product = false) :
  paceE p i = if outR (p.getD i default).cycle 1 10000000 = true then 1 else needsF (p.getD i default).needs 1 1000 := by
 rw [paceE, if_neg (by rw [h]; simp), if_neg]
 rcases hs with rfl | hs
 ·simp
 ·rw [hs]; simp
theorem paceE_1 (h : keyF (p.getD i default).product = true) (hs : i = 0 ∨ sLe (p.getD i default).product (p.getD (i - 1) default).product = false) (ho : outR (p.getD i default).cycle 1 10000000 = true) : paceE p i = 1 := by rw [paceE_x h hs, if_pos ho]
theorem paceE_n (h : keyF (p.getD i default).product = true) (hs : i = 0 ∨ sLe (p.getD i default).product (p.getD (i - 1) default).product = false) (ho : outR (p.getD i default).cycle 1 10000000 = false) : paceE p i = needsF (p.getD i default).needs 1 1000 := by rw [paceE_x h hs, if_neg (by rw [ho]; simp)]
theorem paceF_2 (h : 200 < p.length) : paceF p = 2 := by rw [paceF, if_pos h]
theorem paceF_at (h : p.length ≤ 200) {q : Nat} (hq : q < p.length) (hn : ∀ j, j < q → paceE p j = 0) {e : Int} (he : paceE p q = e) (h0 : e ≠ 0) : paceF p = e := by
 rw [paceF, if_neg (by omega), firstE_found hn (by rw [he]; exact h0) hq, he]
theorem paceF_ok (h : p.length ≤ 200) (hn : ∀ j, j < p.length → paceE p j = 0) : paceF p = 0 := by rw [paceF, if_neg (by omega), firstE_none hn]
end
section
variable {o : List OrdrS} {i : Nat}
theorem ordrE_5a (h : keyF (o.getD i default).key = false) : ordrE o i = 5 := by rw [ordrE, if_pos (by rw [h]; rfl)]
theorem ordrE_5b (h : keyF (o.getD i default).product = false) : ordrE o i = 5 := by rw [ordrE, if_pos (by rw [h, Bool.and_false])]
theorem ordrE_1 (h1 : keyF (o.getD i default).key = true) (h2 : keyF (o.getD i default).product = true) (ho : (outR (o.getD i default).count 1 100000 || (outR (o.getD i default).ready 0 345686399999 || outR (o.getD i default).due 0 345686399999)) = true) : ordrE o i = 1 := by
 rw [ordrE, if_neg (by rw [h1, h2]; simp), if_pos ho]
theorem ordrE_7 (h1 : keyF (o.getD i default).key = true) (h2 : keyF (o.getD i default).product = true) (ho : (outR (o.getD i default).count 1 100000 || (outR (o.getD i default).ready 0 345686399999 || outR (o.getD i default).due 0 345686399999)) = false) (hi : 0 < i) (hs : sLe (o.getD i default).key (o.getD (i - 1) default).key = true) : ordrE o i = 7 := by
 rw [ordrE, if_neg (by rw [h1, h2]; simp), if_neg (by rw [ho]; simp), if_pos (by rw [hs, decide_eq_true hi]; rfl)]
theorem ordrE_0 (h1 : keyF (o.getD i default).key = true) (h2 : keyF (o.getD i default).product = true) (ho : (outR (o.getD i default).count 1 100000 || (outR (o.getD i default).ready 0 345686399999 || outR (o.getD i default).due 0 345686399999)) = false) (hs : i = 0 ∨ sLe (o.getD i default).key (o.getD (i - 1) default).key = false) : ordrE o i = 0 := by
 rw [ordrE, if_neg (by rw [h1, h2]; simp), if_neg (by rw [ho]; simp), if_neg]
 rcases hs with rfl | hs
 ·simp
 ·rw [hs]; simp
theorem ordrF_2 (h : 200 < o.length) : ordrF o = 2 := by rw [ordrF, if_pos h]
theorem ordrF_at (h : o.length ≤ 200) {q : Nat} (hq : q < o.length) (hn : ∀ j, j < q → ordrE o j = 0) {e : Int} (he : ordrE o q = e) (h0 : e ≠ 0) : ordrF o = e := by
 rw [ordrF, if_neg (by omega), firstE_found hn (by rw [he]; exact h0) hq, he]
theorem ordrF_ok (h : o.length ≤ 200) (hn : ∀ j, j < o.length → ordrE o j = 0) : ordrF o = 0 := by rw [ordrF, if_neg (by omega), firstE_none hn]
end
def hasP (p : List PaceS) (k : ByteArray) : Bool := p.any fun x => sEq x.product k
def paceO (p : List PaceS) (k : ByteArray) : PaceS := (p.find? fun x => sEq x.product k).getD default
def bothF (p : List PaceS) (o : List OrdrS) : Int :=
 if paceF p ≠ 0 then paceF p else if ordrF o ≠ 0 then ordrF o else if o.all (fun x => hasP p x.product) = true then 0 else 8
theorem bothF_1 {p : List PaceS} {o : List OrdrS} (h : paceF p ≠ 0) : bothF p o = paceF p := by rw [bothF, if_pos h]
theorem bothF_2 {p : List PaceS} {o : List OrdrS} (h : paceF p = 0) (h2 : ordrF o ≠ 0) : bothF p o = ordrF o := by rw [bothF, if_neg (by omega), if_pos h2]
theorem bothF_3 {p : List PaceS} {o : List OrdrS} (h : paceF p = 0) (h2 : ordrF o = 0) : bothF p o = if o.all (fun x => hasP p x.product) = true then 0 else 8 := by rw [bothF, if_neg (by omega), if_neg (by omega)]
theorem bothF_0 {p : List PaceS} {o : List OrdrS} (h : bothF p o = 0) : paceF p = 0 ∧ ordrF o = 0 ∧ o.all (fun x => hasP p x.product) = true := by
 unfold bothF at h
 split at h
 ·contradiction
 ·split at h
  ·contradiction
  ·split at h
   ·rename_i h1 h2 h3; exact ⟨by simpa using h1, by simpa using h2, h3⟩
   ·cases h
structure PacesOk (p : List PaceS) : Prop where
 len : p.length ≤ 200
 all : ∀ j, j < p.length → paceE p j = 0
theorem pacesOk {p : List PaceS} (h : paceF p = 0) : PacesOk p := by
 unfold paceF at h
 split at h
 ·cases h
 ·exact ⟨by omega, firstE_zero h⟩
structure OrdrsOk (o : List OrdrS) : Prop where
 len : o.length ≤ 200
 all : ∀ j, j < o.length → ordrE o j = 0
theorem ordrsOk {o : List OrdrS} (h : ordrF o = 0) : OrdrsOk o := by
 unfold ordrF at h
 split at h
 ·cases h
 ·exact ⟨by omega, firstE_zero h⟩
theorem paceE_zero {p : List PaceS} {i : Nat} (h : paceE p i = 0) : keyF (p.getD i default).product = true ∧ (0 < i → sLe (p.getD i default).product (p.getD (i - 1) default).product = false) ∧ (1 ≤ (p.getD i default).cycle ∧ (p.getD i default).cycle ≤ 10000000) ∧ needsF (p.getD i default).needs 1 1000 = 0 := by
 unfold paceE at h
 split at h
 ·cases h
 ·rename_i h1
  split at h
  ·cases h
  ·rename_i h2
   split at h
   ·cases h
   ·rename_i h3
    refine ⟨by simpa using h1, fun hi => ?_, ?_, h⟩
    ·rw [decide_eq_true hi, Bool.true_and] at h2
     simpa using h2
    ·simp only [outR, Bool.or_eq_true, decide_eq_true_eq, not_or] at h3
     omega
theorem ordrE_zero {o : List OrdrS} {i : Nat} (h : ordrE o i = 0) : (keyF (o.getD i default).key = true ∧ keyF (o.getD i default).product = true) ∧ (0 < i → sLe (o.getD i default).key (o.getD (i - 1) default).key = false) ∧ (1 ≤ (o.getD i default).count ∧ (o.getD i default).count ≤ 100000) ∧ (0 ≤ (o.getD i default).ready ∧ (o.getD i default).ready ≤ 345686399999) ∧ (0 ≤ (o.getD i default).due ∧ (o.getD i default).due ≤ 345686399999) := by
 unfold ordrE at h
 split at h
 ·cases h
 ·rename_i h1
  split at h
  ·cases h
  ·rename_i h2
   split at h
   ·cases h
   ·rename_i h3
    have h1' : (keyF (o.getD i default).key && keyF (o.getD i default).product) = true := by simpa using h1
    rw [Bool.and_eq_true] at h1'
    simp only [outR, Bool.or_eq_true, decide_eq_true_eq, not_or] at h2
    refine ⟨h1', fun hi => ?_, by omega, by omega, by omega⟩
    rw [decide_eq_true hi, Bool.true_and] at h3
    simpa using h3
def chgN (a b : List NeedS) (q : Nat) : Nat := ((b.take q).filter fun x => !(a.any fun y => sEq y.key x.key)).length
theorem chgN_le (a b : List NeedS) (q : Nat) : chgN a b q ≤ b.length := by
 unfold chgN
 have := List.length_filter_le (fun x => !(a.any fun y => sEq y.key x.key)) (b.take q)
 rw [List.length_take] at this
 omega
theorem chgN_t {a b : List NeedS} {q : Nat} (h : q < b.length) (hx : a.any (fun y => sEq y.key (b.getD q default).key) = false) : chgN a b (q + 1) = chgN a b q + 1 := by
 unfold chgN
 rw [List.take_add_one, List.getElem?_eq_getElem h, List.filter_append, List.length_append]
 have : b.getD q default = b[q] := by rw [List.getD_eq_getElem?_getD, List.getElem?_eq_getElem h]; rfl
 rw [this] at hx
 simp [hx]
theorem chgN_f {a b : List NeedS} {q : Nat} (h : q < b.length) (hx : a.any (fun y => sEq y.key (b.getD q default).key) = true) : chgN a b (q + 1) = chgN a b q := by
 unfold chgN
 rw [List.take_add_one, List.getElem?_eq_getElem h, List.filter_append, List.length_append]
 have : b.getD q default = b[q] := by rw [List.getD_eq_getElem?_getD, List.getElem?_eq_getElem h]; rfl
 rw [this] at hx
 simp [hx]
def chgI (a b : PaceS) (each : Int) : Int := each * (chgN a.needs b.needs b.needs.length : Int)
def schF (n : Nat) (l : List Int) : Int := if l.length = n ∧ l.Nodup ∧ (∀ x ∈ l, 0 ≤ x ∧ x < n) then 0 else 3
def startF (start each : Int) : Int := if (outR start 0 345686399999 || outR each 0 10000000) = true then 1 else 0
def scheF (p : List PaceS) (o : List OrdrS) (l : List Int) (start each : Int) : Int :=
 if bothF p o ≠ 0 then bothF p o else if schF o.length l ≠ 0 then schF o.length l else startF start each
def longO (p : List PaceS) (x : OrdrS) : Int := (paceO p x.product).cycle * x.count
def turnO (p : List PaceS) (each : Int) (x y : OrdrS) : Int := chgI (paceO p x.product) (paceO p y.product) each
structure ResS where
 late : Int
 many : Int
 en : Int
section
variable (p : List PaceS) (o : List OrdrS) (l : List Int) (start each : Int)
abbrev orA (i : Int) : OrdrS := o.getD i.toNat default
def endP : Nat → Int
 | 0 => max start (orA o (l.getD 0 0)).ready + longO p (orA o (l.getD 0 0))
 | q + 1 => max (endP q + turnO p each (orA o (l.getD q 0)) (orA o (l.getD (q + 1) 0))) (orA o (l.getD (q + 1) 0)).ready + longO p (orA o (l.getD (q + 1) 0))
def fromP : Nat → Int
 | 0 => max start (orA o (l.getD 0 0)).ready
 | q + 1 => max (endP p o l start each q + turnO p each (orA o (l.getD q 0)) (orA o (l.getD (q + 1) 0))) (orA o (l.getD (q + 1) 0)).ready
def winP (q : Nat) : WinS := ⟨fromP p o l start each q, endP p o l start each q⟩
theorem endP_from (q : Nat) : endP p o l start each q = fromP p o l start each q + longO p (orA o (l.getD q 0)) := by cases q <;> rfl
def resP : Nat → ResS
 | 0 => ⟨0, 0, start⟩
 | q + 1 => if (orA o (l.getD q 0)).due < endP p o l start each q
   then ⟨(resP q).late + (endP p o l start each q - (orA o (l.getD q 0)).due), (resP q).many + 1, endP p o l start each q⟩
   else ⟨(resP q).late, (resP q).many, endP p o l start each q⟩
theorem resP_en (q : Nat) : (resP p o l start each (q + 1)).en = endP p o l start each q := by rw [resP]; split <;> rfl
def timesQ : Nat → List WinS
 | 0 => List.replicate o.length default
 | q + 1 => (timesQ q).set (l.getD q 0).toNat (winP p o l start each q)
theorem timesQ_len (q : Nat) : (timesQ p o l start each q).length = o.length := by
 induction q with
 | zero => simp [timesQ]
 | succ q ih => simp [timesQ, ih]
end
end
section
theorem pace_rise {p : List PaceS} (h : PacesOk p) : RiseK PaceS.product p := fun j h0 hj => (paceE_zero (h.all j hj)).2.1 h0
theorem needsF_lenP {l : List NeedS} {lo hi : Int} (h : needsF l lo hi = 0) : l.length ≤ 1000 := by
 unfold needsF at h
 split at h
 ·cases h
 ·omega
theorem paceO_in {p : List PaceS} {k : ByteArray} (h : hasP p k = true) : ∃ j, j < p.length ∧ paceO p k = p.getD j default := by
 unfold hasP at h
 cases hf : p.find? (fun x => sEq x.product k) with
 | none => rw [List.find?_eq_none] at hf; obtain ⟨x, hx, he⟩ := List.any_eq_true.1 h; exact absurd he (hf x hx)
 | some x =>
  obtain ⟨j, hj, e⟩ := List.getElem_of_mem (List.mem_of_find?_eq_some hf)
  refine ⟨j, hj, ?_⟩
  rw [paceO, hf, List.getD_eq_getElem?_getD, List.getElem?_eq_getElem hj, e]
theorem paceO_ok {p : List PaceS} (hp : PacesOk p) {k : ByteArray} (h : hasP p k = true) : (1 ≤ (paceO p k).cycle ∧ (paceO p k).cycle ≤ 10000000) ∧ (paceO p k).needs.length ≤ 1000 := by
 obtain ⟨j, hj, e⟩ := paceO_in h
 rw [e]
 have := paceE_zero (hp.all j hj)
 exact ⟨this.2.2.1, needsF_lenP this.2.2.2⟩
theorem paceO_sm {p : List PaceS} (hp : SmPc p) (k : ByteArray) : (paceO p k).needs.length ≤ 1000000 ∧ ∀ j, ((paceO p k).needs.getD j default).key.size ≤ 1000000 := by
 by_cases h : hasP p k = true
 ·obtain ⟨j, _, e⟩ := paceO_in h
  rw [e]; exact ⟨hp.nlen j, hp.nkey j⟩
 ·have : paceO p k = default := by
   unfold paceO
   exact find_none' (by simpa [hasP] using h)
  rw [this]
  exact ⟨by simp [default], fun j => by simp [default]⟩
theorem mul_bd {a b A B : Int} (h0 : 0 ≤ a) (h1 : a ≤ A) (h2 : 0 ≤ b) (h3 : b ≤ B) : 0 ≤ a * b ∧ a * b ≤ A * B :=
 ⟨Int.mul_nonneg h0 h2, Int.le_trans (Int.mul_le_mul_of_nonneg_right h1 h2) (Int.mul_le_mul_of_nonneg_left h3 (Int.le_trans h0 h1))⟩
structure OrdrsB (o : List OrdrS) : Prop where
 len : o.length ≤ 201
 all : ∀ j, j < o.length → (1 ≤ (o.getD j default).count ∧ (o.getD j default).count ≤ 100000) ∧ (0 ≤ (o.getD j default).ready ∧ (o.getD j default).ready ≤ 345686399999) ∧ (0 ≤ (o.getD j default).due ∧ (o.getD j default).due ≤ 345686399999)
theorem OrdrsOk.bd {o : List OrdrS} (h : OrdrsOk o) : OrdrsB o := ⟨by have := h.len; omega, fun j hj => (ordrE_zero (h.all j hj)).2.2⟩
structure SchOk (p : List PaceS) (o : List OrdrS) (l : List Int) (start each : Int) : Prop where
 pok : PacesOk p
 ook : OrdrsB o
 has : ∀ j, j < o.length → hasP p (o.getD j default).product = true
 len : l.length = o.length
 ord : Ord o.length l
 st : 0 ≤ start ∧ start ≤ 345686399999
 ea : 0 ≤ each ∧ each ≤ 10000000
theorem bothF_has {p : List PaceS} {o : List OrdrS} (h : bothF p o = 0) : ∀ j, j < o.length → hasP p (o.getD j default).product = true := fun j hj => by
 have := List.all_eq_true.1 (bothF_0 h).2.2 (o[j]) (List.getElem_mem hj)
 rwa [List.getD_eq_getElem?_getD, List.getElem?_eq_getElem hj]
theorem schF_0 {n : Nat} {l : List Int} (h : schF n l = 0) : l.length = n ∧ Ord n l := by
 unfold schF at h
 split at h
 ·rename_i h1; exact ⟨h1.1, h1.2.1, h1.2.2⟩
 ·cases h
theorem startF_0 {s e : Int} (h : startF s e = 0) : (0 ≤ s ∧ s ≤ 345686399999) ∧ (0 ≤ e ∧ e ≤ 10000000) := by
 unfold startF at h
 split at h
 ·cases h
 ·rename_i h1
  simp only [outR, Bool.or_eq_true, decide_eq_true_eq, not_or] at h1
  omega
theorem schOk {p : List PaceS} {o : List OrdrS} {l : List Int} {s e : Int} (h : scheF p o l s e = 0) : SchOk p o l s e := by
 unfold scheF at h
 split at h
 ·contradiction
 ·split at h
  ·contradiction
  ·rename_i h1 h2
   have h1' : bothF p o = 0 := by simpa using h1
   have h2' : schF o.length l = 0 := by simpa using h2
   have h3 := bothF_0 h1'
   have h4 := startF_0 h
   exact ⟨pacesOk h3.1, (ordrsOk h3.2.1).bd, bothF_has h1', (schF_0 h2').1, (schF_0 h2').2, h4.1, h4.2⟩
section
variable {p : List PaceS} {o : List OrdrS} {l : List Int} {start each : Int} (h : SchOk p o l start each)
include h
theorem SchOk.at_ {q : Nat} (hq : q < l.length) : 0 ≤ l.getD q 0 ∧ (l.getD q 0).toNat < o.length := by
 have := h.ord.lt (l[q]) (List.getElem_mem hq)
 rw [List.getD_eq_getElem?_getD, List.getElem?_eq_getElem hq]
 simp only [Option.getD_some]
 omega
theorem SchOk.long {i : Nat} (hi : i < o.length) : 0 ≤ longO p (o.getD i default) ∧ longO p (o.getD i default) ≤ 1000000000000 := by
 have h1 := (paceO_ok h.pok (h.has i hi)).1
 have h2 := (h.ook.all i hi).1
 have := mul_bd (by omega : 0 ≤ (paceO p (o.getD i default).product).cycle) h1.2 (by omega : 0 ≤ (o.getD i default).count) h2.2
 unfold longO
 omega
theorem SchOk.turn {i j : Nat} (hj : j < o.length) : 0 ≤ turnO p each (o.getD i default) (o.getD j default) ∧ turnO p each (o.getD i default) (o.getD j default) ≤ 10000000000 := by
 have h1 := (paceO_ok h.pok (h.has j hj)).2
 have h2 := chgN_le (paceO p (o.getD i default).product).needs (paceO p (o.getD j default).product).needs (paceO p (o.getD j default).product).needs.length
 have := mul_bd h.ea.1 h.ea.2 (by omega : (0 : Int) ≤ (chgN (paceO p (o.getD i default).product).needs (paceO p (o.getD j default).product).needs (paceO p (o.getD j default).product).needs.length : Int)) (by omega : _ ≤ (1000 : Int))
 unfold turnO chgI
 omega
theorem SchOk.bd : ∀ q, q < l.length → (0 ≤ fromP p o l start each q ∧ fromP p o l start each q ≤ endP p o l start each q) ∧ endP p o l start each q ≤ 345686400000 + (q + 1) * 1010000000000
 | 0, hq => by
  have h1 := h.at_ hq
  have h2 := h.long h1.2
  have h3 := (h.ook.all _ h1.2).2.1
  have h4 := h.st
  simp only [fromP, endP, orA]
  omega
 | q + 1, hq => by
  have h1 := h.at_ hq
  have h2 := h.long h1.2
  have h3 := (h.ook.all _ h1.2).2.1
  have h5 := SchOk.bd q (by omega)
  have h6 := h.turn (i := (l.getD q 0).toNat) h1.2
  simp only [fromP, endP, orA]
  omega
theorem SchOk.res : ∀ q, q ≤ l.length → (0 ≤ (resP p o l start each q).late ∧ (resP p o l start each q).late ≤ q * 300000000000000) ∧ (0 ≤ (resP p o l start each q).many ∧ (resP p o l start each q).many ≤ q) ∧ (0 ≤ (resP p o l start each q).en ∧ (resP p o l start each q).en ≤ 300000000000000)
 | 0, hq => by
  have h4 := h.st
  simp only [resP]
  omega
 | q + 1, hq => by
  have h1 := h.at_ (q := q) (by omega)
  have h3 := (h.ook.all _ h1.2).2.2
  have h5 := h.bd q (by omega)
  have h6 := SchOk.res q (by omega)
  have h7 := h.ook.len
  have h8 := h.len
  simp only [resP, orA]
  split
  ·rename_i hd
   simp only
   omega
  ·simp only
   omega
end
def schC (p : List PaceS) (o : List OrdrS) (each : Int) : Nat → AV
 | 0 => avL o
 | 1 => avInts (o.map (longO p))
 | _ => avM (o.map fun x => o.map (turnO p each x))
def schAV (p : List PaceS) (o : List OrdrS) (l : List Int) (start each : Int) : AV := if scheF p o l start each = 0 then .at_ 3 (schC p o each) else .v (.pointer none)
def timesR (p : List PaceS) (o : List OrdrS) (l : List Int) (start each : Int) : List WinS := if scheF p o l start each = 0 then timesQ p o l start each l.length else []
theorem scheF_1 {p : List PaceS} {o : List OrdrS} {l : List Int} {s e : Int} (h : bothF p o ≠ 0) : scheF p o l s e = bothF p o := by rw [scheF, if_pos h]
theorem scheF_2 {p : List PaceS} {o : List OrdrS} {l : List Int} {s e : Int} (h : bothF p o = 0) (h2 : schF o.length l ≠ 0) : scheF p o l s e = schF o.length l := by rw [scheF, if_neg (by omega), if_pos h2]
theorem scheF_3 {p : List PaceS} {o : List OrdrS} {l : List Int} {s e : Int} (h : bothF p o = 0) (h2 : schF o.length l = 0) : scheF p o l s e = startF s e := by rw [scheF, if_neg (by omega), if_neg (by omega)]
theorem schAV_no {p : List PaceS} {o : List OrdrS} {l : List Int} {s e : Int} (h : scheF p o l s e ≠ 0) : schAV p o l s e = .v (.pointer none) := by rw [schAV, if_neg h]
theorem schAV_ok {p : List PaceS} {o : List OrdrS} {l : List Int} {s e : Int} (h : scheF p o l s e = 0) : schAV p o l s e = .at_ 3 (schC p o e) := by rw [schAV, if_pos h]
theorem resP_t {p : List PaceS} {o : List OrdrS} {l : List Int} {s e : Int} {q : Nat} (h : (orA o (l.getD q 0)).due < endP p o l s e q) : resP p o l s e (q + 1) = ⟨(resP p o l s e q).late + (endP p o l s e q - (orA o (l.getD q 0)).due), (resP p o l s e q).many + 1, endP p o l s e q⟩ := by rw [resP, if_pos h]
theorem resP_f {p : List PaceS} {o : List OrdrS} {l : List Int} {s e : Int} {q : Nat} (h : ¬ (orA o (l.getD q 0)).due < endP p o l s e q) : resP p o l s e (q + 1) = ⟨(resP p o l s e q).late, (resP p o l s e q).many, endP p o l s e q⟩ := by rw [resP, if_neg h]
theorem map_getD {α β : Type} (f : α → β) {l : List α} {i : Nat} (h : i < l.length) (d : α) (e : β) : (l.map f).getD i e = f (l.getD i d) := by
 simp [List.getD_eq_getElem?_getD, h]
def runA {τ : Type} (step : τ → Int → WinS → τ) (p : List PaceS) (o : List OrdrS) (l : List Int) (start each : Int) (a : τ) : Nat → τ
 | 0 => a
 | q + 1 => step (runA step p o l start each a q) (l.getD q 0) (winP p o l start each q)
theorem runA_times (p : List PaceS) (o : List OrdrS) (l : List Int) (start each : Int) : ∀ q, runA (fun (a : List WinS) i w => a.set i.toNat w) p o l start each (List.replicate o.length default) q = timesQ p o l start each q
 | 0 => rfl
 | q + 1 => by rw [runA, runA_times p o l start each q]; rfl
def DoesW (n : Nat) {τ : Type} (K : τ → List Ent → Prop) (step : τ → Int → WinS → τ) (P : Program) (F : FuncId) (caps : Array Value) : Prop :=
 ∀ (i : Int) (w : WinS) (a : τ) (h : List Ent), 0 ≤ i → i.toNat < n → K a h →
  SpecH P F ([avI i, .agg [avI w.fr, avI w.to]] ++ caps.toList.map .v) h (fun y hp' => K (step a i w) hp')
theorem map_snoc {α β : Type} {l : List α} {q : Nat} (f : α → β) (h : q < l.length) (d : α) : (l.take (q + 1)).map f = (l.take q).map f ++ [f (l.getD q d)] := by
 rw [List.take_add_one, List.map_append, List.getD_eq_getElem?_getD, List.getElem?_eq_getElem h]; rfl
theorem Ord.take {n : Nat} {l : List Int} {q : Nat} (h : Ord n (l.take q)) (hq : q < l.length) (h0 : 0 ≤ l.getD q 0) (h1 : (l.getD q 0).toNat < n) (h2 : l.getD q 0 ∉ l.take q) : Ord n (l.take (q + 1)) := by
 have := h.snoc h1 (by rwa [Int.toNat_of_nonneg h0])
 rw [Int.toNat_of_nonneg h0] at this
 rw [List.take_add_one, List.getElem?_eq_getElem hq]
 rwa [List.getD_eq_getElem?_getD, List.getElem?_eq_getElem hq] at this
theorem schF_len {n : Nat} {l : List Int} (h : l.length ≠ n) : schF n l = 3 := by rw [schF, if_neg fun e => h e.1]
theorem schF_out {n : Nat} {l : List Int} {q : Nat} (hq : q < l.length) (h : l.getD q 0 < 0 ∨ (n : Int) ≤ l.getD q 0) : schF n l = 3 := by
 rw [schF, if_neg fun e => ?_]
 have := e.2.2 (l[q]) (List.getElem_mem hq)
 rw [List.getD_eq_getElem?_getD, List.getElem?_eq_getElem hq] at h
 simp only [Option.getD_some] at h
 omega
theorem schF_twice {n : Nat} {l : List Int} {q : Nat} (hq : q < l.length) (h : l.getD q 0 ∈ l.take q) : schF n l = 3 := by
 rw [schF, if_neg fun e => ?_]
 rw [List.getD_eq_getElem?_getD, List.getElem?_eq_getElem hq] at h
 simp only [Option.getD_some] at h
 obtain ⟨i, hi, he⟩ := List.getElem_of_mem h
 simp at hi
 rw [List.getElem_take] at he
 have := List.pairwise_iff_getElem.1 e.2.1 i q (by omega) hq (by omega)
 exact this he
theorem schF_ok {n : Nat} {l : List Int} (hl : l.length = n) (h : Ord n l) : schF n l = 0 := by rw [schF, if_pos ⟨hl, h.nd, h.lt⟩]
theorem usedL_take {n : Nat} {l : List Int} {q : Nat} (hq : q < l.length) (h0 : 0 ≤ l.getD q 0) (h1 : (l.getD q 0).toNat < n) : (usedL n (l.take q)).set (l.getD q 0).toNat (avB true) = usedL n (l.take (q + 1)) := by
 rw [usedL_set h1, Int.toNat_of_nonneg h0, List.take_add_one, List.getElem?_eq_getElem hq]
 rw [List.getD_eq_getElem?_getD, List.getElem?_eq_getElem hq]
 rfl
end
section
theorem line_NeedsFault {l : List NeedS} {lo hi : Int} (hl : l.length ≤ 1000000000) (hb : ∀ i, (l.getD i default).key.size ≤ 1000000000) :
  SpecN Tryz.prog 193 [avL l, avI lo, avI hi] (fun y => y = avI (needsF l lo hi)) := by
 refine SpecN.of_VCN Tryz.func193 rfl Tryz.ntmps193 (Nle rfl) fun w A hB => ?_
 refine VC.sr ?_
 refine VO.ma rfl rfl rfl rfl ?_
 refine VO.nil ?_
 refine VC.seq ?_
 refine VC.sr ?_
 refine VO.mv rfl rfl rfl rfl ?_
 refine VO.val rfl rfl (OpV.len_im rfl Tryz.underlying68 rfl) ?_
 refine VO.val rfl rfl (OpV.gtr rfl rfl rfl) ?_
 refine VO.nil ?_
 refine VC.cond rfl (fun aH1b => ?_) (fun aH1b => ?_)
 ·have aH1 := aH1b
  try simp only [qq] at aH1
  refine VC.sr ?_
  refine VO.ma rfl rfl rfl rfl ?_
  refine VO.nil ?_
  refine VC.ret ?_
  exact Exists.intro _ (And.intro (RetN.one Tryz.results193 (ResN.v rfl)) (by rw [needsF_big (by omega)]))
 ·have aH1 := aH1b
  try simp only [qq] at aH1
  refine VC.skip ?_
  refine VC.seq ?_
  refine VC.sr ?_
  refine VO.mv rfl rfl rfl rfl ?_
  refine VO.val rfl rfl (OpV.len_im rfl Tryz.underlying68 rfl) ?_
  refine VO.mv rfl rfl rfl rfl ?_
  refine VO.nil ?_
  refine VC.block ?_
  refine VC.loopK [] trivial ({q : Nat // q ≤ l.length ∧ ∀ j, j < q → needE l lo hi j = 0}) (fun (iZ : {q : Nat // q ≤ l.length ∧ ∀ j, j < q → needE l lo hi j = 0}) => match iZ with | ⟨q, hq, hn⟩ => [(0, avL l), (1, avI lo), (2, avI hi), (12, avL l), (13, avI l.length), (14, avI (q : Int))]) (fun (iZ : {q : Nat // q ≤ l.length ∧ ∀ j, j < q → needE l lo hi j = 0}) => match iZ with | ⟨q, hq, hn⟩ => []) (fun (iZ : {q : Nat // q ≤ l.length ∧ ∀ j, j < q → needE l lo hi j = 0}) => match iZ with | ⟨q, hq, hn⟩ => 0) (fun (iZ : {q : Nat // q ≤ l.length ∧ ∀ j, j < q → needE l lo hi j = 0}) => match iZ with | ⟨q, hq, hn⟩ => l.length - q) ⟨0, Nat.zero_le _, fun j hj => absurd hj (Nat.not_lt_zero j)⟩ (Le.mk hB [] ⟨rfl, rfl, rfl, rfl, rfl, rfl, trivial⟩ rfl rfl (Nat.le_refl _)) ?_
  rintro ⟨q, hq, hn⟩
  show VC _ _ _ _ ⟨[(0, avL l), (1, avI lo), (2, avI hi), (12, avL l), (13, avI l.length), (14, avI (q : Int))] ++ [], [], 0⟩
  refine VC.sr ?_
  refine VO.val rfl rfl (OpV.lss rfl rfl rfl) ?_
  refine VO.nil ?_
  refine VC.seq ?_
  refine VC.cond rfl (fun aH2b => ?_) (fun aH2b => ?_)
  ·have aH2 := aH2b
   try simp only [qq] at aH2
   refine VC.skip ?_
   refine VC.seq ?_
   refine VC.block ?_
   refine VC.sr ?_
   refine VO.mv rfl rfl rfl rfl ?_
   refine VO.val rfl rfl (OpV.indexAddr_E rfl Tryz.underlying68 Tryz.sizeOf90 rfl rfl rfl (by omega)) ?_
   refine VO.val rfl rfl (OpV.loadK_at rfl hB OutW.no Tryz.isAgg90 Tryz.sizeOf90 rfl rfl) ?_
   refine VO.op rfl (OpE.alloc rfl hB rfl Tryz.zeroValue90 rfl ?_)
   intro g8
   refine VO.ma rfl rfl rfl rfl ?_
   refine VO.op rfl (OpE.store (i := 0) rfl hB rfl Tryz.sizeOf90 rfl rfl rfl rfl rfl rfl (Nle rfl) trivial ?_)
   refine VO.nil ?_
   refine VC.block ?_
   refine VC.sr ?_
   refine VO.val rfl rfl (OpV.fieldAddrO 0 rfl Tryz.underlying90 rfl rfl Tryz.sizeOf9 rfl) ?_
   refine VO.val rfl rfl (OpV.load_own (i := 0) rfl hB Tryz.isAgg9 rfl rfl rfl (fun h => h)) ?_
   refine VO.op rfl (OpE.call rfl hB rfl Tryz.call230 rfl (SpecN.spec (kit_IsKey (hb _))) ?_)
   rintro _ rfl
   refine VO.val rfl rfl (OpV.not rfl rfl) ?_
   refine VO.ma rfl rfl rfl rfl ?_
   refine VO.nil ?_
   refine VC.cond rfl (fun hkb => ?_) (fun hkb => ?_)
   ·have hk := hkb
    try simp only [qq] at hk
    refine VC.sr ?_
    refine VO.ma rfl rfl rfl rfl ?_
    refine VO.nil ?_
    refine VC.ret ?_
    exact Exists.intro _ (And.intro (RetN.one Tryz.results193 (ResN.v rfl)) (by rw [needsF_at (by omega) (by omega) hn (needE_5 hk) (by decide)]))
   ·have hk := hkb
    try simp only [qq] at hk
    refine VC.seq ?_
    refine VC.draw (fun _ => NoB) hB (by kernel_rfl) ?_
    refine VA.take (i := 0) rfl (by kernel_rfl) (by kernel_rfl) (by kernel_rfl) rfl rfl (OpV.move (.inl rfl) rfl) ?_
    refine VA.take (i := 1) rfl (by kernel_rfl) (by kernel_rfl) (by kernel_rfl) rfl rfl (OpV.gtr rfl rfl rfl) ?_
    refine VA.take (i := 2) rfl (by kernel_rfl) (by kernel_rfl) (by kernel_rfl) rfl rfl (OpV.move (.inl rfl) rfl) ?_
    refine VA.split (t := 27) rfl (fun aK3b => ?_) (fun aK3b => ?_)
    ·have aK3 := aK3b
     try simp only [qq] at aK3
     refine VA.takeY (i := 3) rfl (by kernel_rfl) (by kernel_rfl) (by kernel_rfl) rfl rfl rfl rfl aK3b (OpV.fieldAddrO 0 rfl Tryz.underlying90 rfl rfl Tryz.sizeOf9 rfl) ?_
     refine VA.takeY (i := 4) rfl (by kernel_rfl) (by kernel_rfl) (by kernel_rfl) rfl rfl rfl rfl aK3b (OpV.load_own (i := 0) rfl hB Tryz.isAgg9 rfl rfl rfl Wi.not0) ?_
     refine VA.takeY (i := 5) rfl (by kernel_rfl) (by kernel_rfl) (by kernel_rfl) rfl rfl rfl rfl aK3b (OpV.move (.inl rfl) rfl) ?_
     refine VA.takeY (i := 6) rfl (by kernel_rfl) (by kernel_rfl) (by kernel_rfl) rfl rfl rfl rfl aK3b (OpV.move (.inl rfl) rfl) ?_
     refine VA.takeY (i := 7) rfl (by kernel_rfl) (by kernel_rfl) (by kernel_rfl) rfl rfl rfl rfl aK3b (OpV.sub rfl rfl rfl (by unfold fits; omega)) ?_
     refine VA.takeY (i := 8) rfl (by kernel_rfl) (by kernel_rfl) (by kernel_rfl) rfl rfl rfl rfl aK3b (OpV.indexAddr_E rfl Tryz.underlying68 Tryz.sizeOf90 rfl rfl (show ((q : Int) - 1) = ((q - 1 : Nat) : Int) by omega) (by omega)) ?_
     refine VA.takeY (i := 9) rfl (by kernel_rfl) (by kernel_rfl) (by kernel_rfl) rfl rfl rfl rfl aK3b (OpV.fieldAddr_atO 0 rfl Tryz.underlying90 rfl rfl Tryz.sizeOf9 rfl rfl) ?_
     refine VA.takeY (i := 10) rfl (by kernel_rfl) (by kernel_rfl) (by kernel_rfl) rfl rfl rfl rfl aK3b (OpV.load_at rfl hB OutW.wi0 Tryz.isAgg9 rfl rfl) ?_
     refine VA.takeY (i := 11) rfl (by kernel_rfl) (by kernel_rfl) (by kernel_rfl) rfl rfl rfl rfl aK3b (OpV.sleq rfl rfl rfl) ?_
     refine VA.take (i := 12) rfl (by kernel_rfl) (by kernel_rfl) (by kernel_rfl) rfl rfl (OpV.pickT rfl rfl rfl rfl aK3b) ?_
     refine VA.take (i := 13) rfl (by kernel_rfl) (by kernel_rfl) (by kernel_rfl) rfl rfl (OpV.move (.inr rfl) rfl) ?_
     refine VA.done (by kernel_rfl) ?_
     refine VC.cond rfl (fun hsb => ?_) (fun hsb => ?_)
     ·have hs := hsb
      try simp only [qq] at hs
      refine VC.sr ?_
      refine VO.ma rfl rfl rfl rfl ?_
      refine VO.nil ?_
      refine VC.ret ?_
      exact Exists.intro _ (And.intro (RetN.one Tryz.results193 (ResN.v rfl)) (by rw [needsF_at (by omega) (by omega) hn (needE_7 hk (by omega) hs) (by decide)]))
     ·have hs := hsb
      try simp only [qq] at hs
      refine VC.sr ?_
      refine VO.val rfl rfl (OpV.fieldAddrO 1 rfl Tryz.underlying90 rfl rfl Tryz.sizeOf3 rfl) ?_
      refine VO.val rfl rfl (OpV.load_own (i := 0) rfl hB Tryz.isAgg3 rfl rfl rfl (fun h => h)) ?_
      refine VO.mv rfl rfl rfl rfl ?_
      refine VO.mv rfl rfl rfl rfl ?_
      refine VO.op rfl (OpE.call rfl hB rfl Tryz.call161 rfl (SpecN.spec (kit_Outside)) ?_)
      rintro _ rfl
      refine VO.ma rfl rfl rfl rfl ?_
      refine VO.nil ?_
      refine VC.cond rfl (fun hob => ?_) (fun hob => ?_)
      ·have ho := hob
       try simp only [qq] at ho
       refine VC.sr ?_
       refine VO.ma rfl rfl rfl rfl ?_
       refine VO.nil ?_
       refine VC.ret ?_
       exact Exists.intro _ (And.intro (RetN.one Tryz.results193 (ResN.v rfl)) (by first | rw [needsF_at (by omega) (by omega) hn (needE_1 hk (.inr hs) ho) (by decide)] | rw [needsF_at (by omega) (by omega) hn (needE_1 hk (.inl (by omega)) ho) (by decide)]))
      ·have ho := hob
       try simp only [qq] at ho
       refine VC.skip ?_
       refine VC.region ?_
       refine VO.val rfl rfl (OpV.add rfl rfl rfl (by unfold fits; omega)) ?_
       refine VO.mv rfl rfl rfl rfl ?_
       refine VO.nil ?_
       exact Exists.intro (⟨q + 1, by omega, lt_succ_cases hn (needE_0 hk (.inr hs) ho)⟩) (And.intro (Le.mk hB [] ⟨rfl, rfl, rfl, rfl, rfl, rfl, trivial⟩ rfl rfl (Nat.le_refl _)) (by first | omega | (show _ < _; omega) | (simp only []; omega)))
    ·have aK3 := aK3b
     try simp only [qq] at aK3
     refine VA.takeX (i := 3) rfl (by kernel_rfl) (by kernel_rfl) (by kernel_rfl) rfl rfl rfl rfl aK3b ?_
     refine VA.takeX (i := 4) rfl (by kernel_rfl) (by kernel_rfl) (by kernel_rfl) rfl rfl rfl rfl aK3b ?_
     refine VA.takeX (i := 5) rfl (by kernel_rfl) (by kernel_rfl) (by kernel_rfl) rfl rfl rfl rfl aK3b ?_
     refine VA.takeX (i := 6) rfl (by kernel_rfl) (by kernel_rfl) (by kernel_rfl) rfl rfl rfl rfl aK3b ?_
     refine VA.takeX (i := 7) rfl (by kernel_rfl) (by kernel_rfl) (by kernel_rfl) rfl rfl rfl rfl aK3b ?_
     refine VA.takeX (i := 8) rfl (by kernel_rfl) (by kernel_rfl) (by kernel_rfl) rfl rfl rfl rfl aK3b ?_
     refine VA.takeX (i := 9) rfl (by kernel_rfl) (by kernel_rfl) (by kernel_rfl) rfl rfl rfl rfl aK3b ?_
     refine VA.takeX (i := 10) rfl (by kernel_rfl) (by kernel_rfl) (by kernel_rfl) rfl rfl rfl rfl aK3b ?_
     refine VA.takeX (i := 11) rfl (by kernel_rfl) (by kernel_rfl) (by kernel_rfl) rfl rfl rfl rfl aK3b ?_
     refine VA.take (i := 12) rfl (by kernel_rfl) (by kernel_rfl) (by kernel_rfl) rfl rfl (OpV.pickF rfl rfl rfl rfl aK3b) ?_
     refine VA.take (i := 13) rfl (by kernel_rfl) (by kernel_rfl) (by kernel_rfl) rfl rfl (OpV.move (.inr rfl) rfl) ?_
     refine VA.done (by kernel_rfl) ?_
     refine VC.condF rfl rfl ?_
     refine VC.sr ?_
     refine VO.val rfl rfl (OpV.fieldAddrO 1 rfl Tryz.underlying90 rfl rfl Tryz.sizeOf3 rfl) ?_
     refine VO.val rfl rfl (OpV.load_own (i := 0) rfl hB Tryz.isAgg3 rfl rfl rfl (fun h => h)) ?_
     refine VO.mv rfl rfl rfl rfl ?_
     refine VO.mv rfl rfl rfl rfl ?_
     refine VO.op rfl (OpE.call rfl hB rfl Tryz.call161 rfl (SpecN.spec (kit_Outside)) ?_)
     rintro _ rfl
     refine VO.ma rfl rfl rfl rfl ?_
     refine VO.nil ?_
     refine VC.cond rfl (fun hob => ?_) (fun hob => ?_)
     ·have ho := hob
      try simp only [qq] at ho
      refine VC.sr ?_
      refine VO.ma rfl rfl rfl rfl ?_
      refine VO.nil ?_
      refine VC.ret ?_
      exact Exists.intro _ (And.intro (RetN.one Tryz.results193 (ResN.v rfl)) (by first | rw [needsF_at (by omega) (by omega) hn (needE_1 hk (.inr hs) ho) (by decide)] | rw [needsF_at (by omega) (by omega) hn (needE_1 hk (.inl (by omega)) ho) (by decide)]))
     ·have ho := hob
      try simp only [qq] at ho
      refine VC.skip ?_
      refine VC.region ?_
      refine VO.val rfl rfl (OpV.add rfl rfl rfl (by unfold fits; omega)) ?_
      refine VO.mv rfl rfl rfl rfl ?_
      refine VO.nil ?_
      exact Exists.intro (⟨q + 1, by omega, lt_succ_cases hn (needE_0 hk (.inl (by omega)) ho)⟩) (And.intro (Le.mk hB [] ⟨rfl, rfl, rfl, rfl, rfl, rfl, trivial⟩ rfl rfl (Nat.le_refl _)) (by first | omega | (show _ < _; omega) | (simp only []; omega)))
  ·have aH2 := aH2b
   try simp only [qq] at aH2
   refine VC.exit ?_
   refine VC.sr ?_
   refine VO.ma rfl rfl rfl rfl ?_
   refine VO.nil ?_
   refine VC.ret ?_
   exact Exists.intro _ (And.intro (RetN.one Tryz.results193 (ResN.v rfl)) (by rw [needsF_ok (by omega) (fun j hj => hn j (by omega))]))
theorem line_CheckNeeds {l : List NeedS} (hl : l.length ≤ 1000000000) (hb : ∀ i, (l.getD i default).key.size ≤ 1000000000) :
  SpecN Tryz.prog 173 [avL l] (fun y => y = avI (needsF l 1 1000)) := by
 refine SpecN.of_VCN Tryz.func173 rfl Tryz.ntmps173 (Nle rfl) fun w A hB => ?_
 refine VC.sr ?_
 refine VO.ma rfl rfl rfl rfl ?_
 refine VO.nil ?_
 refine VC.sr ?_
 refine VO.mv rfl rfl rfl rfl ?_
 refine VO.op rfl (OpE.call rfl hB rfl Tryz.call193 rfl (SpecN.spec (line_NeedsFault hl hb)) ?_)
 rintro _ rfl
 refine VO.ma rfl rfl rfl rfl ?_
 refine VO.nil ?_
 refine VC.ret ?_
 exact Exists.intro _ (And.intro (RetN.one Tryz.results173 (ResN.v rfl)) (rfl))
end
end Go.Proofs.YtcploodfholkkaaGreatDoor
