/- Part 3 of a proof: the walks and laws that it needs. -/
import Derived.WalkKit
import Derived.Laws.Externs
import Derived.Laws.IdiomRangeMap
import Derived.Sort.Walk0
import Derived.Lib.SlicesCompact
import Derived.Test.YtbbgjeiefmiblaaGreatDoorZF2
namespace Go.Proofs.YtbbgjeiefmiblaaGreatDoor
open Go.RowKit Go.Lib
set_option linter.unusedVariables false
set_option linter.unusedSimpArgs false
def bldOk (g : Nat) (p : Value) : Prop := p = .pointer none ∨ p = ptv g
theorem bldOk.none (g : Nat) : bldOk g (.pointer none) := .inl rfl
theorem bldOk.self (g : Nat) : bldOk g (ptv g) := .inr rfl
abbrev bldE (g : Nat) (p u : Value) : Ent := .box g ⟨[.v p, .v u], 103, 2⟩
abbrev bufE (u : Value) (t : ByteArray) : Ent := .row u t.size 1 (bysA t) 5
set_option maxHeartbeats 1000000 in
set_option maxRecDepth 100000 in
theorem copyCheck_used (g : Nat) (w : World) (h0 : w.cell? ⟨g, 0, none⟩ = some (.pointer (some ⟨g, 0, none⟩))) : Calls Tryz.prog 116 #[.pointer (some ⟨g, 0, none⟩)] w fun e w' => e = .returned (.tuple #[]) ∧ w' = w := by
 obtain ⟨j, hj, _⟩ := Option.map_eq_some_iff.1 (show (Tryz.prog.info? 103).map (·.size) = some 2 by kernel_rfl)
 go_enter Tryz.func116, Tryz.ntmps116
 go_wp2
 rw [Lib.run_neq_ptr_same w _ Tryz.underlying100 hj]
 go_wp2
 go_end0
 exact ⟨rfl, rfl⟩
set_option maxHeartbeats 1000000 in
set_option maxRecDepth 100000 in
theorem copyCheck_fresh (g : Nat) (w : World) (h0 : w.cell? ⟨g, 0, none⟩ = some (.pointer none)) (hsh : w.shape? g = some (103, 2)) (hfz : w.frozen? ⟨g, 0, none⟩ = false) :
  Calls Tryz.prog 116 #[.pointer (some ⟨g, 0, none⟩)] w fun e w' => e = .returned (.tuple #[]) ∧ w' = w.setCell ⟨g, 0, none⟩ (.pointer (some ⟨g, 0, none⟩)) := by
 obtain ⟨j, hj, hjs⟩ := Option.map_eq_some_iff.1 (show (Tryz.prog.info? 103).map (·.size) = some 2 by kernel_rfl)
 go_enter Tryz.func116, Tryz.ntmps116
 go_wp2
 rw [Lib.run_to_unsafe w ⟨g, 0, none⟩ Tryz.underlying100 Tryz.underlying216 hj (by rw [hjs]; decide) hsh (Nat.zero_lt_succ 1)]
 simp only [Result.andThen]
 rw [Oper.upon_value]
 go_wp2
 rw [run_callFunc_extern Tryz.func153 (by kernel_rfl) (by kernel_rfl) (by kernel_rfl) (e := Extern.AbiNoEscape.same) (by kernel_rfl)]
 rw [Lib.run_noEscape]
 simp only [Result.andThen]
 rw [Oper.upon_value]
 go_wp2
 rw [Lib.run_from_unsafe w ⟨g, 0, none⟩ Tryz.underlying216 Tryz.underlying100 hj hsh (by show liesAt _ _ _ _ 0 _ 1 = true; decide +kernel)]
 simp only [Result.andThen]
 rw [Oper.upon_value]
 go_wp2
 go_end0
 exact ⟨rfl, rfl⟩
theorem copyCheck_H {g : Nat} {p u : Value} (hp : bldOk g p) : SpecH Tryz.prog 116 [pt g] [bldE g p u] (fun y hp' => y = .tup [] ∧ hp' = [bldE g (ptv g) u]) := fun w A us ha hap hA hE => by
 obtain rfl := args1 ha
 obtain ⟨c, k1, k2, k3, k4⟩ := hE _ (List.mem_cons_self ..)
 obtain ⟨v0, p0, q0⟩ := k4 0 (by simp)
 obtain ⟨v1, p1, q1⟩ := k4 1 (by simp)
 have e0 : v0 = p := (show Rep w _ (.v p) v0 from q0).eq_v
 have e1 : v1 = u := (show Rep w _ (.v u) v1 from q1).eq_v
 subst e0; subst e1
 have hcell : w.cell? ⟨g, 0, none⟩ = some v0 := by simp [World.cell?, k1, p0]
 have hc2 : c.size = 2 := k2
 rcases hp with rfl | rfl
 ·refine (copyCheck_fresh g w hcell (by simp [World.shape?, k1, hc2]) (by simp [World.frozen?, k1])).mono fun e w' ⟨h1, h2⟩ => ?_
  subst h1; subst h2
  have hheap : (w.setCell ⟨g, 0, none⟩ (ptv g)).heap[g]? = some (.cells (c.setIfInBounds 0 (ptv g)) 103 (0, 0)) := by simp [World.setCell, Array.getElem?_modify, k1]
  refine ⟨_, .tuple #[], _, ⟨rfl, rfl⟩, rfl, List.pairwise_singleton _ _, .tup _ _ rfl (fun j hj => by simp at hj), fun e he => ?_, fun b ⟨e, he, hb⟩ _ => ?_, (Chg.setAt w g 0 _).mono fun b _ hb => ⟨_, List.mem_cons_self .., by have : b = g := hb; rw [this]; rfl⟩⟩
  ·obtain rfl := List.mem_singleton.1 he
   refine ⟨_, hheap, by simp [hc2], by simp, fun j hj => ?_⟩
   match j, hj with
   | 0, _ => exact ⟨ptv g, by simp [hc2], .v _⟩
   | 1, _ => exact ⟨v1, by rw [Array.getElem?_setIfInBounds_ne (by decide)]; exact p1, .v _⟩
  ·obtain rfl := List.mem_singleton.1 he
   exact ⟨_, List.mem_cons_self .., hb⟩
 ·refine (copyCheck_used g w hcell).mono fun e w' ⟨h1, h2⟩ => ?_
  subst h1; subst h2
  refine ⟨_, .tuple #[], _, ⟨rfl, rfl⟩, rfl, List.pairwise_singleton _ _, .tup _ _ rfl (fun j hj => by simp at hj), fun e he => ?_, fun b ⟨e, he, hb⟩ _ => ?_, Chg.refl _ _⟩
  ·obtain rfl := List.mem_singleton.1 he
   refine ⟨_, k1, k2, k3, fun j hj => ?_⟩
   match j, hj with
   | 0, _ => exact ⟨_, p0, .v _⟩
   | 1, _ => exact ⟨_, p1, .v _⟩
  ·obtain rfl := List.mem_singleton.1 he
   exact ⟨_, List.mem_cons_self .., hb⟩
set_option maxRecDepth 100000 in
theorem Builder_WriteString_H {g : Nat} {p u : Value} {t s : ByteArray} (hp : bldOk g p) (hlen : t.size + s.size ≤ 1000000000) :
  SpecH Tryz.prog 65 [pt g, avS s] [bldE g p u, bufE u t] (fun y hp' => ∃ u', y = .tup [avI s.size, .v .nilIface] ∧ hp' = [bldE g (ptv g) u', bufE u' (t ++ s)]) := by
 refine SpecH.of_VC Tryz.func65 rfl Tryz.ntmps65 (Nle rfl) fun w A hB => ?_
 have hnew : True := trivial
 refine VC.sr ?_
 refine VO.ma rfl rfl rfl rfl ?_
 refine VO.ma rfl rfl rfl rfl ?_
 refine VO.nil ?_
 refine VC.sr ?_
 refine VO.mv rfl rfl rfl rfl ?_
 refine VO.op rfl (OpE.callH (rest := [_]) rfl hB rfl Tryz.call116 rfl rfl (copyCheck_H hp) (List.Perm.refl _) (fun _ _ => trivial) ?_)
 rintro _ _ ⟨rfl, rfl⟩
 refine VO.nil ?_
 refine VC.sr ?_
 refine VO.mv rfl rfl rfl rfl ?_
 refine VO.mv rfl rfl rfl rfl ?_
 refine VO.val rfl rfl (OpV.nilCheck rfl rfl) ?_
 refine VO.val rfl rfl (OpV.fieldAddrO 1 rfl Tryz.underlying103 rfl rfl Tryz.sizeOf101 rfl) ?_
 refine VO.val rfl rfl (OpV.load_own (i := 0) rfl hB Tryz.isAgg101 rfl rfl rfl (fun h => h)) ?_
 refine VO.mv rfl rfl rfl rfl ?_
 refine VO.op rfl (OpE.appendStr (i := 1) rfl hB rfl Tryz.underlying101 Tryz.underlying9 (infoOf Tryz.t5 1 (by kernel_rfl) rfl rfl) rfl rfl rfl (by omega) (fun _ _ => trivial) ?_)
 intro u14
 refine VO.rowIs (i := 1) rfl (fun b14 c14 hu14 => ?_)
 subst hu14
 refine VO.val rfl rfl (OpV.nilCheck rfl rfl) ?_
 refine VO.val rfl rfl (OpV.fieldAddrO 1 rfl Tryz.underlying103 rfl rfl Tryz.sizeOf101 rfl) ?_
 refine VO.op rfl (OpE.store (i := 0) rfl hB rfl Tryz.sizeOf101 rfl rfl rfl rfl rfl rfl (Nle rfl) trivial ?_)
 refine VO.nil ?_
 refine VC.sr ?_
 refine VO.mv rfl rfl rfl rfl ?_
 refine VO.val rfl rfl (OpV.len_s rfl Tryz.underlying9 rfl) ?_
 refine VO.ma rfl rfl rfl rfl ?_
 refine VO.ma rfl rfl rfl rfl ?_
 refine VO.nil ?_
 refine VC.ret ?_
 exact Exists.intro _ (And.intro (RetV.two Tryz.results65 (ResV.tmp rfl) (ResV.tmp rfl)) (⟨_, rfl, rfl⟩))
set_option maxRecDepth 100000 in
theorem Builder_Len_H {g : Nat} {p u : Value} {t : ByteArray}  :
  SpecH Tryz.prog 98 [pt g] [bldE g p u, bufE u t] (fun y hp' => y = avI t.size ∧ hp' = [bldE g p u, bufE u t]) := by
 refine SpecH.of_VC Tryz.func98 rfl Tryz.ntmps98 (Nle rfl) fun w A hB => ?_
 have hnew : True := trivial
 refine VC.sr ?_
 refine VO.ma rfl rfl rfl rfl ?_
 refine VO.nil ?_
 refine VC.sr ?_
 refine VO.mv rfl rfl rfl rfl ?_
 refine VO.val rfl rfl (OpV.nilCheck rfl rfl) ?_
 refine VO.val rfl rfl (OpV.fieldAddrO 1 rfl Tryz.underlying103 rfl rfl Tryz.sizeOf101 rfl) ?_
 refine VO.val rfl rfl (OpV.load_own (i := 0) rfl hB Tryz.isAgg101 rfl rfl rfl (fun h => h)) ?_
 refine VO.val rfl rfl (OpV.len_row (i := 1) rfl Tryz.underlying101 rfl rfl) ?_
 refine VO.ma rfl rfl rfl rfl ?_
 refine VO.nil ?_
 refine VC.ret ?_
 exact Exists.intro _ (And.intro (RetV.one Tryz.results98 (ResV.tmp rfl)) (⟨rfl, rfl⟩))
theorem ownsRow_ofB {w : World} {Z : Nat → Prop} {u : Value} {t : ByteArray} {e : TypeId} {B0 : Nat} (h : EntR w Z (.row u t.size 1 (bysA t) e)) (hb : ∀ g, u.ownBlock = some g → B0 ≤ g) : w.ownsRow B0 e 1 u t.size (strCells t) := by
 obtain ⟨h0, h1⟩ := ownsRow_of h
 refine ⟨h0, ?_⟩
 rcases h1 with h1 | ⟨g, cap, cur, rfl, h2, h3⟩
 ·exact .inl h1
 ·exact .inr ⟨g, cap, cur, rfl, hb g rfl, h3⟩
section
variable {B : Bs} {s : St'} {o : Oper} {K : St' → Prop}
theorem OpE.bstr {x : Operand} {ts : Array TypeId} {g i j : Nat} {p u : Value} {d : ByteArray} (ho : o.op = .call { callee := .value (.func 68), args := #[x], argTypes := ts }) (hB : B.Ok) (hd : okd B.nt o.dst = true) (hS : ∀ b, ¬ B.S b)
  (hcall : ∀ us w, (callFunc 68 us).run Tryz.prog w = .ok (.enter 68 us) w) (hx : evO s x = some (pt g)) (hi : s.hp[i]? = some (bldE g p u)) (hp : bldOk g p) (hj : s.hp[j]? = some (bufE u d)) (hne : i ≠ j)
  (hK : K ((St'.mk [] [] s.k).put o.dst (avS d))) : OpE Tryz.prog B AllW s o K := by
 intro a w hr next Qx hn
 have hmi := List.mem_of_getElem? hi
 have hmj := List.mem_of_getElem? hj
 have hnew : ∀ q ∈ s.hp, ∀ b, q.blk = some b → B.w0.heap.size ≤ b := fun q hq b hb => by
  have := hr.isNew (fun b h => hS b h) hq hb
  omega
 have hE := hr.blocks _ hmj
 have hown := ownsRow_ofB hE (B0 := B.w0.heap.size) (fun b hb => hnew _ hmj b hb)
 obtain ⟨c, k1, k2, k3, k4⟩ := hr.blocks _ hmi
 obtain ⟨v0, p0, q0⟩ := k4 0 (by simp)
 obtain ⟨v1, p1, q1⟩ := k4 1 (by simp)
 have e0 : v0 = p := (show Rep w _ (.v p) v0 from q0).eq_v
 have e1 : v1 = u := (show Rep w _ (.v u) v1 from q1).eq_v
 subst e0; subst e1
 have hc2 : c.size = 2 := k2
 have hcc : c = #[v0, v1] := by
  apply Array.ext (by simpa using hc2)
  intro n h1 h2
  have h2' : n < 2 := by simpa using h2
  match n, h2' with
  | 0, _ => have := Array.getElem?_eq_some_iff.1 p0; simp; rw [this.2]
  | 1, _ => have := Array.getElem?_eq_some_iff.1 p1; simp; rw [this.2]
 subst hcc
 have hapart : v1.ownBlock ≠ some g := by
  intro e
  have hh := hr.nodup
  unfold Apart at hh
  have hil := (List.getElem?_eq_some_iff.1 hi).1
  have hjl := (List.getElem?_eq_some_iff.1 hj).1
  rw [List.pairwise_iff_getElem] at hh
  have ei := (List.getElem?_eq_some_iff.1 hi).2
  have ej := (List.getElem?_eq_some_iff.1 hj).2
  rcases Nat.lt_or_gt_of_ne hne with h | h
  ·have := hh i j hil hjl h g (by rw [ei]; rfl)
   rw [ej] at this; exact this e
  ·have := hh j i hjl hil h g (by rw [ej]; exact e)
   rw [ei] at this; exact this rfl
 have hbs : Lib.IsBuilder 103 5 B.w0.heap.size g (Lib.byteCells d.data.toList) w := by
  have hb0 := hnew _ hmi g rfl
  have hrow : w.ownsRow B.w0.heap.size 5 1 v1 (Lib.byteCells d.data.toList).length (Lib.byteCells d.data.toList) := by
   have e2 : (Lib.byteCells d.data.toList) = strCells d := rfl
   rw [e2, strCells_length]; exact hown
  rcases hp with rfl | rfl
  ·exact .inl ⟨hb0, v1, k1, hrow, hapart⟩
  ·exact .inr ⟨hb0, v1, k1, hrow, hapart⟩
 have h1 := Tryz.Builder_String_any B.w0.heap.size g d.data.toList w hbs hr.chg.size
 unfold Oper.wp
 have hxv := hr.evv hx
 simp only [execOp, ho, resolve, Act.eval, Deferred.ofValue, Sem.run_bind, Sem.run_pure, Result.andThen_ok, invoke, hcall, Array.empty_append, Array.append_empty]
 simp only [Oper.upon]
 have hargs : (#[x].map a.eval) = #[ptv g] := by simp [hxv]
 rw [hargs]
 refine h1.mono fun e w' ⟨h2, h3⟩ => ?_
 subst h2
 have hchg : Chg (fun b => B.w0.heap.size ≤ b) w w' := ⟨h3.os, h3.tape, h3.output, h3.size, fun k hk hn => h3.block k (Nat.lt_of_not_le hn)⟩
 have hr' : R B ⟨[], [], s.k⟩ a w' := by
  refine ⟨fun t y hy => (by cases hy), hr.size, hr.defs, fun q hq => (by cases hq), List.Pairwise.nil, ?_, fun q hq => (by cases hq), hB.keep hr.res hchg fun b hb h => ?_⟩
  ·obtain ⟨c1, c2, c3, c4, c5⟩ := hr.chg
   exact ⟨h3.os.trans c1, h3.tape.trans c2, h3.output.trans c3, Nat.le_trans c4 h3.size, fun k hk hn => (h3.block k hk).trans (c5 k hk hn)⟩
  ·have := hB.low b hb; omega
 exact hn _ _ _ hK (hr'.put _ hd _ _ (.v _)) ⟨h3.os, h3.tape, h3.output, h3.size, fun k hk hn => (hn (.inr trivial)).elim⟩
end
end Go.Proofs.YtbbgjeiefmiblaaGreatDoor
namespace Go.Proofs.YtbbgjeiefmiblaaGreatDoor
open Go.RowKit
set_option linter.unusedVariables false
set_option linter.unusedSimpArgs false
section
variable {P : Program} {ops : Array Oper} {Q : Act → World → Prop} {md : Region.Mode} {E : Nat → World → World → Prop}
theorem wpAnyE_firstT {S : Nat → Bool} {F : World → World → Prop} (htr : ∀ x y z, F x y → F y z → F x z) (hrf : ∀ x, F x x) {i : Nat} (hEr : ∀ x, E i x x)
  (hEF : ∀ j oj, ops[j]? = some oj → S j = false → ∀ w w', E j w w' → F w w') (hcl : ∀ k, S k = true → k ≠ i → ∃ ok, ops[k]? = some ok ∧ ∃ e ∈ ok.after, Region.binds md e = true ∧ S e.on = true)
  {oi : Oper} {v : Value} (hi : ops[i]? = some oi) (hsel : ∀ (j : Nat) (o : Oper) cs b, ops[j]? = some o → o.op ≠ .select cs b) :
  ∀ (fuel : Nat) (listed : Array Bool) (a : Act) (w : World), (∀ k, S k = true → listed.getD k true = false) →
   (∀ j oj, ops[j]? = some oj → j ≠ i → listed.getD j true = false → (∀ e ∈ oj.after, Region.binds md e = true → e.on ≠ i) → oi.apart ops oj = true) →
   i ∈ Region.ready md ops listed → YieldsE P ops F oi v a w →
   wpAnyE P md ops Q E fuel (listed.setIfInBounds i true) (a.put oi.dst v) w → wpAnyE P md ops Q E (fuel + 1) listed a w := by
 intro fuel
 induction fuel with
 | zero =>
  intro listed a w _ _ hr hy H
  refine ⟨fun h => (by rw [h] at hr; cases hr), fun j hj => ?_⟩
  by_cases hji : j = i
  ·subst hji; exact YieldsIf.wpOp hi hy.iff (hrf w) ⟨hEr w, H⟩
  ·have := ready_mono hj hji
   rw [H.1] at this
   cases this
 | succ fuel ih =>
  intro listed a w hS hfree hr hy H
  refine ⟨fun h => (by rw [h] at hr; cases hr), fun j hj => ?_⟩
  by_cases hji : j = i
  ·subst hji; exact YieldsIf.wpOp hi hy.iff (hrf w) ⟨hEr w, H⟩
  ·have h1 := H.2 j (ready_mono hj hji)
   obtain ⟨hjun, oj, hoj, hall⟩ := mem_ready.1 hj
   have hnot : ∀ e ∈ oj.after, Region.binds md e = true → e.on ≠ i := fun e he hb heq => by
    have h1 := hall e he hb
    have h0 := (mem_ready.1 hr).1
    rw [heq] at h1
    rcases Nat.lt_or_ge i listed.size with h' | h'
    ·simp [h'] at h0 h1; rw [h0] at h1; cases h1
    ·simp [Array.getElem?_eq_none h'] at h1
   have hjS : S j = false := by
    cases hc : S j with
    | false => rfl
    | true =>
     obtain ⟨ok, k1, e, he, hb, k2⟩ := hcl j hc hji
     obtain rfl : oj = ok := Option.some.inj (hoj.symm.trans k1)
     have h1 := hall e he hb
     have h0 := hS e.on k2
     rcases Nat.lt_or_ge e.on listed.size with h' | h'
     ·simp [h'] at h0 h1; rw [h0] at h1; cases h1
     ·simp [Array.getElem?_eq_none h'] at h1
   have h2 := wpOp_putIf (S := F w) hoj (hfree j oj hoj hji hjun hnot) (fun cs b => hsel i oi cs b hi) (fun cs b => hsel j oj cs b hoj) (fun c a w h => h.elim) hy.iff h1
   have hfree' : ∀ k ok, ops[k]? = some ok → k ≠ i → (listed.setIfInBounds j true).getD k true = false →
     (∀ e ∈ ok.after, Region.binds md e = true → e.on ≠ i) → oi.apart ops ok = true := fun k ok hk hki hun hno => by
    refine hfree k ok hk hki ?_ hno
    by_cases hjk : j = k
    ·subst hjk; exact hjun
    ·rw [Go.getD_set_ne true hjk] at hun; exact hun
   have hS' : ∀ k, S k = true → (listed.setIfInBounds j true).getD k true = false := fun k hk => by
    have hjk : j ≠ k := fun e => by rw [e, hk] at hjS; cases hjS
    rw [Go.getD_set_ne true hjk]; exact hS k hk
   refine wpOp_mono (fun a' w' h3 => ⟨h3.2.1, ih (listed.setIfInBounds j true) a' w' hS' hfree' (ready_mono hr (Ne.symm hji)) ?_ ?_⟩) h2
   ·rcases h3.1 with ⟨k1, k2⟩ | k
    ·exact .inl ⟨k1, fun w'' hw'' => k2 w'' (htr _ _ _ (hEF j oj hoj hjS _ _ h3.2.1) hw'')⟩
    ·exact .inr k
   rw [Array.setIfInBounds_comm _ _ hji]
   exact h3.2.2
end
section
variable {P : Program} {B : Bs} {V : Nat → Nat → Prop} {ops : Array Oper} {s : St'} {Q : Exit → St' → Prop} {n : Nat} {L : Array Bool}
def WS (V : Nat → Nat → Prop) (S : List Nat) : Nat → Prop := fun b => ∃ j, S.contains j = false ∧ V j b
def hangB (ops : Array Oper) (S : List Nat) (i : Nat) : Bool := S.all fun k => k == i || match ops[k]? with
 | some o => o.after.any fun e => Region.binds .any e && S.contains e.on
 | none => false
theorem VA.takeT (S : List Nat) {i : Nat} {o : Oper} {x : AV} (hS : hangB ops S i = true) (hL : (S.all fun k => !(L.getD k true)) = true) (hi : ops[i]? = some o) (hs : Region.noSelect ops = true) (hf : Region.free .any ops L i = true) (hr : (Region.ready .any ops L).contains i = true) (hg : o.guard = none) (hd : okd B.nt o.dst = true)
  (hv : OpV P B (WS V S) s o x) (h : VA P B V ops Q n (L.setIfInBounds i true) (s.put o.dst x)) : VA P B V ops Q (n + 1) L s := fun a w hR => by
 obtain ⟨v, h1, h2⟩ := hv a w hR
 refine wpAnyE_firstT (S := fun k => S.contains k) (F := Ew B (WS V S)) Ew.tr Ew.rf (fun x => Ew.rf x) (fun j oj hj hjS w w' h => h.mono fun b _ hb => hb.imp id fun hv => ⟨j, hjS, hv⟩) (fun k hk hki => ?_) hi (Region.noSelect_spec hs) n L a w (fun k hk => ?_) (Region.free_spec hi hf) (by simpa using hr) (.inl ⟨by simp [Region.wanted, hg], h1⟩) (h _ _ (hR.put _ hd _ _ h2))
 ·have hk' : k ∈ S := by simpa using hk
  have := List.all_eq_true.1 hS k hk'
  simp only [Bool.or_eq_true, beq_iff_eq] at this
  have := this.resolve_left hki
  cases ho : ops[k]? with
  | none => rw [ho] at this; cases this
  | some ok =>
   rw [ho] at this
   obtain ⟨e, he, h3⟩ := Array.any_eq_true'.1 this
   simp only [Bool.and_eq_true] at h3
   exact ⟨ok, rfl, e, he, h3.1, h3.2⟩
 ·have hk' : k ∈ S := by simpa using hk
  have := List.all_eq_true.1 hL k hk'
  simpa using this
end
end Go.Proofs.YtbbgjeiefmiblaaGreatDoor
namespace Go.Proofs.YtbbgjeiefmiblaaGreatDoor
set_option linter.unusedVariables false
set_option linter.unusedSimpArgs false
section
variable {α : Type} (lt : α → α → Bool) (d : α)
def OrdL (l : List α) : Prop := l.Pairwise fun a b => lt b a = false
def InvO (l0 : List α) (i : Nat) (l : List α) : Prop := ∃ P R, l = P ++ R ∧ P.length = min i l.length ∧ l.Perm l0 ∧ OrdL lt P
def InvI (l0 : List α) (i j : Nat) (l : List α) : Prop := ∃ P x S R, l = P ++ x :: (S ++ R) ∧ P.length = j ∧ P.length + S.length = i ∧ l.Perm l0 ∧ OrdL lt (P ++ S) ∧ ∀ s ∈ S, lt x s = true
variable {lt d} {l0 l : List α} {i j : Nat}
theorem InvO.len (h : InvO lt l0 i l) : l.length = l0.length := h.choose_spec.choose_spec.2.2.1.length_eq
theorem InvI.len (h : InvI lt l0 i j l) : l.length = l0.length ∧ i < l.length ∧ j ≤ i := by
 obtain ⟨P, x, S, R, h1, h2, h3, h4, _⟩ := h
 refine ⟨h4.length_eq, ?_, by omega⟩
 rw [h1]; simp; omega
theorem InvO.one (l0 : List α) : InvO lt l0 1 l0 := by
 cases l0 with
 | nil => exact ⟨[], [], rfl, by simp, .refl _, .nil⟩
 | cons x r => exact ⟨[x], r, rfl, by simp, .refl _, List.pairwise_singleton _ _⟩
theorem InvO.start (h : InvO lt l0 i l) (hi : i < l.length) : InvI lt l0 i i l := by
 obtain ⟨P, R, h1, h2, h3, h4⟩ := h
 rw [Nat.min_eq_left (by omega)] at h2
 cases R with
 | nil => rw [h1] at hi; simp at hi; omega
 | cons x R => exact ⟨P, x, [], R, h1, h2, by simpa using h2, h3, by simpa using h4, by simp⟩
theorem snocOf {P : List α} (h : 0 < P.length) : ∃ Q y, P = Q ++ [y] := ⟨P.dropLast, P.getLast (by intro e; rw [e] at h; simp at h), (List.dropLast_concat_getLast _).symm⟩
theorem swap_eq {Q T : List α} {x y : α} : ((Q ++ y :: x :: T).set (Q.length + 1) y).set Q.length x = Q ++ x :: y :: T := by
 rw [List.set_append_right _ _ (by omega), show Q.length + 1 - Q.length = 1 by omega, List.set_append_right _ _ (by omega), Nat.sub_self]
 rfl
theorem at0 {Q T : List α} {y : α} : (Q ++ y :: T).getD Q.length d = y := by simp [List.getD_eq_getElem?_getD]
theorem at1 {Q T : List α} {x y : α} : (Q ++ y :: x :: T).getD (Q.length + 1) d = x := by
 simp [List.getD_eq_getElem?_getD, List.getElem?_append_right]
theorem InvI.next (ht : ∀ {a b c : α}, lt a b = true → lt b c = true → lt a c = true) (h : InvI lt l0 i j l) (hj : 0 < j) (hlt : lt (l.getD j d) (l.getD (j - 1) d) = true) :
  InvI lt l0 i (j - 1) ((l.set j (l.getD (j - 1) d)).set (j - 1) (l.getD j d)) := by
 obtain ⟨P, x, S, R, h1, h2, h3, h4, h5, h6⟩ := h
 obtain ⟨Q, y, rfl⟩ := snocOf (P := P) (by omega)
 have hl : l = Q ++ y :: x :: (S ++ R) := by rw [h1]; simp
 have hj' : j = Q.length + 1 := by rw [← h2]; simp
 subst hj'
 rw [hl] at hlt ⊢
 rw [at1, show Q.length + 1 - 1 = Q.length by omega, at0] at hlt
 rw [at1, show Q.length + 1 - 1 = Q.length by omega, at0, swap_eq]
 refine ⟨Q, x, y :: S, R, by simp, rfl, by simp at h3 ⊢; omega, ?_, by simpa using h5, ?_⟩
 ·rw [hl] at h4
  exact ((List.Perm.swap y x (S ++ R)).append_left Q).trans h4
 ·intro s hs
  rcases List.mem_cons.1 hs with rfl | hs
  ·exact hlt
  ·exact h6 s hs
theorem InvI.done (ha : ∀ {a b : α}, lt a b = true → lt b a = false) (hn : ∀ {a b c : α}, lt b a = false → lt c b = false → lt c a = false) (h : InvI lt l0 i j l) (hx : j = 0 ∨ lt (l.getD j d) (l.getD (j - 1) d) = false) : InvO lt l0 (i + 1) l := by
 obtain ⟨P, x, S, R, h1, h2, h3, h4, h5, h6⟩ := h
 refine ⟨P ++ x :: S, R, by rw [h1]; simp, by rw [h1]; simp; omega, h4, ?_⟩
 unfold OrdL at h5 ⊢
 obtain ⟨k1, k2, k3⟩ := List.pairwise_append.1 h5
 refine List.pairwise_append.2 ⟨k1, List.pairwise_cons.2 ⟨fun s hs => ha (h6 s hs), k2⟩, fun a hA b hb => ?_⟩
 rcases List.mem_cons.1 hb with rfl | hb
 ·rcases hx with hx | hx
  ·subst hx; rw [List.eq_nil_of_length_eq_zero h2] at hA; cases hA
  ·obtain ⟨Q, y, rfl⟩ := snocOf (P := P) (List.length_pos_of_mem hA)
   have hl : l = Q ++ y :: b :: (S ++ R) := by rw [h1]; simp
   have hj' : j = Q.length + 1 := by rw [← h2]; simp
   subst hj'
   rw [hl, at1, show Q.length + 1 - 1 = Q.length by omega, at0] at hx
   rcases List.mem_append.1 hA with hA | hA
   ·have := (List.pairwise_append.1 k1).2.2 a hA y (by simp)
    exact hn this hx
   ·simp at hA; subst hA; exact hx
 ·exact k3 a hA b hb
theorem InvO.all (h : InvO lt l0 i l) (hi : l.length ≤ i) : l.Perm l0 ∧ OrdL lt l := by
 obtain ⟨P, R, h1, h2, h3, h4⟩ := h
 rw [Nat.min_eq_right hi] at h2
 have : R = [] := by rw [h1] at h2; simpa using h2
 subst this
 rw [List.append_nil] at h1
 subst h1
 exact ⟨h3, h4⟩
end
end Go.Proofs.YtbbgjeiefmiblaaGreatDoor
namespace Go.Proofs.YtbbgjeiefmiblaaGreatDoor
open Go.RowKit
set_option linter.unusedVariables false
set_option linter.unusedSimpArgs false
abbrev ShS := Nat × Nat
end Go.Proofs.YtbbgjeiefmiblaaGreatDoor
namespace Go.Proofs.YtbbgjeiefmiblaaGreatDoor
open Go.RowKit
set_option linter.unusedVariables false
set_option linter.unusedSimpArgs false

theorem Le.erase {B : Bs} {s : St'} (i : Nat) : Le B s ⟨s.sl, s.hp.eraseIdx i, s.k⟩ := fun a w hr => hr.erase i
end Go.Proofs.YtbbgjeiefmiblaaGreatDoor
namespace Go.Proofs.YtbbgjeiefmiblaaGreatDoor
open Go.RowKit
set_option linter.unusedVariables false
set_option linter.unusedSimpArgs false
structure Ord (n : Nat) (o : List Int) : Prop where
 nd : o.Nodup
 lt : ∀ x ∈ o, 0 ≤ x ∧ x < n
theorem Ord.nil (n : Nat) : Ord n [] := ⟨List.nodup_nil, fun x h => by simp at h⟩
theorem Ord.snoc {n : Nat} {o : List Int} (h : Ord n o) {q : Nat} (hq : q < n) (hn : (q : Int) ∉ o) : Ord n (o ++ [(q : Int)]) := by
 refine ⟨?_, fun x hx => ?_⟩
 ·rw [List.nodup_append]
  exact ⟨h.nd, by simp, fun a ha b hb => by simp at hb; subst hb; exact fun e => hn (e ▸ ha)⟩
 ·rcases List.mem_append.1 hx with hx | hx
  ·exact h.lt x hx
  ·simp at hx; subst hx; omega
section
variable {τ : Type} (n : Nat) (step : τ → List Int → τ)
def ext : Nat → List Int → τ → τ
 | 0, o, s => step s o
 | d + 1, o, s => (List.range n).foldl (fun (s : τ) (i : Nat) => if (i : Int) ∈ o then s else ext d (o ++ [(i : Int)]) s) s
variable {n step}
end
def idO (n : Nat) : List Int := (List.range n).map fun (i : Nat) => (i : Int)
theorem idO_len (n : Nat) : (idO n).length = n := by simp [idO]
theorem perm_of_sub : ∀ {l m : List Int}, l.Nodup → (∀ x ∈ l, x ∈ m) → m.length = l.length → l.Perm m
 | [], m, _, _, hl => by rw [List.eq_nil_of_length_eq_zero hl]
 | x :: r, m, h, hs, hl => by
  have hx := hs x (by simp)
  have hp := List.perm_cons_erase hx
  have := perm_of_sub (l := r) (m := m.erase x) (List.nodup_cons.1 h).2 (fun y hy => (List.mem_erase_of_ne (fun e => by subst e; exact (List.nodup_cons.1 h).1 hy)).2 (hs y (by simp [hy]))) (by rw [List.length_erase_of_mem hx, hl]; simp)
  exact (this.cons x).trans hp.symm
theorem Ord.perm {n : Nat} {l : List Int} (h : Ord n l) (hl : l.length = n) : l.Perm (idO n) := perm_of_sub h.nd (fun x hx => by
 have := h.lt x hx
 exact List.mem_map.2 ⟨x.toNat, List.mem_range.2 (by omega), by omega⟩) (by rw [idO_len, hl])
end Go.Proofs.YtbbgjeiefmiblaaGreatDoor
namespace Go.Proofs.YtbbgjeiefmiblaaGreatDoor
open Go.RowKit
set_option linter.unusedVariables false
set_option linter.unusedSimpArgs false
structure LookR (l : List LookS) (i : Nat) : Prop where
 keys : (lkStrs (l.getD i default)).all keyF = true
 at_ : 0 ≤ (l.getD i default).at_ ∧ (l.getD i default).at_ ≤ 345686399999
 verdict : 1 ≤ (l.getD i default).verdict ∧ (l.getD i default).verdict ≤ 5
 ord : 0 < i → cmpLk (l.getD (i - 1) default) (l.getD i default) < 0
theorem outR_inL {n a b : Int} (h : ¬ outR n a b = true) : a ≤ n ∧ n ≤ b := by unfold outR at h; simp at h; omega
theorem lookE_zero {l : List LookS} {i : Nat} (h : lookE l i = 0) : LookR l i := by
 unfold lookE at h
 split at h
 ·cases h
 ·rename_i h1
  split at h
  ·cases h
  ·rename_i h2
   split at h
   ·cases h
   ·rename_i h3
    split at h
    ·cases h
    ·rename_i h4
     refine ⟨by simpa using h1, ?_, ?_, fun hi => ?_⟩
     ·exact outR_inL h2
     ·exact outR_inL h3
     ·simp at h4; exact h4 hi
section
variable {l : List LookS} {s : Int} {n q : Nat}
end
end Go.Proofs.YtbbgjeiefmiblaaGreatDoor
namespace Go.Proofs.YtbbgjeiefmiblaaGreatDoor
set_option linter.unusedVariables false
set_option linter.unusedSimpArgs false
def lowK {α : Type} (key : α → ByteArray) (l : List α) (k : ByteArray) : Nat := (l.takeWhile fun x => sLt (key x) k).length
theorem lowK_le {α : Type} {key : α → ByteArray} {l : List α} {k : ByteArray} : lowK key l k ≤ l.length := by
 unfold lowK
 exact (List.takeWhile_sublist _).length_le
section
variable {α : Type} [Inhabited α] (key : α → ByteArray) (l : List α) (k : ByteArray)
def RiseK : Prop := ∀ j, 0 < j → j < l.length → sLe (key (l.getD j default)) (key (l.getD (j - 1) default)) = false
variable {key l k}
theorem takeWhile_at {p : α → Bool} : ∀ (l : List α) (j : Nat), j < (l.takeWhile p).length → p (l.getD j default) = true
 | [], j, h => by simp at h
 | x :: l, j, h => by
  rw [List.takeWhile_cons] at h
  split at h
  ·rename_i hx
   cases j with
   | zero => simpa using hx
   | succ j => simpa using takeWhile_at l j (by simpa using h)
  ·simp at h
theorem takeWhile_end {p : α → Bool} : ∀ (l : List α), (l.takeWhile p).length < l.length → p (l.getD (l.takeWhile p).length default) = false
 | [], h => by simp at h
 | x :: l, h => by
  rw [List.takeWhile_cons] at h ⊢
  split
  ·rename_i hx
   rw [if_pos hx] at h
   simpa using takeWhile_end l (by simpa using h)
  ·rename_i hx
   simpa using hx
theorem lowK_lt {j : Nat} (h : j < lowK key l k) : sLt (key (l.getD j default)) k = true := takeWhile_at (p := fun x => sLt (key x) k) l j h
theorem rise_step {a b : ByteArray} (h : sLe b a = false) : sLt a b = true := by
 unfold sLe at h
 rw [Bool.or_eq_false_iff] at h
 exact sLt_total h.1 fun e => by rw [e, sEq_eq.2 rfl] at h; cases h.2
theorem rise_lt (hr : RiseK key l) : ∀ (i j : Nat), i < j → j < l.length → sLt (key (l.getD i default)) (key (l.getD j default)) = true
 | i, 0, h, _ => by omega
 | i, j + 1, h, hl => by
  have h1 := rise_step (hr (j + 1) (by omega) hl)
  rw [Nat.add_sub_cancel] at h1
  by_cases e : i = j
  ·subst e; exact h1
  ·exact sLt_trans (rise_lt hr i j (by omega) (by omega)) h1
theorem lowK_ge (hr : RiseK key l) {j : Nat} (h : lowK key l k ≤ j) (hj : j < l.length) : sLt (key (l.getD j default)) k = false := by
 have h0 : sLt (key (l.getD (lowK key l k) default)) k = false := takeWhile_end (p := fun x => sLt (key x) k) l (Nat.lt_of_le_of_lt h hj)
 by_cases e : j = lowK key l k
 ·rw [e]; exact h0
 ·have h1 := rise_lt hr (lowK key l k) j (by omega) hj
  cases h2 : sLt (key (l.getD j default)) k with
  | false => rfl
  | true => rw [sLt_trans h1 h2] at h0; cases h0
theorem lowK_any (hr : RiseK key l) : (decide (lowK key l k < l.length) && sEq (key (l.getD (lowK key l k) default)) k) = l.any fun x => sEq (key x) k := by
 cases hb : l.any (fun x => sEq (key x) k) with
 | true =>
  obtain ⟨x, hx, he⟩ := List.any_eq_true.1 hb
  obtain ⟨j, hj, rfl⟩ := List.getElem_of_mem hx
  have hd : l.getD j default = l[j] := by rw [List.getD_eq_getElem?_getD, List.getElem?_eq_getElem hj]; rfl
  have he' : key (l.getD j default) = k := by rw [hd]; exact sEq_eq.1 he
  have h1 : lowK key l k ≤ j := by
   rcases Nat.lt_or_ge j (lowK key l k) with h | h
   ·have := lowK_lt h; rw [he', sLt_irr] at this; cases this
   ·exact h
  have h2 : lowK key l k = j := by
   by_cases e : lowK key l k = j
   ·exact e
   ·have := rise_lt hr (lowK key l k) j (by omega) hj
    rw [he'] at this
    have := lowK_ge hr (k := k) (Nat.le_refl _) (by omega)
    simp_all
  rw [h2, he', decide_eq_true hj, sEq_eq.2 rfl]; rfl
 | false =>
  cases hc : (decide (lowK key l k < l.length) && sEq (key (l.getD (lowK key l k) default)) k) with
  | false => rfl
  | true =>
   rw [Bool.and_eq_true, decide_eq_true_eq] at hc
   rw [List.any_eq_false] at hb
   have := hb _ (List.getElem_mem hc.1)
   have hc1 := hc.1
   have hd : l.getD (lowK key l k) default = l[lowK key l k]'hc1 := by rw [List.getD_eq_getElem?_getD, List.getElem?_eq_getElem hc1]; rfl
   have hc2 := hc.2
   rw [hd] at hc2
   exact absurd hc2 this
theorem find_first {p : α → Bool} : ∀ (l : List α) (j : Nat), j < l.length → p (l.getD j default) = true → (∀ i, i < j → p (l.getD i default) = false) → (l.find? p).getD default = l.getD j default
 | [], j, h, _, _ => by simp at h
 | x :: l, 0, _, h, _ => by simp at h; simp [h]
 | x :: l, j + 1, hj, h, hn => by
  have h0 := hn 0 (by omega)
  simp at h0
  simp only [List.find?_cons, h0]
  rw [find_first l j (by simpa using hj) (by simpa using h) (fun i hi => by simpa using hn (i + 1) (by omega))]
  simp
theorem lowK_find (hr : RiseK key l) (h1 : lowK key l k < l.length) (h2 : sEq (key (l.getD (lowK key l k) default)) k = true) : (l.find? fun x => sEq (key x) k).getD default = l.getD (lowK key l k) default :=
 find_first l _ h1 h2 fun i hi => by
  have := lowK_lt hi
  cases e : sEq (key (l.getD i default)) k with
  | false => rfl
  | true => rw [sEq_eq.1 e, sLt_irr] at this; cases this
theorem lowK_cmp (hr : RiseK key l) : (∀ j, j < lowK key l k → cmpB (key (l.getD j default)) k < 0) ∧ (∀ j, lowK key l k ≤ j → j < l.length → 0 ≤ cmpB (key (l.getD j default)) k) := by
 refine ⟨fun j hj => ?_, fun j hj hl => ?_⟩
 ·have := lowK_lt hj
  rw [← cmpB_lt, decide_eq_true_eq] at this; exact this
 ·have := lowK_ge hr hj hl
  rw [← cmpB_lt, decide_eq_false_iff_not] at this; omega
theorem cmp_zero (a b : ByteArray) : decide (cmpB a b = 0) = sEq a b := by
 rw [sEq_dec]
 by_cases h : a = b
 ·rw [decide_eq_true h, decide_eq_true (cmpB_eq.2 h)]
 ·rw [decide_eq_false h, decide_eq_false fun e => h (cmpB_eq.1 e)]
end
theorem bsf_lo {f : Nat → Int} {s0 n h : Nat} (hhi : ∀ j, s0 ≤ j → j < n → 0 ≤ f j) (hn : h < n) (hc : f h < 0) : h + 1 ≤ s0 := by
 rcases Nat.lt_or_ge h s0 with h1 | h1
 ·exact h1
 ·have := hhi h h1 hn; omega
theorem bsf_hi {f : Nat → Int} {s0 h : Nat} (hlo : ∀ j, j < s0 → f j < 0) (hc : 0 ≤ f h) : s0 ≤ h := by
 rcases Nat.lt_or_ge h s0 with h1 | h1
 ·have := hlo h h1; omega
 ·exact h1
end Go.Proofs.YtbbgjeiefmiblaaGreatDoor
namespace Go.Proofs.YtbbgjeiefmiblaaGreatDoor
open Go.RowKit
set_option linter.unusedVariables false
set_option linter.unusedSimpArgs false
abbrev kvS : ByteArray → Value := fun k => Value.string k
abbrev eI : Int → AV := fun n => avI n
theorem flat_need (xs : List NeedS) : FlatA (rowL xs) := flat_rowL (fun x j hj => by
 match j, hj with
 | 0, _ => exact ⟨_, rfl⟩
 | 1, _ => exact ⟨_, rfl⟩) xs
theorem cnt_key_small {p : ProdS} (hs : SmP p) (q : Nat) : ∀ x ∈ cntP (p.places.take q), x.1.size ≤ maxLen := fun x hx => by
 have : x.1 ∈ (cntP (p.places.take q)).map (·.1) := List.mem_map.2 ⟨x, hx, rfl⟩
 obtain ⟨y, hy, e⟩ := cntP_mem.1 this
 obtain ⟨j, hj, rfl⟩ := List.getElem_of_mem hy
 rw [← e]
 have h1 := hs.part j
 simp only [List.length_take] at hj
 rw [List.getElem_take]
 rw [List.getD_eq_getElem?_getD, List.getElem?_eq_getElem (by omega)] at h1
 simp only [maxLen]
 exact Nat.le_trans h1 (by decide)
theorem needs_take {p : ProdS} {r : Nat} (h : r < (sKeys (cntP p.places)).length) : (needsL p).take (r + 1) = (needsL p).take r ++ [⟨(sKeys (cntP p.places)).getD r ByteArray.empty, mgetD (cntP p.places) ((sKeys (cntP p.places)).getD r ByteArray.empty) 0⟩] := by
 rw [take_snocD (by simpa [needsL] using h) default]
 congr 2
 simp [needsL, List.getD_eq_getElem?_getD, h]
set_option maxRecDepth 100000 in
set_option maxHeartbeats 4000000 in
theorem panel_Needs {p : ProdS} (hs : SmP p) :
  SpecN Tryz.prog 49 [avProd p] (fun y => y = .tup [avL (needsR p), avI (prodF p)]) := by
 refine SpecN.of_VCN Tryz.func49 rfl Tryz.ntmps49 (Nle rfl) fun w A hB => ?_
 have hnew : True := trivial
 refine VC.seq ?_
 have hl := hs.len
 refine VC.region ?_
 refine VO.op rfl (OpE.box rfl hB rfl rfl rfl ?_)
 intro g1
 refine VO.ma rfl rfl rfl rfl ?_
 refine VO.ma rfl rfl rfl rfl ?_
 refine VO.nil ?_
 refine VC.seq ?_
 refine VC.sr ?_
 refine VO.val rfl rfl (OpV.loadK_own (i := 0) rfl hB Tryz.isAgg65 Tryz.sizeOf65 rfl rfl rfl (fun h => h)) ?_
 refine VO.op rfl (OpE.call rfl hB rfl Tryz.call95 rfl (SpecN.spec (panel_CheckProduct hs)) ?_)
 rintro _ rfl
 refine VO.ma rfl rfl rfl rfl ?_
 refine VO.nil ?_
 refine VC.sr ?_
 refine VO.mv rfl rfl rfl rfl ?_
 refine VO.val rfl rfl (OpV.neq rfl rfl rfl) ?_
 refine VO.nil ?_
 refine VC.cond rfl (fun h0b => ?_) (fun h0b => ?_)
 ·have h0 := h0b
  try simp only [qqT, qqF, qqN, qqM, qqL, qqE] at h0
  refine VC.sr ?_
  refine VO.mv rfl rfl rfl rfl ?_
  refine VO.ma rfl rfl rfl rfl ?_
  refine VO.ma rfl rfl rfl rfl ?_
  refine VO.nil ?_
  refine VC.ret ?_
  exact Exists.intro _ (And.intro (RetN.two Tryz.results49 (ResN.nilE rfl) (ResN.v rfl)) (by first | (rw [needsR, if_neg h0]; rfl) | (rw [needsR, if_pos h00, h00])))
 ·have h0 := h0b
  try simp only [qqT, qqF, qqN, qqM, qqL, qqE] at h0
  have h00 : prodF p = 0 := by omega
  have hok := prodOk h00
  have hlen := hok.len
  refine VC.skip ?_
  refine VC.sr ?_
  refine VO.op rfl (OpE.makeMap (kvS) (eI) rfl hB rfl ?_)
  intro g16
  refine VO.ma rfl rfl rfl rfl ?_
  refine VO.nil ?_
  refine VC.seq ?_
  refine VC.sr ?_
  refine VO.val rfl rfl (OpV.fieldAddrO 3 rfl Tryz.underlying65 rfl rfl Tryz.sizeOf63 rfl) ?_
  refine VO.val rfl rfl (OpV.load_own (i := 0) rfl hB Tryz.isAgg63 rfl rfl rfl (fun h => h)) ?_
  refine VO.val rfl rfl (OpV.len_im rfl Tryz.underlying63 rfl) ?_
  refine VO.mv rfl rfl rfl rfl ?_
  refine VO.nil ?_
  refine VC.block ?_
  refine VC.loopK [(5, _), (18, _), (19, _)] ⟨rfl, rfl, rfl, trivial⟩ ({q : Nat // q ≤ p.places.length}) (fun (iZ : {q : Nat // q ≤ p.places.length}) => match iZ with | ⟨q, hq⟩ => [(20, avI (q : Int))]) (fun (iZ : {q : Nat // q ≤ p.places.length}) => match iZ with | ⟨q, hq⟩ => [boxProd g1 p 65, mapE kvS g16 eI (cntP (p.places.take q))]) (fun (iZ : {q : Nat // q ≤ p.places.length}) => match iZ with | ⟨q, hq⟩ => 0) (fun (iZ : {q : Nat // q ≤ p.places.length}) => match iZ with | ⟨q, hq⟩ => p.places.length - q) ⟨0, Nat.zero_le _⟩ (Le.mk hB [0, 1] ⟨rfl, rfl, rfl, rfl, trivial⟩ rfl rfl (Nat.le_refl _)) ?_
  rintro ⟨q, hq⟩
  show VC _ _ _ _ ⟨[(20, avI (q : Int))] ++ [(5, _), (18, _), (19, _)], [boxProd g1 p 65, mapE kvS g16 eI (cntP (p.places.take q))], 0⟩
  refine VC.sr ?_
  refine VO.val rfl rfl (OpV.lss rfl rfl rfl) ?_
  refine VO.nil ?_
  refine VC.seq ?_
  refine VC.cond rfl (fun aH1b => ?_) (fun aH1b => ?_)
  ·have aH1 := aH1b
   try simp only [qqT, qqF, qqN, qqM, qqL, qqE] at aH1
   refine VC.skip ?_
   refine VC.seq ?_
   refine VC.block ?_
   refine VC.sr ?_
   refine VO.val rfl rfl (OpV.indexAddr_E rfl Tryz.underlying63 Tryz.sizeOf128 rfl rfl rfl (by omega)) ?_
   refine VO.val rfl rfl (OpV.loadK_at rfl hB OutW.no Tryz.isAgg128 Tryz.sizeOf128 rfl rfl) ?_
   refine VO.op rfl (OpE.alloc rfl hB rfl Tryz.zeroValue128 rfl ?_)
   intro g7
   refine VO.op rfl (OpE.store (i := 2) rfl hB rfl Tryz.sizeOf128 rfl rfl rfl rfl rfl rfl (Nle rfl) trivial ?_)
   refine VO.nil ?_
   refine VC.region ?_
   refine VO.mv rfl rfl rfl rfl ?_
   refine VO.val rfl rfl (OpV.fieldAddrO 1 rfl Tryz.underlying128 rfl rfl Tryz.sizeOf9 rfl) ?_
   refine VO.val rfl rfl (OpV.load_own (i := 2) rfl hB Tryz.isAgg9 rfl rfl rfl (fun h => h)) ?_
   refine VO.val rfl rfl (OpV.lookup_own (i := 1) rfl hB Tryz.underlying163 (KeyOk.str Tryz.underlying9) Tryz.zeroValue3 rfl (KeyE.v rfl) rfl (fun h => h)) ?_
   refine VO.le _ (Le.recast (t := 27) (y := avI (mgetD (cntP (p.places.take q)) (p.places.getD q default).part 0)) rfl (fun w Z u h => by unfold mgetD; revert h; cases mget (cntP (p.places.take q)) (p.places.getD q default).part <;> exact id)) ?_
   refine VO.val rfl rfl (OpV.add rfl rfl rfl (by have h := cntP_bd (p.places.take q) (p.places.getD q default).part; have h2 := List.length_take_le q p.places; unfold fits; omega)) ?_
   refine VO.op rfl (OpE.mapUpdate (i := 1) (xx := mgetD (cntP (p.places.take q)) (p.places.getD q default).part 0 + 1) rfl hB rfl Tryz.underlying163 (KeyOk.str Tryz.underlying9) rfl (KeyE.v rfl) rfl rfl trivial ?_)
   refine VO.nil ?_
   refine VC.region ?_
   refine VO.val rfl rfl (OpV.add rfl rfl rfl (by unfold fits; omega)) ?_
   refine VO.mv rfl rfl rfl rfl ?_
   refine VO.nil ?_
   exact Exists.intro (⟨q + 1, by omega⟩) (And.intro (Le.mk hB [0, 1] ⟨rfl, rfl, rfl, rfl, trivial⟩ rfl (by dsimp only; rw [cntP_take (by omega)]; rfl) (Nat.le_refl _)) (by first | omega | (show _ < _; omega) | (simp only []; omega)))
  ·have aH1 := aH1b
   try simp only [qqT, qqF, qqN, qqM, qqL, qqE] at aH1
   refine VC.exit ?_
   refine VC.seq ?_
   have hqe : p.places.take q = p.places := List.take_of_length_le (by omega)
   rw [hqe]
   have hcl := cntP_len p.places
   refine VC.region ?_
   refine VO.ma rfl rfl rfl rfl ?_
   refine VO.nil ?_
   refine VC.seq ?_
   refine VC.sr ?_
   refine VO.mv rfl rfl rfl rfl ?_
   refine VO.op rfl (OpE.callH rfl hB rfl Tryz.call107 rfl rfl (maps_Keys_int (some g16)) (List.Perm.refl _) (fun _ _ => trivial) ?_)
   rintro _ _ ⟨g31, rfl, rfl⟩
   refine VO.op rfl (OpE.callH (rest := [_]) rfl hB rfl Tryz.call106 rfl rfl (slices_Sorted_int (l := cntP p.places) (E := eI) (cntP_nodup _) (by have := cnt_key_small hs p.places.length; rwa [List.take_length] at this) (by omega)) (List.Perm.cons _ (List.Perm.swap _ _ _)) (fun _ _ => trivial) ?_)
   rintro _ _ ⟨u32, rfl, rfl⟩
   refine VO.le _ (Le.rowS (t := 32) (i := 0) hB hnew rfl rfl (sKeys_len _).symm) ?_
   obtain ⟨m, hm⟩ : ∃ m, cntP p.places = m := ⟨_, rfl⟩
   obtain ⟨ks, hks⟩ : ∃ ks, sKeys (cntP p.places) = ks := ⟨_, rfl⟩
   have hkl : ks.length = (cntP p.places).length := by rw [← hks, sKeys_len]
   rw [hks]
   refine VO.val rfl rfl (OpV.len_im rfl Tryz.underlying29 rfl) ?_
   refine VO.mv rfl rfl rfl rfl ?_
   refine VO.nil ?_
   refine VC.block ?_
   refine VC.le _ (Le.nilRow 2 82) ?_
   refine VC.loopK [(5, _), (32, _), (33, _)] ⟨rfl, rfl, rfl, trivial⟩ ({z : Value × Nat // z.2 ≤ ks.length}) (fun (iZ : {z : Value × Nat // z.2 ≤ ks.length}) => match iZ with | ⟨⟨u, r⟩, hr⟩ => [(8, .v u), (34, avI (r : Int))]) (fun (iZ : {z : Value × Nat // z.2 ≤ ks.length}) => match iZ with | ⟨⟨u, r⟩, hr⟩ => [mapE kvS g16 eI (cntP p.places), .row u r 2 (rowL ((needsL p).take r)) 82]) (fun (iZ : {z : Value × Nat // z.2 ≤ ks.length}) => match iZ with | ⟨⟨u, r⟩, hr⟩ => 0) (fun (iZ : {z : Value × Nat // z.2 ≤ ks.length}) => match iZ with | ⟨⟨u, r⟩, hr⟩ => ks.length - r) ⟨(.slice none 0 0, 0), Nat.zero_le _⟩ (Le.mk hB [1, 3] ⟨rfl, rfl, rfl, rfl, rfl, trivial⟩ rfl rfl (Nat.le_refl _)) ?_
   rintro ⟨⟨u, r⟩, hr⟩
   show VC _ _ _ _ ⟨[(8, .v u), (34, avI (r : Int))] ++ [(5, _), (32, _), (33, _)], [mapE kvS g16 eI (cntP p.places), .row u r 2 (rowL ((needsL p).take r)) 82], 0⟩
   simp only at hr
   refine VC.sr ?_
   refine VO.val rfl rfl (OpV.lss rfl rfl rfl) ?_
   refine VO.nil ?_
   refine VC.seq ?_
   refine VC.cond rfl (fun aH2b => ?_) (fun aH2b => ?_)
   ·have aH2 := aH2b
    try simp only [qqT, qqF, qqN, qqM, qqL, qqE] at aH2
    refine VC.skip ?_
    refine VC.seq ?_
    refine VC.block ?_
    refine VC.sr ?_
    refine VO.val rfl rfl (OpV.indexAddr_1 rfl Tryz.underlying29 Tryz.sizeOf9 rfl rfl rfl (by omega)) ?_
    refine VO.val rfl rfl (OpV.load_at rfl hB OutW.no Tryz.isAgg9 rfl rfl) ?_
    refine VO.ma rfl rfl rfl rfl ?_
    refine VO.nil ?_
    refine VC.region ?_
    refine VO.mv rfl rfl rfl rfl ?_
    refine VO.mv rfl rfl rfl rfl ?_
    refine VO.mv rfl rfl rfl rfl ?_
    refine VO.mv rfl rfl rfl rfl ?_
    refine VO.val rfl rfl (OpV.lookup_own (i := 0) rfl hB Tryz.underlying163 (KeyOk.str Tryz.underlying9) Tryz.zeroValue3 rfl (KeyE.v rfl) rfl (fun h => h)) ?_
    refine VO.le _ (Le.recast (t := 42) (y := avI (mgetD (cntP p.places) (ks.getD r ByteArray.empty) 0)) rfl (fun w Z u h => by unfold mgetD; revert h; cases mget (cntP p.places) (ks.getD r ByteArray.empty) <;> exact id)) ?_
    refine VO.val rfl rfl (OpV.build (pls := #[(0, 1), (1, 1)]) rfl Tryz.zeroValue82 Tryz.underlying82 (fun w => by kernel_rfl) rfl rfl) ?_
    refine VO.op rfl (OpE.buildSlice (zc := #[.string ⟨#[]⟩, .int .i64 0]) rfl hB rfl Tryz.underlying78 Tryz.sizeOf82 Tryz.zeroValue82 (by decide) (by decide) (by kernel_rfl) rfl rfl ?_)
    refine VO.op rfl (OpE.append1 (i := 1) rfl hB rfl Tryz.underlying78 (infoOf Tryz.t82 2 (by kernel_rfl) rfl rfl) rfl (by decide) (by decide) rfl rfl rfl rfl (rowL_snoc _ (⟨ks.getD r ByteArray.empty, mgetD (cntP p.places) (ks.getD r ByteArray.empty) 0⟩ : NeedS)) (by omega) (fun _ _ => trivial) ?_)
    intro u2
    refine VO.ma rfl rfl rfl rfl ?_
    refine VO.nil ?_
    refine VC.region ?_
    refine VO.val rfl rfl (OpV.add rfl rfl rfl (by unfold fits; omega)) ?_
    refine VO.mv rfl rfl rfl rfl ?_
    refine VO.nil ?_
    exact Exists.intro (⟨(u2, r + 1), by show r + 1 ≤ _; omega⟩) (And.intro (Le.mk hB [0, 1] ⟨rfl, rfl, rfl, rfl, rfl, trivial⟩ rfl (by dsimp only; rw [needs_take (by rw [hks]; omega), hks]; rfl) (Nat.le_refl _)) (by first | omega | (show _ < _; omega) | (simp only []; omega)))
   ·have aH2 := aH2b
    try simp only [qqT, qqF, qqN, qqM, qqL, qqE] at aH2
    refine VC.exit ?_
    refine VC.seq ?_
    have hre : r = (needsL p).length := by rw [needsL_len]; omega
    have hrt : (needsL p).take r = needsL p := List.take_of_length_le (by omega)
    rw [hrt]
    refine VC.region ?_
    refine VO.mv rfl rfl rfl rfl ?_
    refine VO.ma rfl rfl rfl rfl ?_
    refine VO.ma rfl rfl rfl rfl ?_
    refine VO.nil ?_
    refine VC.ret ?_
    exact Exists.intro _ (And.intro (RetN.two Tryz.results49 (ResN.rowT (i := 1) (xs := needsL p) rfl rfl hre (flat_need _)) (ResN.v rfl)) (by first | (rw [needsR, if_neg h0]; rfl) | (rw [needsR, if_pos h00, h00])))
end Go.Proofs.YtbbgjeiefmiblaaGreatDoor
namespace Go.Proofs.YtbbgjeiefmiblaaGreatDoor
open Go.RowKit
set_option linter.unusedVariables false
set_option linter.unusedSimpArgs false
def vWords : List ByteArray := [⟨#[]⟩, ⟨#[103, 111, 111, 100]⟩, ⟨#[109, 105, 115, 115, 105, 110, 103]⟩, ⟨#[115, 104, 105, 102, 116, 101, 100]⟩, ⟨#[116, 117, 114, 110, 101, 100]⟩, ⟨#[115, 111, 108, 100, 101, 114, 101, 100]⟩]
def fineW : ByteArray := ⟨#[102, 105, 110, 101]⟩
def badW : ByteArray := ⟨#[98, 97, 100]⟩
structure LkT (x : LookS) : Prop where
 at_ : 0 ≤ x.at_ ∧ x.at_ < 100
 verdict : 1 ≤ x.verdict ∧ x.verdict ≤ 5
 board : x.board.size ≤ 1000
 name : x.name.size ≤ 1000
 machine : x.machine.size ≤ 1000
 nozzle : x.nozzle.size ≤ 1000
 reel : x.reel.size ≤ 1000
theorem LkT.of {m : Nat} (hm : m ≤ 9) {l : List LookS} (hk : ∀ x ∈ l, LkG m x) (h0 : lookF l = 0) {q : Nat} (h : q < l.length) : LkT (l.getD q default) := by
 have h1 := lookE_zero ((lookOk h0).all q h)
 have h2 := LkG.getD hk q
 have h3 := h2.at_.2 h1.at_.1 h1.at_.2
 exact ⟨⟨h1.at_.1, by omega⟩, h1.verdict, h2.board.1, h2.name.1, h2.machine, h2.nozzle, h2.reel⟩
end Go.Proofs.YtbbgjeiefmiblaaGreatDoor
namespace Go.Proofs.YtbbgjeiefmiblaaGreatDoor
open Go.RowKit Go.Maps Go.Sort Go.Shelf
set_option linter.unusedVariables false
set_option linter.unusedSimpArgs false
section
variable {P : Program} {w : World} {kt : TypeId}
end
section
set_option maxHeartbeats 1000000 in
end
end Go.Proofs.YtbbgjeiefmiblaaGreatDoor
namespace Go.Proofs.YtbbgjeiefmiblaaGreatDoor
open Go.RowKit
set_option linter.unusedVariables false
set_option linter.unusedSimpArgs false
theorem blkB {g : Nat} {p u : Value} {t : ByteArray} {b : Nat} (h : BlkL [bldE g p u, bufE u t] b) : b = g ∨ u.ownBlock = some b := by
 obtain ⟨e, he, hb⟩ := h
 simp only [List.mem_cons, List.not_mem_nil, or_false] at he
 rcases he with rfl | rfl
 ·exact .inl (Option.some.inj hb).symm
 ·exact .inr hb

end Go.Proofs.YtbbgjeiefmiblaaGreatDoor
namespace Go.Proofs.YtbbgjeiefmiblaaGreatDoor
open Go.RowKit
set_option linter.unusedVariables false
set_option linter.unusedSimpArgs false
def prodW : ByteArray := ⟨#[112, 114, 111, 100, 117, 99, 116]⟩
def plcW : ByteArray := ⟨#[112, 108, 97, 99, 101]⟩
def headPW (p : ProdS) : List ByteArray := [prodW, p.key, itoaS p.wide, itoaS p.high]
def linePW (x : PlaceS) : List ByteArray := [plcW, x.name, x.part, itoaS x.x, itoaS x.y, itoaS x.quarter]
theorem headP_eq (p : ProdS) : bytesOf (joinL (headPW p) ⟨#[32]⟩ ++ [10]) = headP p := by
 unfold headP
 apply ByteArray.ext
 apply Array.toList_inj.1
 simp [bytesOf, joinL, headPW, itosL, Lib.join, List.intercalate, ByteArray.data_append, prodW]
theorem lineP_eq (x : PlaceS) : bytesOf (joinL (linePW x) ⟨#[32]⟩ ++ [10]) = lineP x := by
 unfold lineP
 apply ByteArray.ext
 apply Array.toList_inj.1
 simp [bytesOf, joinL, linePW, itosL, Lib.join, List.intercalate, ByteArray.data_append, plcW]
theorem headP_size2 {p : ProdS} (hk : p.key.size ≤ 40) (h1 : fits p.wide) (h2 : fits p.high) : (headP p).size ≤ 100 ∧ (joinL (headPW p) ⟨#[32]⟩).length ≤ 100 := by
 have h := itos_join (l := [p.wide, p.high]) (fun j hj => by match j, hj with | 0, _ => exact h1 | 1, _ => exact h2)
 have e4 : ([p.wide, p.high] : List Int).length = 2 := rfl
 rw [e4] at h
 have key : (headP p).size ≤ 100 := by
  unfold headP
  rw [bytes_app, bytes_app, bytes_app, bytes_app, bytesOf_size]
  have e1 : (⟨#[112, 114, 111, 100, 117, 99, 116, 32]⟩ : ByteArray).size = 8 := rfl
  have e2 : (⟨#[32]⟩ : ByteArray).size = 1 := rfl
  have e3 : (⟨#[10]⟩ : ByteArray).size = 1 := rfl
  omega
 refine ⟨key, ?_⟩
 have hl := congrArg ByteArray.size (headP_eq p)
 rw [bytesOf_size, List.length_append] at hl
 omega
theorem lineP_size2 {x : PlaceS} (hn : x.name.size ≤ 40) (hp : x.part.size ≤ 40) (h1 : fits x.x) (h2 : fits x.y) (h3 : fits x.quarter) : (lineP x).size ≤ 152 ∧ (joinL (linePW x) ⟨#[32]⟩).length ≤ 152 := by
 have h := itos_join (l := [x.x, x.y, x.quarter]) (fun j hj => by match j, hj with | 0, _ => exact h1 | 1, _ => exact h2 | 2, _ => exact h3)
 have e4 : ([x.x, x.y, x.quarter] : List Int).length = 3 := rfl
 rw [e4] at h
 have key : (lineP x).size ≤ 152 := by
  unfold lineP
  rw [bytes_app, bytes_app, bytes_app, bytes_app, bytes_app, bytes_app, bytesOf_size]
  have e1 : (⟨#[112, 108, 97, 99, 101, 32]⟩ : ByteArray).size = 6 := rfl
  have e2 : (⟨#[32]⟩ : ByteArray).size = 1 := rfl
  have e3 : (⟨#[10]⟩ : ByteArray).size = 1 := rfl
  omega
 refine ⟨key, ?_⟩
 have hl := congrArg ByteArray.size (lineP_eq x)
 rw [bytesOf_size, List.length_append] at hl
 omega
theorem prodKey40 {p : ProdS} (h : prodF p = 0) : p.key.size ≤ 40 := by
 have hk := (prodOk h).key
 unfold keyF at hk
 simp only [Bool.and_eq_true, decide_eq_true_eq] at hk
 exact hk.1.1.2
theorem linesP_size2 {p : ProdS} (h : prodF p = 0) : ∀ q, q ≤ p.places.length → (linesP p q).size ≤ 100 + 152 * q
 | 0, _ => by
  have hok := prodOk h
  have hw := hok.wide
  have hh := hok.high
  exact (headP_size2 (prodKey40 h) (by unfold fits; omega) (by unfold fits; omega)).1
 | q + 1, hq => by
  have ih := linesP_size2 h q (by omega)
  obtain ⟨f1, f2, f3, f4, f5⟩ := place_facts h (show q < p.places.length by omega)
  have h2 := (lineP_size2 f1 f2 f3 f4 f5).1
  rw [linesP_snoc (by omega), bytes_app]
  omega
theorem nilB_app (a : ByteArray) : (⟨#[]⟩ : ByteArray) ++ a = a := by
 apply ByteArray.ext
 simp [ByteArray.data_append]
theorem headPW_len (p : ProdS) : (headPW p).length = 4 := rfl
theorem linePW_len (x : PlaceS) : (linePW x).length = 6 := rfl
set_option maxRecDepth 100000 in
set_option maxHeartbeats 8000000 in
theorem panel_TextP {p : ProdS} (hs : SmP p) :
  SpecW (TabW Tryz.prog) Tryz.prog 39 [avProd p] (fun y => y = .tup [avS (if prodF p = 0 then linesP p p.places.length else ⟨#[]⟩), avI (prodF p)]) := by
 refine SpecW.of_VC Tryz.func39 rfl Tryz.ntmps39 (Nle rfl) fun w A hgw hB => ?_
 have hG : ∀ {s a w'}, R (B0 w A 51) s a w' → TabW Tryz.prog w' :=  tab_base hgw
 have hnew : True := trivial
 refine VC.sr ?_
 refine VO.op rfl (OpE.box rfl hB rfl rfl rfl ?_)
 intro g1
 refine VO.ma rfl rfl rfl rfl ?_
 refine VO.ma rfl rfl rfl rfl ?_
 refine VO.nil ?_
 refine VC.seq ?_
 refine VC.sr ?_
 refine VO.val rfl rfl (OpV.loadK_own (i := 0) rfl hB Tryz.isAgg65 Tryz.sizeOf65 rfl rfl rfl (fun h => h)) ?_
 refine VO.op rfl (OpE.call rfl hB rfl Tryz.call95 rfl (SpecN.spec (panel_CheckProduct hs)) ?_)
 rintro _ rfl
 refine VO.ma rfl rfl rfl rfl ?_
 refine VO.nil ?_
 refine VC.sr ?_
 refine VO.mv rfl rfl rfl rfl ?_
 refine VO.val rfl rfl (OpV.neq rfl rfl rfl) ?_
 refine VO.nil ?_
 refine VC.cond rfl (fun h0b => ?_) (fun h0b => ?_)
 ·have h0 := h0b
  try simp only [qqT, qqF, qqN, qqM, qqL, qqE] at h0
  refine VC.sr ?_
  refine VO.mv rfl rfl rfl rfl ?_
  refine VO.ma rfl rfl rfl rfl ?_
  refine VO.ma rfl rfl rfl rfl ?_
  refine VO.nil ?_
  refine VC.ret ?_
  exact Exists.intro _ (And.intro (RetV.two Tryz.results39 (ResV.tmp rfl) (ResV.tmp rfl)) (by rw [if_neg h0]))
 ·have h0 := h0b
  try simp only [qqT, qqF, qqN, qqM, qqL, qqE] at h0
  refine VC.skip ?_
  refine VC.seq ?_
  have hp0 : prodF p = 0 := by omega
  have hok := prodOk hp0
  have hw := hok.wide
  have hh := hok.high
  have hpl := hok.len
  have fw : fits p.wide := by unfold fits; omega
  have fh : fits p.high := by unfold fits; omega
  have hhd := headP_size2 (prodKey40 hp0) fw fh
  refine VC.region ?_
  refine VO.op rfl (OpE.alloc rfl hB rfl Tryz.zeroValue103 rfl ?_)
  intro g
  refine VO.nil ?_
  refine VC.seq ?_
  refine VC.le _ (Le.nilRow 1 5) ?_
  refine VC.draw (fun j b => j = 10 ∧ b = g) hB (by kernel_rfl) ?_
  refine VA.take (i := 0) rfl (by kernel_rfl) (by kernel_rfl) (by kernel_rfl) rfl rfl (OpV.fieldAddrO 0 rfl Tryz.underlying65 rfl rfl Tryz.sizeOf9 rfl) ?_
  refine VA.takeT [1, 8, 9, 10] (i := 1) (by kernel_rfl) (by kernel_rfl) rfl (by kernel_rfl) (by kernel_rfl) (by kernel_rfl) rfl rfl (OpV.load_own (i := 0) rfl hB Tryz.isAgg9 rfl rfl rfl (fun ⟨j, h1, h2, _⟩ => by subst h2; cases h1)) ?_
  refine VA.take (i := 2) rfl (by kernel_rfl) (by kernel_rfl) (by kernel_rfl) rfl rfl (OpV.fieldAddrO 1 rfl Tryz.underlying65 rfl rfl Tryz.sizeOf3 rfl) ?_
  refine VA.takeT [3, 4, 8, 9, 10] (i := 3) (by kernel_rfl) (by kernel_rfl) rfl (by kernel_rfl) (by kernel_rfl) (by kernel_rfl) rfl rfl (OpV.load_own (i := 0) rfl hB Tryz.isAgg3 rfl rfl rfl (fun ⟨j, h1, h2, _⟩ => by subst h2; cases h1)) ?_
  refine VA.take (i := 5) rfl (by kernel_rfl) (by kernel_rfl) (by kernel_rfl) rfl rfl (OpV.fieldAddrO 2 rfl Tryz.underlying65 rfl rfl Tryz.sizeOf3 rfl) ?_
  refine VA.takeT [6, 7, 8, 9, 10] (i := 6) (by kernel_rfl) (by kernel_rfl) rfl (by kernel_rfl) (by kernel_rfl) (by kernel_rfl) rfl rfl (OpV.load_own (i := 0) rfl hB Tryz.isAgg3 rfl rfl rfl (fun ⟨j, h1, h2, _⟩ => by subst h2; cases h1)) ?_
  refine VA.all (rs := [4]) (by kernel_rfl) (by decide) ?_
  refine ⟨⟨_, rfl, .inl rfl, ?_⟩, trivial⟩
  refine OpE.callW rfl hB rfl Tryz.call97 rfl (strconv_Itoa_S fw) hG ?_
  rintro _ rfl
  refine VA.all (rs := [7]) (by kernel_rfl) (by decide) ?_
  refine ⟨⟨_, rfl, .inl rfl, ?_⟩, trivial⟩
  refine OpE.callW rfl hB rfl Tryz.call97 rfl (strconv_Itoa_S fh) hG ?_
  rintro _ rfl
  refine VA.all (rs := [8]) (by kernel_rfl) (by decide) ?_
  refine ⟨⟨_, rfl, .inl rfl, ?_⟩, trivial⟩
  refine OpE.buildSlice (zc := #[.string ⟨#[]⟩, .string ⟨#[]⟩, .string ⟨#[]⟩, .string ⟨#[]⟩]) rfl hB rfl Tryz.underlying29 Tryz.sizeOf9 Tryz.zeroValue9 (by decide) (by decide) (by kernel_rfl) rfl rfl ?_
  refine VA.le _ (Le.litsS (t := 21) (xs := headPW p) rfl rfl) ?_
  refine VA.all (rs := [9]) (by kernel_rfl) (by decide) ?_
  refine ⟨⟨_, rfl, .inl rfl, ?_⟩, trivial⟩
  refine OpE.call rfl hB rfl Tryz.call66 rfl (SpecN.spec (kit_Join (xs := headPW p) (by rw [headPW_len]; decide) (by omega))) ?_
  rintro _ rfl
  refine VA.le _ (Le.recast (t := 22) (y := avS (headP p)) rfl (fun w Z u h => by rw [← headP_eq]; exact h)) ?_
  refine VA.all (rs := [10]) (by kernel_rfl) (by decide) ?_
  refine ⟨⟨_, rfl, .inl rfl, ?_⟩, trivial⟩
  refine OpE.callH (rest := [_]) rfl hB rfl Tryz.call65 rfl rfl (Builder_WriteString_H (t := ⟨#[]⟩) (bldOk.none g) (by have e : (⟨#[]⟩ : ByteArray).size = 0 := rfl; omega)) (List.perm_append_comm (l₁ := [_])) (fun b h => ⟨rfl, (blkB h).elim id (fun e => by cases e)⟩) ?_
  rintro _ _ ⟨u23, rfl, rfl⟩
  refine VA.done (by kernel_rfl) ?_
  refine VC.seq ?_
  refine VC.sr ?_
  refine VO.val rfl rfl (OpV.fieldAddrO 3 rfl Tryz.underlying65 rfl rfl Tryz.sizeOf63 rfl) ?_
  refine VO.val rfl rfl (OpV.load_own (i := 2) rfl hB Tryz.isAgg63 rfl rfl rfl (fun h => h)) ?_
  refine VO.val rfl rfl (OpV.len_im rfl Tryz.underlying63 rfl) ?_
  refine VO.mv rfl rfl rfl rfl ?_
  refine VO.nil ?_
  refine VC.block ?_
  refine VC.loopK [(5, _), (25, _), (26, _)] ⟨rfl, rfl, rfl, trivial⟩ ({z : Value × Nat // z.2 ≤ p.places.length}) (fun (iZ : {z : Value × Nat // z.2 ≤ p.places.length}) => match iZ with | ⟨⟨u, q⟩, hq⟩ => [(27, avI (q : Int))]) (fun (iZ : {z : Value × Nat // z.2 ≤ p.places.length}) => match iZ with | ⟨⟨u, q⟩, hq⟩ => [bldE g (ptv g) u, bufE u (linesP p q), boxProd g1 p 65]) (fun (iZ : {z : Value × Nat // z.2 ≤ p.places.length}) => match iZ with | ⟨⟨u, q⟩, hq⟩ => 0) (fun (iZ : {z : Value × Nat // z.2 ≤ p.places.length}) => match iZ with | ⟨⟨u, q⟩, hq⟩ => p.places.length - q) ⟨(u23, 0), Nat.zero_le _⟩ (Le.mk hB [0, 1, 2] ⟨rfl, rfl, rfl, rfl, trivial⟩ rfl (by dsimp only; rw [show (⟨#[]⟩ : ByteArray) ++ headP p = linesP p 0 from nilB_app _]; rfl) (Nat.le_refl _)) ?_
  rintro ⟨⟨u, q⟩, hq⟩
  show VC _ _ _ _ ⟨[(27, avI (q : Int))] ++ [(5, _), (25, _), (26, _)], [bldE g (ptv g) u, bufE u (linesP p q), boxProd g1 p 65], 0⟩
  simp only at hq
  have hts := linesP_size2 hp0 q hq
  refine VC.sr ?_
  refine VO.val rfl rfl (OpV.lss rfl rfl rfl) ?_
  refine VO.nil ?_
  refine VC.seq ?_
  refine VC.cond rfl (fun aH1b => ?_) (fun aH1b => ?_)
  ·have aH1 := aH1b
   try simp only [qqT, qqF, qqN, qqM, qqL, qqE] at aH1
   refine VC.skip ?_
   refine VC.seq ?_
   refine VC.block ?_
   refine VC.seq ?_
   obtain ⟨f1, f2, f3, f4, f5⟩ := place_facts hp0 (show q < p.places.length by omega)
   obtain ⟨x, hxx⟩ : ∃ x, p.places.getD q default = x := ⟨_, rfl⟩
   rw [hxx] at f1 f2 f3 f4 f5
   have hjl := lineP_size2 f1 f2 f3 f4 f5
   refine VC.region ?_
   refine VO.val rfl rfl (OpV.indexAddr_E rfl Tryz.underlying63 Tryz.sizeOf128 rfl rfl rfl (by omega)) ?_
   refine VO.val rfl rfl (OpV.loadK_at rfl hB OutW.no Tryz.isAgg128 Tryz.sizeOf128 rfl rfl) ?_
   refine VO.le _ (Le.recast (t := 30) (y := avT x) rfl (fun w Z u h => by rw [← hxx]; exact h)) ?_
   refine VO.op rfl (OpE.alloc rfl hB rfl Tryz.zeroValue128 rfl ?_)
   intro g7
   refine VO.op rfl (OpE.store (i := 3) rfl hB rfl Tryz.sizeOf128 rfl rfl rfl rfl rfl rfl (Nle rfl) trivial ?_)
   refine VO.nil ?_
   refine VC.draw (fun j b => j = 15 ∧ (b = g ∨ u.ownBlock = some b)) hB (by kernel_rfl) ?_
   refine VA.take (i := 0) rfl (by kernel_rfl) (by kernel_rfl) (by kernel_rfl) rfl rfl (OpV.fieldAddrO 0 rfl Tryz.underlying128 rfl rfl Tryz.sizeOf9 rfl) ?_
   refine VA.takeT [1, 13, 14, 15] (i := 1) (by kernel_rfl) (by kernel_rfl) rfl (by kernel_rfl) (by kernel_rfl) (by kernel_rfl) rfl rfl (OpV.load_own (i := 3) rfl hB Tryz.isAgg9 rfl rfl rfl (fun ⟨j, h1, h2, _⟩ => by subst h2; cases h1)) ?_
   refine VA.take (i := 2) rfl (by kernel_rfl) (by kernel_rfl) (by kernel_rfl) rfl rfl (OpV.fieldAddrO 1 rfl Tryz.underlying128 rfl rfl Tryz.sizeOf9 rfl) ?_
   refine VA.takeT [3, 13, 14, 15] (i := 3) (by kernel_rfl) (by kernel_rfl) rfl (by kernel_rfl) (by kernel_rfl) (by kernel_rfl) rfl rfl (OpV.load_own (i := 3) rfl hB Tryz.isAgg9 rfl rfl rfl (fun ⟨j, h1, h2, _⟩ => by subst h2; cases h1)) ?_
   refine VA.take (i := 4) rfl (by kernel_rfl) (by kernel_rfl) (by kernel_rfl) rfl rfl (OpV.fieldAddrO 2 rfl Tryz.underlying128 rfl rfl Tryz.sizeOf3 rfl) ?_
   refine VA.takeT [5, 6, 13, 14, 15] (i := 5) (by kernel_rfl) (by kernel_rfl) rfl (by kernel_rfl) (by kernel_rfl) (by kernel_rfl) rfl rfl (OpV.load_own (i := 3) rfl hB Tryz.isAgg3 rfl rfl rfl (fun ⟨j, h1, h2, _⟩ => by subst h2; cases h1)) ?_
   refine VA.take (i := 7) rfl (by kernel_rfl) (by kernel_rfl) (by kernel_rfl) rfl rfl (OpV.fieldAddrO 3 rfl Tryz.underlying128 rfl rfl Tryz.sizeOf3 rfl) ?_
   refine VA.takeT [8, 9, 13, 14, 15] (i := 8) (by kernel_rfl) (by kernel_rfl) rfl (by kernel_rfl) (by kernel_rfl) (by kernel_rfl) rfl rfl (OpV.load_own (i := 3) rfl hB Tryz.isAgg3 rfl rfl rfl (fun ⟨j, h1, h2, _⟩ => by subst h2; cases h1)) ?_
   refine VA.take (i := 10) rfl (by kernel_rfl) (by kernel_rfl) (by kernel_rfl) rfl rfl (OpV.fieldAddrO 4 rfl Tryz.underlying128 rfl rfl Tryz.sizeOf3 rfl) ?_
   refine VA.takeT [11, 12, 13, 14, 15] (i := 11) (by kernel_rfl) (by kernel_rfl) rfl (by kernel_rfl) (by kernel_rfl) (by kernel_rfl) rfl rfl (OpV.load_own (i := 3) rfl hB Tryz.isAgg3 rfl rfl rfl (fun ⟨j, h1, h2, _⟩ => by subst h2; cases h1)) ?_
   refine VA.all (rs := [6]) (by kernel_rfl) (by decide) ?_
   refine ⟨⟨_, rfl, .inl rfl, ?_⟩, trivial⟩
   refine OpE.callW rfl hB rfl Tryz.call97 rfl (strconv_Itoa_S f3) hG ?_
   rintro _ rfl
   refine VA.all (rs := [9]) (by kernel_rfl) (by decide) ?_
   refine ⟨⟨_, rfl, .inl rfl, ?_⟩, trivial⟩
   refine OpE.callW rfl hB rfl Tryz.call97 rfl (strconv_Itoa_S f4) hG ?_
   rintro _ rfl
   refine VA.all (rs := [12]) (by kernel_rfl) (by decide) ?_
   refine ⟨⟨_, rfl, .inl rfl, ?_⟩, trivial⟩
   refine OpE.callW rfl hB rfl Tryz.call97 rfl (strconv_Itoa_S f5) hG ?_
   rintro _ rfl
   refine VA.all (rs := [13]) (by kernel_rfl) (by decide) ?_
   refine ⟨⟨_, rfl, .inl rfl, ?_⟩, trivial⟩
   refine OpE.buildSlice (zc := #[.string ⟨#[]⟩, .string ⟨#[]⟩, .string ⟨#[]⟩, .string ⟨#[]⟩, .string ⟨#[]⟩, .string ⟨#[]⟩]) rfl hB rfl Tryz.underlying29 Tryz.sizeOf9 Tryz.zeroValue9 (by decide) (by decide) (by kernel_rfl) rfl rfl ?_
   refine VA.le _ (Le.litsS (t := 44) (xs := linePW x) rfl rfl) ?_
   refine VA.all (rs := [14]) (by kernel_rfl) (by decide) ?_
   refine ⟨⟨_, rfl, .inl rfl, ?_⟩, trivial⟩
   refine OpE.call rfl hB rfl Tryz.call66 rfl (SpecN.spec (kit_Join (xs := linePW x) (by rw [linePW_len]; decide) (by omega))) ?_
   rintro _ rfl
   refine VA.le _ (Le.recast (t := 45) (y := avS (lineP x)) rfl (fun w Z u h => by rw [← lineP_eq]; exact h)) ?_
   refine VA.all (rs := [15]) (by kernel_rfl) (by decide) ?_
   refine ⟨⟨_, rfl, .inl rfl, ?_⟩, trivial⟩
   refine OpE.callH (rest := [_, _]) rfl hB rfl Tryz.call65 rfl rfl (Builder_WriteString_H (bldOk.self g) (by omega)) (List.Perm.refl _) (fun b h => ⟨rfl, blkB h⟩) ?_
   rintro _ _ ⟨u46, rfl, rfl⟩
   refine VA.done (by kernel_rfl) ?_
   refine VC.region ?_
   refine VO.val rfl rfl (OpV.add rfl rfl rfl (by unfold fits; omega)) ?_
   refine VO.mv rfl rfl rfl rfl ?_
   refine VO.nil ?_
   exact Exists.intro (⟨(u46, q + 1), by show q + 1 ≤ _; omega⟩) (And.intro (Le.mk hB [0, 1, 2] ⟨rfl, rfl, rfl, rfl, trivial⟩ rfl (by dsimp only; rw [linesP_snoc (by omega), hxx]; rfl) (Nat.le_refl _)) (by first | omega | (show _ < _; omega) | (simp only []; omega)))
  ·have aH1 := aH1b
   try simp only [qqT, qqF, qqN, qqM, qqL, qqE] at aH1
   obtain rfl : q = p.places.length := by omega
   refine VC.exit ?_
   refine VC.seq ?_
   refine VC.sr ?_
   refine VO.op rfl (OpE.callH (rest := [_]) rfl hB rfl Tryz.call98 rfl rfl (Builder_Len_H) (List.Perm.refl _) (fun _ _ => trivial) ?_)
   rintro _ _ ⟨rfl, rfl⟩
   refine VO.val rfl rfl (OpV.gtr rfl rfl rfl) ?_
   refine VO.nil ?_
   refine VC.cond rfl (fun aH2b => ?_) (fun aH2b => ?_)
   ·have aH2 := aH2b
    try simp only [qqT, qqF, qqN, qqM, qqL, qqE] at aH2
    exact VC.absurd (by omega)
   ·have aH2 := aH2b
    try simp only [qqT, qqF, qqN, qqM, qqL, qqE] at aH2
    refine VC.skip ?_
    refine VC.sr ?_
    refine VO.op rfl (OpE.bstr (i := 0) (j := 1) rfl hB rfl (fun _ h => h) Tryz.call68 rfl rfl (bldOk.self g) rfl (by decide) ?_)
    refine VO.ma rfl rfl rfl rfl ?_
    refine VO.ma rfl rfl rfl rfl ?_
    refine VO.nil ?_
    refine VC.ret ?_
    exact Exists.intro _ (And.intro (RetV.two Tryz.results39 (ResV.tmp rfl) (ResV.tmp rfl)) (by rw [if_pos hp0, hp0]))
end Go.Proofs.YtbbgjeiefmiblaaGreatDoor
namespace Go.Proofs.YtbbgjeiefmiblaaGreatDoor
open Go.RowKit
set_option linter.unusedVariables false
set_option linter.unusedSimpArgs false
structure StabX (TX : List Ent → World → Prop) : Prop where
 keep : ∀ {hp hp' : List Ent} {w w' : World}, TX hp w → Chg (BlkL hp) w w' → (∀ b, BlkL hp' b → b < w.heap.size → BlkL hp b) → TX hp' w'
def TXt : List Ent → World → Prop := fun _ _ => True
theorem TXt.stab : StabX TXt := ⟨fun _ _ _ => trivial⟩
def SpecHX (TX : List Ent → World → Prop) (P : Program) (F : FuncId) (xs : List AV) (hp : List Ent) (G : AV → List Ent → Prop) : Prop :=
 ∀ (w : World) (A : Nat → Prop) (us : Array Value), TX hp w → Args w A xs us → Apart hp → (∀ b, BlkL hp b → ¬ A b) → (∀ e ∈ hp, EntR w (fun b => b < w.heap.size ∧ A b) e) →
  Calls P F us w fun e w' => ∃ y v hp', G y hp' ∧ e = .returned v ∧ Apart hp' ∧ Rep w' (Zh w A hp hp' w') y v ∧ (∀ e ∈ hp', EntR w' (Zh w A hp hp' w') e) ∧
   (∀ b, BlkL hp' b → b < w.heap.size → BlkL hp b) ∧ Chg (BlkL hp) w w'
theorem SpecHX.of_VC {TX : List Ent → World → Prop} (hst : StabX TX) {P : Program} {F : FuncId} {fn : Func} {c : Code} (hf : P.funcs[F]? = some fn) (hb : fn.body = some c) {xs : List AV} {hp : List Ent} {G : AV → List Ent → Prop} {nt : Nat} (hn : fn.ntmps = nt) (hle : xs.length ≤ nt)
  (h : ∀ w A, (Bh w A nt hp).Ok → (∀ s a w', R (Bh w A nt hp) s a w' → TX s.hp w') → VC P (Bh w A nt hp) c (retS P fn fun y s => G y s.hp) ⟨slots0 0 xs, hp, 0⟩) : SpecHX TX P F xs hp G := fun w A us hx ha h1 h2 h3 => by
 have hus : us.size ≤ fn.ntmps := by rw [ha.1, hn]; exact hle
 refine calls_of_wp hf hb (Code.wp_mono (fun e a w' hq => ?_) (h w A (Bh.ok _ _ _ _) (fun s a w' hr => hst.keep hx hr.chg fun b ⟨p, hp1, hpb⟩ hl => (hr.own p hp1 b hpb).2 hl) _ w (by
  have := R.startH (nt := nt) ha h1 h2 h3 (by omega)
  rwa [hn])))
 obtain ⟨s, hq, hr⟩ := hq
 have key : ∀ y v, G y s.hp → Rep w' (Zn (Bh w A nt hp) s.hp w') y v → ∃ y v' hp', G y hp' ∧ Ending.returned v = .returned v' ∧ Apart hp' ∧ Rep w' (Zh w A hp hp' w') y v' ∧ (∀ e ∈ hp', EntR w' (Zh w A hp hp' w') e) ∧
   (∀ b, BlkL hp' b → b < w.heap.size → BlkL hp b) ∧ Chg (BlkL hp) w w' := fun y v hG hv => by
  have hZ : ∀ b, Zn (Bh w A nt hp) s.hp w' b → Zh w A hp s.hp w' b := fun b hb => ⟨hb.1, fun ⟨p, hp1, hp2⟩ => hb.2.1 p hp1 hp2, fun hl => (hb.2.2 hl).1⟩
  exact ⟨y, v, s.hp, hG, rfl, hr.nodup, hv.keep fun b hb _ => ⟨rfl, hZ b hb⟩, fun p hp' => (hr.blocks p hp').keep (fun b hb _ => ⟨rfl, hZ b hb⟩) fun g _ => rfl, fun b ⟨p, hp1, hp2⟩ hl => (hr.own p hp1 b hp2).2 hl, hr.chg⟩
 cases e with
 | normal =>
  obtain ⟨y, k1, k2⟩ := hq
  obtain ⟨v, k3, k4⟩ := k1 _ a w' hr
  exact ⟨hr.defs, v, k3, key y v k2 k4⟩
 | ret =>
  obtain ⟨y, k1, k2⟩ := hq
  obtain ⟨v, k3, k4⟩ := k1 _ a w' hr
  exact ⟨hr.defs, v, k3, key y v k2 k4⟩
 | exit id => exact hq.elim
 | goto l => exact hq.elim
 | panic c => exact hq.elim
 | outgrown => exact hq.elim
section
variable {P : Program} {B : Bs} {W : Nat → Prop} {s : St'} {o : Oper} {K : St' → Prop}
theorem OpE.callHX {TX : List Ent → World → Prop} (hst : StabX TX) (hG : ∀ s a w, R B s a w → TX s.hp w) {f : Operand} {F : FuncId} {caps : Array Value} {args : Array Operand} {ts : Array TypeId} {xs : List AV} {hp rest : List Ent} {G : AV → List Ent → Prop} (ho : o.op = .call { callee := .value f, args := args, argTypes := ts }) (hB : B.Ok) (hd : okd B.nt o.dst = true)
  (hcall : ∀ us w, (callFunc F us).run P w = .ok (.enter F us) w) (hf : evO s f = some (.v (.func (.func F) #[] caps))) (hxs : evL s args.toList = some xs) (hspec : SpecHX TX P F (xs ++ caps.toList.map .v) hp G) (hsp : s.hp.Perm (hp ++ rest)) (hW : ∀ b, BlkL hp b → W b)
  (hK : ∀ y hp', G y hp' → K ((St'.mk s.sl (hp' ++ rest) s.k).put o.dst y)) : OpE P B W s o K := by
 intro a w hr next Qx hn
 have hr1 := hr.perm hsp
 have hA : Args w (Zo B (hp ++ rest)) (xs ++ caps.toList.map .v) (args.map a.eval ++ caps) := by
  have ha := evL_args hr hxs
  have hZo : ∀ b, Zo B s.hp b → Zo B (hp ++ rest) b := fun b hb => ⟨fun p hp1 => hb.1 p (hsp.mem_iff.2 hp1), hb.2⟩
  refine ⟨by simp [ha.1], fun j hj => ?_⟩
  by_cases hjx : j < xs.length
  ·rw [List.getElem_append_left hjx]
   have hlt : j < (args.map a.eval).size := by rw [ha.1]; exact hjx
   have : (args.map a.eval ++ caps).getD j undef = (args.map a.eval).getD j undef := by
    rw [Array.getD_eq_getD_getElem?, Array.getD_eq_getD_getElem?, Array.getElem?_append_left hlt]
   rw [this]
   exact (ha.2 j hjx).keep fun b hb _ => ⟨rfl, hb.1, hZo b hb.2⟩
  ·rw [List.getElem_append_right (by omega)]
   have hj' : j - xs.length < caps.size := by rw [List.length_append] at hj; simp at hj; omega
   have : (args.map a.eval ++ caps).getD j undef = caps.getD (j - xs.length) undef := by
    rw [Array.getD_eq_getD_getElem?, Array.getD_eq_getD_getElem?, Array.getElem?_append_right (by rw [ha.1]; omega), ha.1]
   rw [this, Array.getD_eq_getD_getElem?, Array.getElem?_eq_getElem hj']
   simp
   exact .v _
 have hap := hr1.nodup
 unfold Apart at hap
 rw [List.pairwise_append] at hap
 have hx : TX hp w := hst.keep (hG _ _ _ hr) (Chg.refl _ _) fun b ⟨p, hp1, hpb⟩ _ => ⟨p, hsp.mem_iff.2 (List.mem_append_left _ hp1), hpb⟩
 have h1 := hspec w (Zo B (hp ++ rest)) _ hx hA hap.1 (fun b ⟨p, hp1, hpb⟩ h => h.1 p (List.mem_append_left _ hp1) hpb) fun e he => (hr1.blocks e (List.mem_append_left _ he)).keep (fun b hb _ => ⟨rfl, hb.1, hb.2⟩) fun g _ => rfl
 unfold Oper.wp
 simp only [execOp, ho, resolve, hr.evv hf, Deferred.ofValue, Sem.run_bind, Sem.run_pure, Result.andThen_ok, invoke, hcall, Array.empty_append]
 simp only [Oper.upon]
 refine h1.mono fun e w' hret => ?_
 obtain ⟨y, v, hp', k1, rfl, k2, k3, k4, k5, k6⟩ := hret
 obtain ⟨hr', hz⟩ := hr1.afterH hB k2 k4 k5 k6
 exact hn _ _ _ (hK y hp' k1) (hr'.put _ hd _ _ (k3.keep fun b hb _ => ⟨rfl, hz b hb⟩)) (k6.mono fun b _ h => .inr (hW b h))
theorem OpE.callHX0 {TX : List Ent → World → Prop} (hst : StabX TX) (hG : ∀ s a w, R B s a w → TX s.hp w) {f : Operand} {F : FuncId} {caps : Array Value} {args : Array Operand} {ts : Array TypeId} {xs : List AV} {hp : List Ent} {G : AV → List Ent → Prop} (ho : o.op = .call { callee := .value f, args := args, argTypes := ts }) (hB : B.Ok) (hd : okd B.nt o.dst = true)
  (hcall : ∀ us w, (callFunc F us).run P w = .ok (.enter F us) w) (hf : evO s f = some (.v (.func (.func F) #[] caps))) (hxs : evL s args.toList = some xs) (hspec : SpecHX TX P F (xs ++ caps.toList.map .v) hp G) (hsp : s.hp.Perm hp) (hW : ∀ b, BlkL hp b → W b)
  (hK : ∀ y hp', G y hp' → K ((St'.mk s.sl hp' s.k).put o.dst y)) : OpE P B W s o K :=
 OpE.callHX (rest := []) hst hG ho hB hd hcall hf hxs hspec (by rw [List.append_nil]; exact hsp) hW fun y hp' h => by rw [List.append_nil]; exact hK y hp' h
end
def TabX (P : Program) (hp : List Ent) (w : World) : Prop := TabW P w ∧ ∀ b, BlkL hp b → P.globalNamed "internal/strconv.uint64pow10" ≠ some b
theorem TabW.lt {P : Program} {w : World} {g : Nat} (hg : P.globalNamed "internal/strconv.uint64pow10" = some g) (h : TabW P w) : g < w.heap.size := by
 unfold TabW Lib.TabIs World.var? at h
 rw [hg] at h
 simp only [Option.bind_some] at h
 by_cases hl : g < w.heap.size
 ·exact hl
 ·rw [Array.getElem?_eq_none (by omega)] at h; cases h
theorem TabX.stab {P : Program} {g : Nat} (hg : P.globalNamed "internal/strconv.uint64pow10" = some g) : StabX (TabX P) := ⟨fun {hp hp' w w'} h c hb => by
 have hlt := h.1.lt hg
 have hno : ∀ b, BlkL hp' b → P.globalNamed "internal/strconv.uint64pow10" ≠ some b := fun b hbb e => by
  obtain rfl : g = b := Option.some.inj (hg.symm.trans e)
  exact h.2 g (hb g hbb hlt) hg
 exact ⟨h.1.keep hg c fun h2 => h.2 g h2 hg, hno⟩⟩
theorem TabX.base {P : Program} {w : World} {A : Nat → Prop} {nt g : Nat} (hg : P.globalNamed "internal/strconv.uint64pow10" = some g) (h : TabW P w) : ∀ s a w', R (B0 w A nt) s a w' → TabX P s.hp w' := fun s a w' hr => by
 refine ⟨h.base hg hr, fun b ⟨p, hp1, hpb⟩ e => ?_⟩
 obtain rfl : g = b := Option.some.inj (hg.symm.trans e)
 exact (hr.own p hp1 g hpb).2 (h.lt hg)
end Go.Proofs.YtbbgjeiefmiblaaGreatDoor
namespace Go.Proofs.YtbbgjeiefmiblaaGreatDoor
open Go.RowKit
set_option linter.unusedVariables false
set_option linter.unusedSimpArgs false
def TabP (p : Nat) (w : World) : Prop := TabW Tryz.prog w ∧ ∀ g, Tryz.prog.globalNamed "internal/strconv.uint64pow10" = some g → g < p
theorem TabP.keep {S : Nat → Prop} {w w' : World} {p : Nat} (h : TabP p w) (c : Chg S w w') (hS : ∀ j, j < p → ¬ S j) : TabP p w' := by
 obtain ⟨g, hg⟩ := tab_named
 exact ⟨h.1.keep hg c (hS g (h.2 g hg)), h.2⟩
def TTW (p : Nat) (L : List Int) (w : World) (k : Nat) : Prop := TT p L w k ∧ TabP p w
theorem TTW.ok {p : Nat} {L : List Int} {w : World} {A : Nat → Prop} {nt k : Nat} (h : TTW p L w k) : (B1 w A nt (fun b => b = p) (fun b => b ≤ p) (TTW p L)).Ok := by
 obtain ⟨⟨k', hk, hs⟩, hb⟩ := h
 exact {
  keep := fun {S w w' k} ⟨⟨k', hk, hs⟩, hb⟩ hc hS => ⟨⟨k', hk, hs.keep hc hS⟩, hb.keep hc fun j hj => hS j (Nat.le_of_lt hj)⟩
  low := fun j hj => Nat.lt_of_le_of_lt hj hs.lt
  str := fun j hj => by cases hj; exact ⟨Nat.le_refl _, rfl⟩
  up := fun {w k k2} ⟨⟨k', h1, h2⟩, hb⟩ h3 => ⟨⟨k', Nat.le_trans h1 h3, h2⟩, hb⟩ }
theorem SpecT.liftW {P : Program} {p : Nat} {L : List Int} {F : FuncId} {xs : List AV} {c : Nat} {G : AV → Prop} (h : SpecT P (TT p L) (fun b => b = p) F xs c G) : SpecT P (TTW p L) (fun b => b = p) F xs c G := fun w A us k ha ht hd hk =>
 (h w A us k ha ht.1 hd hk).mono fun e w' ⟨y, v, h1, h2, h3, h4, h5⟩ => ⟨y, v, h1, h2, h3, h4, h5, ht.2.keep h4 fun j hj e => by
  have e' : j = p := e
  omega⟩
theorem tabT {p : Nat} {L : List Int} {w : World} {A : Nat → Prop} {nt : Nat} {str low : Nat → Prop} : ∀ {s a w'}, R (B1 w A nt str low (TTW p L)) s a w' → TabW Tryz.prog w' := fun hr => hr.res.2.1
section
variable {w : World} {A : Nat → Prop} {nt t : Nat} {x : Value} {c : Code} {s : St'}
theorem VC.streamT {a0 : Option Addr} {cap0 g tot i : Nat} {L : List Int} {sl : List (Nat × AV)} (hi : s.hp[i]? = some (.box g ⟨[.v (.slice a0 L.length cap0), .v (.int .i64 0)], 25, tot⟩)) (htot : tot = 2) (hTab : TabW Tryz.prog w) (hin : Inp w a0 L) (hsl : LeL s.sl sl) (hf : ∀ p ∈ sl, ∃ v, p.2 = .v v)
  (h : ∀ w1, w.heap.size ≤ g → (B1 w1 (fun b => b ≠ g) nt (fun b => b = g) (fun b => b ≤ g) (TTW g L)).Ok → VC Tryz.prog (B1 w1 (fun b => b ≠ g) nt (fun b => b = g) (fun b => b ≤ g) (TTW g L)) c (lawQ t x) ⟨sl, [], 0⟩) : VC Tryz.prog (B0 w A nt) c (lawQ t x) s :=
 VC.rebase fun a w1 hr => by
  have hm := List.mem_of_getElem? hi
  obtain ⟨cc, k1, k2, k3, k4⟩ := hr.blocks _ hm
  have hnew : ¬ g < w.heap.size := hr.isNew (fun b h => h) hm rfl
  have hge : w.heap.size ≤ g := by omega
  have hcc : cc = #[.slice a0 L.length cap0, .int .i64 0] := by
   obtain ⟨u0, p0, q0⟩ := k4 0 (by simp)
   obtain ⟨u1, p1, q1⟩ := k4 1 (by simp)
   have e0 := q0.eq_v
   have e1 := q1.eq_v
   have hsz : cc.size = 2 := k2.trans htot
   apply Array.ext (by simpa using hsz)
   intro i hi hi'
   simp at hi'
   match i, hi' with
   | 0, _ => have := Array.getElem?_eq_some_iff.1 p0; simp; rw [this.2, e0]
   | 1, _ => have := Array.getElem?_eq_some_iff.1 p1; simp; rw [this.2, e1]
  subst hcc
  have hT : TT g L w1 0 := ⟨0, Nat.le_refl _, a0, cap0, k1, hin.1, fun i hi => by
   obtain ⟨b, o, e1, e2⟩ := hin.2 i hi
   have hb := World.block_lt_of_cell? w _ e2
   exact ⟨b, o, e1, Nat.lt_of_lt_of_le hb hge, hr.chg.cell e2 fun h => h⟩⟩
  have htp : TabP g w1 := by
   obtain ⟨g1, hg1⟩ := tab_named
   refine ⟨hTab.keep hg1 hr.chg fun h => h, fun g2 hg2 => ?_⟩
   obtain rfl := Option.some.inj (hg1.symm.trans hg2)
   have := hTab.lt hg1
   omega
  refine ⟨_, _, rfl, rfl, fun b hb => by rw [hb]; exact hge, ?_, h w1 hge (TTW.ok ⟨hT, htp⟩)⟩
  refine ⟨fun t' y hy => ?_, hr.size, hr.defs, fun p hp => by simp at hp, List.Pairwise.nil, Chg.refl _ _, fun p hp => by simp at hp, ⟨hT, htp⟩⟩
  have hs := hr.slots t' y (LeL.look hsl t' y hy)
  have : ∃ v, y = .v v := by
   have key : ∀ (l : List (Nat × AV)), (∀ p ∈ l, ∃ v, p.2 = .v v) → look l t' = some y → ∃ v, y = .v v := by
    intro l
    induction l with
    | nil => intro _ h; cases h
    | cons p r ih =>
     intro hp hl
     obtain ⟨k, z⟩ := p
     rw [look_put] at hl
     split at hl
     ·cases hl; exact hp (k, y) (by simp)
     ·exact ih (fun q hq => hp q (by simp [hq])) hl
   exact key sl hf hy
  exact hs.flat this
end
end Go.Proofs.YtbbgjeiefmiblaaGreatDoor
namespace Go.Proofs.YtbbgjeiefmiblaaGreatDoor
open Go.RowKit
set_option linter.unusedVariables false
set_option linter.unusedSimpArgs false

structure SlotS where
 x : Int
 y : Int
 quarter : Int
 skip : Bool
instance : Inhabited SlotS := ⟨⟨0, 0, 0, false⟩⟩
instance : Sxc SlotS where
 k := 4
 pos := by decide
 cell m j := match j with
  | 0 => avI m.x
  | 1 => avI m.y
  | 2 => avI m.quarter
  | 3 => avB m.skip
  | _ => .any
structure PanS where
 wide : Int
 high : Int
 slots : List SlotS
section
variable {n : PanS}
end
end Go.Proofs.YtbbgjeiefmiblaaGreatDoor
