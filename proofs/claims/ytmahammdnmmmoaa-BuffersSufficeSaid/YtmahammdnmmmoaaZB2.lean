/- Part 2 of a proof: the walks and laws that it needs. -/
import Derived.Test.YtmahammdnmmmoaaProg
import Derived.BigRegion
import Derived.Deep.QuietTactic
import Derived.BigQuiet
import Derived.Lib.SliceRun
import Derived.Lib.Strings
import Derived.Lib.AppendZerosOnto
import Derived.Lib.Overlaps
import Derived.Lib.Bytealg
import Derived.Shelf.Small.Wraps
import Derived.Shelf.Bits.Mul64
import Derived.Shelf.Slices.Equal
import Derived.Ground.Names2Prog
import Derived.Shelf.Slices.Clone
import Derived.Shelf.Slices.SearchI
import Derived.Shelf.Slices.Empties2
import Derived.Ground.SlgnProg
import Derived.Shelf.SlicesE.Clone
import Derived.Lib.SlTrimSet
import Derived.Test.YtmahammdnmmmoaaZB1
namespace Go.Proofs.Ytmahammdnmmmoaa
open Go.RowKit
set_option linter.unusedVariables false
set_option linter.unusedSimpArgs false

def SubL (sl l : List (Nat × AV)) : Prop := ∀ t x, look l t = some x → look sl t = some x
def freeK : List (Nat × AV) → Option Nat → Bool
 | _, none => true
 | [], some _ => true
 | (k, _) :: r, some d => match Nat.beq d k with
  | true => false
  | false => freeK r (some d)
theorem freeK_spec : ∀ {l : List (Nat × AV)} {d : Nat}, freeK l (some d) = true → look l d = none
 | [], d, _ => rfl
 | (k, x) :: r, d, h => by
  simp only [freeK] at h
  rw [look_put]
  split at h
  ·cases h
  ·rename_i hb
   rw [if_neg (fun e => by subst e; rw [Nat.beq_refl] at hb; cases hb)]
   exact freeK_spec h
theorem SubL.refl {l : List (Nat × AV)} : SubL l l := fun _ _ h => h
theorem SubL.put {s : St'} {d : Option Nat} {x : AV} {l : List (Nat × AV)} (hd : freeK l d = true) (h : SubL s.sl l) : SubL (s.put d x).sl l := by
 cases d with
 | none => exact h
 | some d =>
  intro t y hy
  simp only [St'.put, look_put]
  split
  ·rename_i e; subst e; rw [freeK_spec hd] at hy; cases hy
  ·exact h t y hy

section
variable {P : Program} {B : Bs} {W : Nat → Prop} {s s' : St'} {o : Oper} {K : St' → Prop} {Q : Exit → St' → Prop}
def SubJ (vs : List (Nat × AV)) (s s1 : St') : Prop := LeL s1.sl vs ∧ SubL s1.sl s.sl ∧ s1.hp = s.hp ∧ s1.k ≤ s.k
theorem SubJ.intro {vs : List (Nat × AV)} {s1 : St'} (h1 : LeL s1.sl vs) (h2 : SubL s1.sl s.sl) (h3 : s1.hp = s.hp) (h4 : s1.k ≤ s.k) : SubJ vs s s1 := ⟨h1, h2, h3, h4⟩
theorem SubJ.le {vs : List (Nat × AV)} {s1 : St'} (hB : B.Ok) (h : SubJ vs s s1) : Le B s1 ⟨vs ++ s.sl, s.hp, s.k⟩ := fun a w hr => by
 obtain ⟨h1, h2, h3, h4⟩ := h
 have key : SubL s1.sl (vs ++ s.sl) := by
  have : ∀ vs, LeL s1.sl vs → SubL s1.sl (vs ++ s.sl) := by
   intro vs
   induction vs with
   | nil => intro _; exact h2
   | cons p r ih =>
    intro h t x hx
    obtain ⟨k, v⟩ := p
    rw [List.cons_append, look_put] at hx
    split at hx
    ·rename_i e; subst e; cases hx; exact h.1
    ·exact ih h.2 t x hx
  exact this vs h1
 have hr' : R B ⟨vs ++ s.sl, s1.hp, s1.k⟩ a w := hr.drop key (List.Sublist.refl _)
 rw [h3] at hr'
 exact ⟨hr'.slots, hr'.size, hr'.defs, hr'.blocks, hr'.nodup, hr'.chg, hr'.own, hB.up hr'.res h4⟩
theorem capM {cap : Nat} (h : cap ≤ 1000000000000) : cap ≤ maxLen := by unfold maxLen; omega
theorem VA.split {V : Nat → Nat → Prop} {ops : Array Oper} {n : Nat} {L : Array Bool} {t : Nat} {b : Bool} (hb : look s.sl t = some (.v (.bool b))) (h1 : b = true → VA P B V ops Q n L s) (h2 : b = false → VA P B V ops Q n L s) : VA P B V ops Q n L s := by
 cases b with
 | true => exact h1 rfl
 | false => exact h2 rfl
theorem VO.split {ops : Array Oper} {rest : List Oper} {t : Nat} {b : Bool} (hb : look s.sl t = some (.v (.bool b))) (h1 : b = true → VO P B ops rest Q s) (h2 : b = false → VO P B ops rest Q s) : VO P B ops rest Q s := by
 cases b with
 | true => exact h1 rfl
 | false => exact h2 rfl
theorem yielded_undef {ops : Array Oper} {a : Act} {j t : Nat} (hj : (ops[j]?).bind (·.dst) = some t) (hv : a.tmps.getD t undef = undef) : yielded ops a.tmps j = none := by
 unfold yielded
 rw [hj]
 simp only [Option.bind_some]
 rw [Array.getD_eq_getD_getElem?] at hv
 cases ht : a.tmps[t]? with
 | none => rfl
 | some x => rw [ht] at hv; simp at hv; subst hv; rfl
theorem VA.takeU {V : Nat → Nat → Prop} {ops : Array Oper} {n : Nat} {L : Array Bool} {i : Nat} {o : Oper} {j t : Nat} {want : Bool} (hi : ops[i]? = some o) (hs : Region.noSelect ops = true) (hf : Region.free .any ops L i = true) (hr : (Region.ready .any ops L).contains i = true) (hg : o.guard = some (j, want)) (hj : (ops[j]?).bind (·.dst) = some t)
  (hb : look s.sl t = some (.v undef)) (hd : okd B.nt o.dst = true) (h : VA P B V ops Q n (L.setIfInBounds i true) (s.put o.dst (.v undef))) : VA P B V ops Q (n + 1) L s := fun a w hR => by
 have hy : yielded ops a.tmps j = none := yielded_undef hj (hR.slots t _ hb).eq_v
 exact wpAnyE_first (F := Ew B (Wi V ops i)) Ew.tr Ew.rf (fun x => Ew.rf x) Wi.of hi (Region.noSelect_spec hs) n L a w (Region.free_spec hi hf) (by simpa using hr) (.inr ⟨by simp [Region.wanted, hg, hy], rfl⟩) (h _ _ (hR.put _ hd _ _ (.v _)))
theorem OpE.callT' {f : FuncId} {args : Array Operand} {ts : Array TypeId} {xs : List AV} {G : AV → Prop} {c : Nat} (kk : Nat) (hkk : s.k = kk) (ho : o.op = .call { callee := .value (.func f), args := args, argTypes := ts }) (hB : B.Ok) (hd : okd B.nt o.dst = true)
  (hcall : ∀ us w, (callFunc f us).run P w = .ok (.enter f us) w) (hxs : evL s args.toList = some xs) (hspec : SpecT P B.T B.str f xs c G) (hk : kk + c ≤ 1000000) (hK : ∀ y, G y → K ((St'.mk s.sl s.hp (kk + c)).put o.dst y)) : OpE P B W s o K := by
 subst hkk
 exact OpE.callT ho hB hd hcall hxs hspec hk hK
theorem OpE.callF {f : Operand} {F : FuncId} {args : Array Operand} {ts : Array TypeId} {cs xs : List AV} {G : AV → Prop} (ho : o.op = .call { callee := .value f, args := args, argTypes := ts }) (hB : B.Ok) (hd : okd B.nt o.dst = true)
  (hcall : ∀ us w, (callFunc F us).run P w = .ok (.enter F us) w) (hf : evO s f = some (.fn F cs)) (hxs : evL s args.toList = some xs) (hspec : Spec P F (xs ++ cs) G) (hK : ∀ y, G y → K (s.put o.dst y)) : OpE P B W s o K := by
 intro a w hr next Qx hn
 have hfv := hr.ev hf
 generalize hfe : a.eval f = fv at hfv
 cases hfv with
 | fn F cs us hl hcr =>
 have ha := evL_args hr hxs
 have hA : Args w (Zo B s.hp) (xs ++ cs) (args.map a.eval ++ us) := by
  refine ⟨by simp [ha.1, hl], fun j hj => ?_⟩
  by_cases hjx : j < xs.length
  ·rw [List.getElem_append_left hjx]
   have hlt : j < (args.map a.eval).size := by rw [ha.1]; exact hjx
   have : (args.map a.eval ++ us).getD j undef = (args.map a.eval).getD j undef := by
    rw [Array.getD_eq_getD_getElem?, Array.getD_eq_getD_getElem?, Array.getElem?_append_left hlt]
   rw [this]
   exact ha.2 j hjx
  ·rw [List.getElem_append_right (by omega)]
   have hj' : j - xs.length < cs.length := by rw [List.length_append] at hj; omega
   have : (args.map a.eval ++ us).getD j undef = us.getD (j - xs.length) undef := by
    rw [Array.getD_eq_getD_getElem?, Array.getD_eq_getD_getElem?, Array.getElem?_append_right (by rw [ha.1]; omega), ha.1]
   rw [this]
   exact (hcr _ hj').keep fun b hb _ => ⟨rfl, hb.1, hb.2⟩
 have h1 := hspec w _ _ hA
 unfold Oper.wp
 simp only [execOp, ho, resolve, hfe, Deferred.ofValue, Sem.run_bind, Sem.run_pure, Result.andThen_ok, invoke, hcall, Array.empty_append]
 simp only [Oper.upon]
 refine h1.mono fun e w' hret => ?_
 obtain ⟨y, v, h2, rfl, h3, h4, h5⟩ := hret
 have hr' : R B s a w' := hr.stepN hB h4
 exact hn _ _ _ (hK y h2) (hr'.put _ hd _ _ (h3.keep fun b hb hl => ⟨rfl, hr.zret h4 b hb⟩)) (.ofN h4)

theorem infoOf {P : Program} {e : TypeId} {z : Value} (i : TypeInfo) (sz : Nat) (h : P.info? e = some i) (hz : i.zero = some z) (hs : i.size = sz) : (P.info? e).map (fun i => (i.zero, i.size, i.bytes)) = some (some z, sz, i.bytes) := by
 rw [h, ← hs, ← hz]; rfl
theorem ArgsP.nil : ArgsP P B s [] [] := trivial
theorem ArgsP.cons {x : Operand} {v : AV} {r : List Operand} {l : List AV} (h : ArgP P B s x v) (hr : ArgsP P B s r l) : ArgsP P B s (x :: r) (v :: l) := ⟨h, hr⟩
def BndO (s : St') : Option Operand → Nat → Nat → Prop
 | none, d, n => n = d
 | some y, _, n => ∃ k i, evO s y = some (.v (.int k i)) ∧ i = (n : Int)
theorem BndO.run {lo : Option Operand} {d n : Nat} (h : BndO s lo d n) {a : Act} {w : World} (hr : R B s a w) : (lo = none ∧ n = d) ∨ ∃ k, lo.map a.eval = some (.int k n) := by
 cases lo with
 | none => exact .inl ⟨rfl, h⟩
 | some y =>
  obtain ⟨k, i, h1, rfl⟩ := h
  exact .inr ⟨k, by simp [hr.evv h1]⟩
theorem sliceB_run {isS : Bool} {len cap l h : Nat} {lo hi : Option Value} {dl : lo = none ∧ l = 0 ∨ ∃ k, lo = some (.int k l)} {dh : hi = none ∧ h = len ∨ ∃ k, hi = some (.int k h)} (h1 : l ≤ h) (h2 : h ≤ cap) (w : World) :
  (Instr.sliceBounds isS len cap lo hi none).run P w = .ok (l, h, cap) w := by
 rcases dl with ⟨rfl, rfl⟩ | ⟨k, rfl⟩ <;> rcases dh with ⟨rfl, rfl⟩ | ⟨k', rfl⟩
 ·simp [Instr.sliceBounds]
 ·simp [Instr.sliceBounds, Instr.sliceBound, asIntOf, h2]
 ·simp [Instr.sliceBounds, Instr.sliceBound, asIntOf, h1]
 ·simp [Instr.sliceBounds, Instr.sliceBound, asIntOf, h1, h2]
theorem OpV.recast {x y : AV} (h : OpV P B W s o x) (hxy : ∀ w Z u, Rep w Z x u → Rep w Z y u) : OpV P B W s o y := fun a w hr =>
 let ⟨v, h1, h2⟩ := h a w hr
 ⟨v, h1, hxy _ _ _ h2⟩
section
variable {t e sz : Nat} {x : Operand} {lo hi : Option Operand} {l h : Nat}
end
theorem OpV.indexAddr_o {x y : Operand} {t e n g cap q : Nat} {k : IntKind} {i : Int} (ho : o.op = .indexAddr t x y) (hu : P.underlying t = some (.slice e)) (hsz : ∀ w, (sizeOf e).run P w = .ok 1 w)
  (hx : evO s x = some (.v (.slice (some ⟨g, 0, none⟩) n cap))) (hy : evO s y = some (.v (.int k i))) (hq : i = (q : Int)) (h1 : q < n) : OpV P B W s o (.v (.pointer (some ⟨g, q, none⟩))) := by
 subst hq
 have := OpV.indexAddr_v (B := B) (W := W) ho hu hsz hx hy (by omega) (by omega)
 simpa using this
theorem Le.boxI {t i n g cap : Nat} {xs : List Int} {ty : TypeId} {tot : Nat} (hB : B.Ok) (hnew : True) (ht : look s.sl t = some (.v (.slice (some ⟨g, 0, none⟩) n cap))) (hi : s.hp[i]? = some (.box g ⟨intsL xs, ty, tot⟩)) (hn : n = xs.length) (hcap : n ≤ cap) (hm : cap ≤ maxLen) :
  Le B s ⟨(t, avInts xs) :: s.sl, s.hp.eraseIdx i, s.k⟩ :=
 Le.box (n := n) (sz := 1) hB hnew ht hi (by show 0 + n * 1 ≤ (intsL xs).length; rw [intsL_len]; omega) hcap hm fun w Z u h => Rep.ints hn (h.im_congr fun j hj => by rw [Nat.zero_add])
theorem ArgP.boxI {x : Operand} {i n g cap : Nat} {xs : List Int} {ty : TypeId} {tot : Nat} (hx : evO s x = some (.v (.slice (some ⟨g, 0, none⟩) n cap))) (hi : s.hp[i]? = some (.box g ⟨intsL xs, ty, tot⟩)) (hn : n = xs.length) (hcap : n ≤ cap) (hm : cap ≤ maxLen) : ArgP P B s x (avInts xs) :=
 ArgP.box (n := n) (sz := 1) hx hi (by show 0 + n * 1 ≤ (intsL xs).length; rw [intsL_len]; omega) hcap hm fun w Z u h => Rep.ints hn (h.im_congr fun j hj => by rw [Nat.zero_add])
theorem Le.rowI {t i n : Nat} {u : Value} {xs : List Int} {ty : TypeId} (hB : B.Ok) (hnew : True) (ht : look s.sl t = some (.v u)) (hi : s.hp[i]? = some (.row u n 1 (intsL xs) ty)) (hn : n = xs.length) : Le B s ⟨(t, avInts xs) :: s.sl, s.hp.eraseIdx i, s.k⟩ :=
 Le.row hB hnew ht hi fun w Z u h => Rep.ints hn h
theorem ArgP.rowI {x : Operand} {i n : Nat} {u : Value} {xs : List Int} {ty : TypeId} (hx : evO s x = some (.v u)) (hi : s.hp[i]? = some (.row u n 1 (intsL xs) ty)) (hn : n = xs.length) : ArgP P B s x (avInts xs) := ArgP.row hx hi fun w Z u h => Rep.ints hn h
end

def SpecR (P : Program) (F : FuncId) (xs : List AV) (n sz : Nat) (cs : List AV) (ty : TypeId) : Prop :=
 ∀ (w : World) (us : Array Value), Args w (fun _ => True) xs us → Calls P F us w fun e w' => ∃ u, e = .returned u ∧ EntR w' (fun _ => False) (.row u n sz cs ty) ∧ (∀ g, u.ownBlock = some g → w.heap.size ≤ g) ∧ Chg NoB w w'
section
variable {P : Program} {B : Bs} {W : Nat → Prop} {s : St'} {o : Oper} {K : St' → Prop} {a : Act} {w w' : World}
theorem R.newRow (hB : B.Ok) (hr : R B s a w) (hc : Chg NoB w w') {e : Ent} (hb : ∀ g, e.blk = some g → w.heap.size ≤ g) (hE : EntR w' (fun _ => False) e) : R B ⟨s.sl, s.hp ++ [e], s.k⟩ a w' := by
 have hEl := hE.lt
 have hz : ∀ b, Zn B s.hp w b → b < w.heap.size → w'.heap[b]? = w.heap[b]? ∧ Zn B (s.hp ++ [e]) w' b := fun b hb' hl => by
  refine ⟨hc.block b hl fun h => h, Nat.lt_of_lt_of_le hl hc.size, fun p hp => ?_, hb'.2.2⟩
  rcases List.mem_append.1 hp with hp | hp
  ·exact hb'.2.1 p hp
  ·simp at hp; subst hp; intro h; have := hb b h; omega
 have hw0 := hr.chg.size
 refine ⟨fun t x hx => (hr.slots t x hx).keep hz, hr.size, hr.defs, fun p hp => ?_, ?_, ?_, fun p hp g hg => ?_, hB.keep hr.res hc fun j _ h => h⟩
 ·rcases List.mem_append.1 hp with hp | hp
  ·exact (hr.blocks p hp).keep hz fun g hg => hc.block g (hr.lt p hp g hg) fun h => h
  ·simp at hp; subst hp; exact hE.keep (fun b h => h.elim) fun g hg => rfl
 ·refine Apart.of fun i j p q hij hi hj g hg hq => ?_
  by_cases hjl : j < s.hp.length
  ·rw [List.getElem?_append_left (by omega)] at hi
   rw [List.getElem?_append_left hjl] at hj
   exact hr.nodup.get hi hj (by omega) hg hq
  ·have hje : j = s.hp.length := by
    have := (List.getElem?_eq_some_iff.1 hj).1
    simp at this; omega
   rw [hje, List.getElem?_append_right (Nat.le_refl _)] at hj
   simp at hj
   subst hj
   rw [List.getElem?_append_left (by omega)] at hi
   have := hr.lt p (List.mem_of_getElem? hi) g hg
   have := hb g hq
   omega
 ·exact hr.chg.trans (hc.any)
 ·rcases List.mem_append.1 hp with hp | hp
  ·exact hr.own p hp g hg
  ·simp at hp; subst hp
   have := hb g hg
   exact ⟨fun h => by have := hB.low g h; omega, fun h => by omega⟩
theorem OpE.callR {f : FuncId} {args : Array Operand} {ts : Array TypeId} {xs : List AV} {n sz : Nat} {cs : List AV} {ty : TypeId} (ho : o.op = .call { callee := .value (.func f), args := args, argTypes := ts }) (hB : B.Ok) (hd : okd B.nt o.dst = true)
  (hcall : ∀ us w, (callFunc f us).run P w = .ok (.enter f us) w) (hspec : SpecR P f xs n sz cs ty) (hargs : ArgsP P B s args.toList xs) (hK : ∀ u, K ((St'.mk s.sl (s.hp ++ [.row u n sz cs ty]) s.k).put o.dst (.v u))) : OpE P B W s o K := by
 intro a w hr next Qx hn
 have hA : Args w (fun _ => True) xs (args.map a.eval) := by
  obtain ⟨k1, k2⟩ := ArgsP.args hr hargs
  refine ⟨by simpa using k1, fun j hj => ?_⟩
  rw [show (args.map a.eval).getD j undef = (args.toList.map a.eval).getD j undef by rw [Array.getD_eq_getD_getElem?, List.getD_eq_getElem?_getD]; simp]
  exact k2 j hj
 have h1 := hspec w _ hA
 unfold Oper.wp
 simp only [execOp, ho, resolve, Act.eval, Deferred.ofValue, Sem.run_bind, Sem.run_pure, Result.andThen_ok, invoke, hcall, Array.empty_append, Array.append_empty]
 simp only [Oper.upon]
 refine h1.mono fun e w' hret => ?_
 obtain ⟨u, rfl, h3, h4, h5⟩ := hret
 have hr' : R B ⟨s.sl, s.hp ++ [.row u n sz cs ty], s.k⟩ a w' := hr.newRow hB h5 h4 h3
 exact hn _ _ _ (hK u) (hr'.put _ hd _ _ (.v _)) (.ofN h5)
end
section
variable {α : Type} [Inhabited α] [Sxc α]
end
def NewZ (B : Bs) (w : World) : Nat → Prop := fun b => b < w.heap.size ∧ (b < B.w0.heap.size → False)
def ResN (P : Program) (s : St') (r : ResultVar) (x : AV) : Prop := ∀ B a w, (∀ b, ¬ B.S b) → R B s a w → ∃ v, (resRun a.tmps r).run P w = .ok v w ∧ Rep w (NewZ B w) x v
def RetN (P : Program) (fn : Func) (s : St') (y : AV) : Prop := ∀ B a w, (∀ b, ¬ B.S b) → R B s a w → ∃ v, (results fn a.tmps).run P w = .ok v w ∧ Rep w (NewZ B w) y v
def FlatA (cs : List AV) : Prop := ∀ x ∈ cs, ∃ v, x = .v v
theorem flat_ints (xs : List Int) : FlatA (intsL xs) := fun x h => by obtain ⟨n, _, rfl⟩ := List.mem_map.1 h; exact ⟨_, rfl⟩
theorem flat_strs (xs : List ByteArray) : FlatA (strsL xs) := fun x h => by obtain ⟨n, _, rfl⟩ := List.mem_map.1 h; exact ⟨_, rfl⟩
theorem flat_bools (xs : List Bool) : FlatA (boolsL xs) := fun x h => by obtain ⟨n, _, rfl⟩ := List.mem_map.1 h; exact ⟨_, rfl⟩
theorem Rep.flat {w w' : World} {Z Z' : Nat → Prop} {x : AV} {u : Value} (h : Rep w Z x u) (hx : ∃ v, x = .v v) : Rep w' Z' x u := by
 obtain ⟨v, rfl⟩ := hx
 rw [h.eq_v]; exact .v v
section
variable {P : Program} {s : St'} {fn : Func} {r1 r2 r3 r4 : ResultVar} {x1 x2 x3 x4 : AV}
theorem ResN.v {t : Nat} {x : Value} (h : look s.sl t = some (.v x)) : ResN P s (.tmp t) (.v x) := fun B a w hS hr => ⟨_, rfl, (hr.slots t _ h).flat ⟨_, rfl⟩⟩
theorem ResN.row {t i n sz : Nat} {u : Value} {cs : List AV} {ty : TypeId} {y : AV} (h : look s.sl t = some (.v u)) (hi : s.hp[i]? = some (.row u n sz cs ty)) (hf : FlatA cs)
  (hy : ∀ w Z u, Rep w Z (.im n sz fun j => cs.getD j .any) u → Rep w Z y u) : ResN P s (.tmp t) y := fun B a w hS hr => by
 refine ⟨_, rfl, ?_⟩
 have he := List.mem_of_getElem? hi
 show Rep w (NewZ B w) y (a.tmps.getD t undef)
 rw [(hr.slots t _ h).eq_v]
 refine hy _ _ _ ?_
 have hn := fun g hg => hr.isNew hS he (g := g) hg
 obtain ⟨h0, ⟨rfl, rfl⟩ | ⟨g, cap, c, rfl, h1, h2, h3, h4, h5⟩⟩ := hr.blocks _ he
 ·exact .nil _ _
 ·refine .im n sz _ g 0 cap c ty (fun j => c.getD j undef) ⟨(Array.getElem?_eq_some_iff.1 h3).1, fun hl => hn g rfl hl⟩ h1 h2 h3 (fun j hj => ?_) fun j hj => ?_
  ·obtain ⟨x, k1, _⟩ := h5 j (by omega)
   rw [Nat.zero_add]
   exact getD_lt (Array.getElem?_eq_some_iff.1 k1).1
  ·obtain ⟨x, k1, k2⟩ := h5 j (by omega)
   rw [List.getD_eq_getElem?_getD, List.getElem?_eq_getElem (by omega)]
   rw [show c.getD j undef = x by rw [Array.getD_eq_getD_getElem?, k1]; rfl]
   exact k2.flat (hf _ (List.getElem_mem _))
theorem ResN.box {t i n sz g cap : Nat} {o' : Own'} {y : AV} (h : look s.sl t = some (.v (.slice (some ⟨g, 0, none⟩) n cap))) (hi : s.hp[i]? = some (.box g o')) (hl : n * sz ≤ o'.cs.length) (hnc : n ≤ cap) (hm : cap ≤ maxLen) (hf : FlatA o'.cs)
  (hy : ∀ w Z u, Rep w Z (.im n sz fun j => o'.cs.getD j .any) u → Rep w Z y u) : ResN P s (.tmp t) y := fun B a w hS hr => by
 refine ⟨_, rfl, ?_⟩
 have he := List.mem_of_getElem? hi
 show Rep w (NewZ B w) y (a.tmps.getD t undef)
 rw [(hr.slots t _ h).eq_v]
 refine hy _ _ _ ?_
 have hn := hr.isNew hS he (g := g) rfl
 obtain ⟨c, h1, h2, h3, h4⟩ := hr.blocks _ he
 refine .im n sz _ g 0 cap c o'.ty (fun j => c.getD j undef) ⟨(Array.getElem?_eq_some_iff.1 h1).1, fun hl => hn hl⟩ hnc hm h1 (fun j hj => ?_) fun j hj => ?_
 ·obtain ⟨x, k1, _⟩ := h4 j (by omega)
  rw [Nat.zero_add]
  exact getD_lt (Array.getElem?_eq_some_iff.1 k1).1
 ·obtain ⟨x, k1, k2⟩ := h4 j (by omega)
  rw [List.getD_eq_getElem?_getD, List.getElem?_eq_getElem (by omega)]
  rw [show c.getD j undef = x by rw [Array.getD_eq_getD_getElem?, k1]; rfl]
  exact k2.flat (hf _ (List.getElem_mem _))
theorem ResN.rowI {t i n : Nat} {u : Value} {xs : List Int} {ty : TypeId} (h : look s.sl t = some (.v u)) (hi : s.hp[i]? = some (.row u n 1 (intsL xs) ty)) (hn : n = xs.length) : ResN P s (.tmp t) (avInts xs) :=
 ResN.row h hi (flat_ints xs) fun w Z u h => Rep.ints hn h
theorem ResN.boxI {t i n g cap : Nat} {xs : List Int} {ty : TypeId} {tot : Nat} (h : look s.sl t = some (.v (.slice (some ⟨g, 0, none⟩) n cap))) (hi : s.hp[i]? = some (.box g ⟨intsL xs, ty, tot⟩)) (hn : n = xs.length) (hcap : n ≤ cap) (hm : cap ≤ maxLen) : ResN P s (.tmp t) (avInts xs) :=
 ResN.box h hi (by show n * 1 ≤ (intsL xs).length; rw [intsL_len]; omega) hcap hm (flat_ints xs) fun w Z u h => Rep.ints hn h
theorem RetN.one (h : fn.results = #[r1]) (h1 : ResN P s r1 x1) : RetN P fn s x1 := fun B a w hS hr => by
 obtain ⟨v1, k1, q1⟩ := h1 B a w hS hr
 exact ⟨v1, by simp [results_eq, h, k1], q1⟩
theorem RetN.two (h : fn.results = #[r1, r2]) (h1 : ResN P s r1 x1) (h2 : ResN P s r2 x2) : RetN P fn s (.tup [x1, x2]) := fun B a w hS hr => by
 obtain ⟨v1, k1, q1⟩ := h1 B a w hS hr
 obtain ⟨v2, k2, q2⟩ := h2 B a w hS hr
 refine ⟨.tuple #[v1, v2], by simp [results_eq, h, k1, k2], .tup _ _ rfl fun j hj => ?_⟩
 match j, hj with
 | 0, _ => exact q1
 | 1, _ => exact q2
end
def retN (P : Program) (fn : Func) (G : AV → Prop) (e : Exit) (s : St') : Prop :=
 match e with
 | .normal => ∃ y, RetN P fn s y ∧ G y
 | .ret => ∃ y, RetN P fn s y ∧ G y
 | _ => False
theorem SpecN.of_VCN {P : Program} {F : FuncId} {fn : Func} {c : Code} (hf : P.funcs[F]? = some fn) (hb : fn.body = some c) {xs : List AV} {G : AV → Prop} {nt : Nat} (hn : fn.ntmps = nt) (hle : xs.length ≤ nt)
  (h : ∀ w A, (B0 w A nt).Ok → VC P (B0 w A nt) c (retN P fn G) ⟨slots0 0 xs, [], 0⟩) : SpecN P F xs G := fun w us ha => by
 subst hn
 have hus : us.size ≤ fn.ntmps := by rw [ha.1]; exact hle
 have hS : ∀ b, ¬ (B0 w (fun _ => True) fn.ntmps).S b := fun _ h => h
 refine calls_of_wp hf hb (Code.wp_mono (fun e a w' hq => ?_) (h w (fun _ => True) (B0.ok _ _ _) _ w (by
  have := R.start (B := B0 w (fun _ => True) fn.ntmps) (k := 0) rfl ha (fun _ h => h.elim) trivial (by show fn.ntmps = us.size + (fn.ntmps - us.size); omega)
  exact this)))
 obtain ⟨s, hq, hr⟩ := hq
 cases e with
 | normal =>
  obtain ⟨y, h1, h2⟩ := hq
  obtain ⟨v, h3, h4⟩ := h1 _ a w' hS hr
  exact ⟨hr.defs, v, h3, y, v, h2, rfl, h4, hr.chg, trivial⟩
 | ret =>
  obtain ⟨y, h1, h2⟩ := hq
  obtain ⟨v, h3, h4⟩ := h1 _ a w' hS hr
  exact ⟨hr.defs, v, h3, y, v, h2, rfl, h4, hr.chg, trivial⟩
 | exit id => exact hq.elim
 | goto l => exact hq.elim
 | panic c => exact hq.elim
 | outgrown => exact hq.elim
end Go.Proofs.Ytmahammdnmmmoaa
namespace Go.Proofs.Ytmahammdnmmmoaa
open Go.RowKit
set_option linter.unusedVariables false
set_option linter.unusedSimpArgs false

section
variable {P : Program} {B : Bs} {W : Nat → Prop} {s : St'} {o : Oper} {K : St' → Prop} {Q : Exit → St' → Prop} {a : Act} {w : World}
theorem R.perm (hr : R B s a w) {hp : List Ent} (h : s.hp.Perm hp) : R B ⟨s.sl, hp, s.k⟩ a w := by
 have hm : ∀ p, p ∈ hp ↔ p ∈ s.hp := fun p => (h.mem_iff).symm
 have hZ : ∀ b, Zn B s.hp w b → Zn B hp w b := fun b hb => ⟨hb.1, fun p hp => hb.2.1 p ((hm p).1 hp), hb.2.2⟩
 refine ⟨fun t x hx => (hr.slots t x hx).keep fun b hb _ => ⟨rfl, hZ b hb⟩, hr.size, hr.defs, fun p hp => ?_, ?_, hr.chg, fun p hp g hg => hr.own p ((hm p).1 hp) g hg, hr.res⟩
 ·exact (hr.blocks p ((hm p).1 hp)).keep (fun b hb _ => ⟨rfl, hZ b hb⟩) fun g _ => rfl
 ·refine (h.pairwise_iff ?_).1 hr.nodup
  intro p q hpq g hg hq
  exact hpq g hq hg
theorem Le.perm {hp : List Ent} (h : s.hp.Perm hp) : Le B s ⟨s.sl, hp, s.k⟩ := fun a w hr => hr.perm h
theorem Le.mkP {sl : List (Nat × AV)} {hp hp1 : List Ent} {k : Nat} (hB : B.Ok) (h1 : LeL s.sl sl) (h2 : hp1.Sublist s.hp) (h3 : hp1.Perm hp) (hk : s.k ≤ k) : Le B s ⟨sl, hp, k⟩ := fun a w hr => by
 have hr1 : R B ⟨sl, hp1, s.k⟩ a w := hr.drop (LeL.look h1) h2
 have hr2 : R B ⟨sl, hp, s.k⟩ a w := hr1.perm h3
 exact ⟨hr2.slots, hr2.size, hr2.defs, hr2.blocks, hr2.nodup, hr2.chg, hr2.own, hB.up hr2.res hk⟩
theorem R.rowIs (hr : R B s a w) {i n sz : Nat} {u : Value} {cs : List AV} {ty : TypeId} (hi : s.hp[i]? = some (.row u n sz cs ty)) : ∃ b c, u = .slice b n c := by
 obtain ⟨_, ⟨rfl, rfl⟩ | ⟨g, cap, c, rfl, _⟩⟩ := hr.blocks _ (List.mem_of_getElem? hi)
 ·exact ⟨none, 0, rfl⟩
 ·exact ⟨_, cap, rfl⟩
end
end Go.Proofs.Ytmahammdnmmmoaa
namespace Go.Proofs.Ytmahammdnmmmoaa
open Go.RowKit
set_option linter.unusedVariables false
set_option linter.unusedSimpArgs false

def BlkL (hp : List Ent) (b : Nat) : Prop := ∃ e ∈ hp, e.blk = some b
def Zh (w : World) (A : Nat → Prop) (hp hp' : List Ent) (w' : World) : Nat → Prop := fun b => b < w'.heap.size ∧ ¬ BlkL hp' b ∧ (b < w.heap.size → A b ∨ BlkL hp b)
def SpecH (P : Program) (F : FuncId) (xs : List AV) (hp : List Ent) (G : AV → List Ent → Prop) : Prop :=
 ∀ (w : World) (A : Nat → Prop) (us : Array Value), Args w A xs us → Apart hp → (∀ b, BlkL hp b → ¬ A b) → (∀ e ∈ hp, EntR w (fun b => b < w.heap.size ∧ A b) e) →
  Calls P F us w fun e w' => ∃ y v hp', G y hp' ∧ e = .returned v ∧ Apart hp' ∧ Rep w' (Zh w A hp hp' w') y v ∧ (∀ e ∈ hp', EntR w' (Zh w A hp hp' w') e) ∧
   (∀ b, BlkL hp' b → b < w.heap.size → BlkL hp b) ∧ Chg (BlkL hp) w w'

theorem SpecH.mono {P : Program} {F : FuncId} {xs : List AV} {hp : List Ent} {G G' : AV → List Ent → Prop} (h : SpecH P F xs hp G) (hg : ∀ y hp', G y hp' → G' y hp') : SpecH P F xs hp G' := fun w A us h1 h2 h3 h4 =>
 (h w A us h1 h2 h3 h4).mono fun e w' ⟨y, v, hp', k1, k2⟩ => ⟨y, v, hp', hg _ _ k1, k2⟩

theorem SpecN.ofRow {P : Program} {F : FuncId} {xs : List AV} {n sz : Nat} {cs : List AV} {ty : TypeId} {Y : AV} (h : SpecH P F xs [] fun y hp' => ∃ u, y = .v u ∧ hp' = [.row u n sz cs ty]) (hf : FlatA cs)
    (hy : ∀ w Z u, Rep w Z (.im n sz fun j => cs.getD j .any) u → Rep w Z Y u) : SpecN P F xs fun y => y = Y := fun w us ha =>
  (h w (fun _ => True) us ha List.Pairwise.nil (fun b ⟨e, he, _⟩ => by cases he) (fun e he => by cases he)).mono fun e w' ⟨y, v, hp', ⟨u, h1, h2⟩, h3, h4, h5, h6, h7, h8⟩ => by
    subst h1; subst h2; subst h3
    have hv := h5.eq_v
    subst hv
    refine ⟨Y, _, rfl, rfl, hy _ _ _ ?_, h8.mono fun b _ ⟨e, he, _⟩ => (by cases he), trivial⟩
    have hE := h6 _ (List.mem_cons_self ..)
    obtain ⟨h0, ⟨rfl, rfl⟩ | ⟨g, cap, c, rfl, k1, k2, k3, k4, k5⟩⟩ := hE
    · exact .nil _ _
    · refine .im n sz _ g 0 cap c ty (fun j => c.getD j undef) ⟨(Array.getElem?_eq_some_iff.1 k3).1, fun hl => ?_⟩ k1 k2 k3 (fun j hj => ?_) fun j hj => ?_
      · obtain ⟨e, he, _⟩ := h7 g ⟨_, List.mem_cons_self .., rfl⟩ hl
        cases he
      · obtain ⟨x, q1, _⟩ := k5 j (by omega)
        rw [Nat.zero_add]
        exact getD_lt (Array.getElem?_eq_some_iff.1 q1).1
      · obtain ⟨x, q1, q2⟩ := k5 j (by omega)
        rw [List.getD_eq_getElem?_getD, List.getElem?_eq_getElem (by omega)]
        rw [show c.getD j undef = x by rw [Array.getD_eq_getD_getElem?, q1]; rfl]
        obtain ⟨v, hv⟩ := hf _ (List.getElem_mem (by omega : j < cs.length))
        simp only [Option.getD_some]
        rw [hv] at q2 ⊢
        rw [q2.eq_v]
        exact .v _
def Bh (w : World) (A : Nat → Prop) (nt : Nat) (hp : List Ent) : Bs := ⟨w, BlkL hp, A, nt, NoB, NoB, fun _ _ => True⟩
theorem Bh.ok (w : World) (A : Nat → Prop) (nt : Nat) (hp : List Ent) : (Bh w A nt hp).Ok := ⟨fun _ _ _ => trivial, fun _ h => h.elim, fun _ h => h.elim, fun _ _ => trivial⟩

theorem R.startH {w : World} {A : Nat → Prop} {nt : Nat} {hp : List Ent} {xs : List AV} {us : Array Value} (hA : Args w A xs us) (h1 : Apart hp) (h2 : ∀ b, BlkL hp b → ¬ A b) (h3 : ∀ e ∈ hp, EntR w (fun b => b < w.heap.size ∧ A b) e) (hn : nt = us.size + (nt - us.size)) :
  R (Bh w A nt hp) ⟨slots0 0 xs, hp, 0⟩ { tmps := us ++ Array.replicate (nt - us.size) undef, defers := [] } w := by
 have hZ : ∀ b, (b < w.heap.size ∧ A b) → Zn (Bh w A nt hp) hp w b := fun b hb => ⟨hb.1, fun p hp' hpb => h2 b ⟨p, hp', hpb⟩ hb.2, fun _ => ⟨.inl hb.2, fun h => h⟩⟩
 refine ⟨fun t x ht => ?_, by simp [Bh]; omega, rfl, fun p hp' => (h3 p hp').keep (fun b hb _ => ⟨rfl, hZ b hb⟩) fun g _ => rfl, h1, Chg.refl _ _, fun p hp' g hg => ⟨fun h => h, fun _ => ⟨p, hp', hg⟩⟩, trivial⟩
 obtain ⟨⟨_, k2⟩, k3⟩ := slots0_look xs 0 t x ht
 simp at k2 k3
 have hlt : t < us.size := by rw [hA.1]; exact k2
 have := hA.2 t k2
 rw [k3] at this
 rw [show (us ++ Array.replicate (nt - us.size) undef).getD t undef = us.getD t undef by
  rw [Array.getD_eq_getD_getElem?, Array.getD_eq_getD_getElem?, Array.getElem?_append_left hlt]]
 exact this.keep fun b hb _ => ⟨rfl, hZ b hb⟩

theorem SpecH.of_VC {P : Program} {F : FuncId} {fn : Func} {c : Code} (hf : P.funcs[F]? = some fn) (hb : fn.body = some c) {xs : List AV} {hp : List Ent} {G : AV → List Ent → Prop} {nt : Nat} (hn : fn.ntmps = nt) (hle : xs.length ≤ nt)
  (h : ∀ w A, (Bh w A nt hp).Ok → VC P (Bh w A nt hp) c (retS P fn fun y s => G y s.hp) ⟨slots0 0 xs, hp, 0⟩) : SpecH P F xs hp G := fun w A us ha h1 h2 h3 => by
 have hus : us.size ≤ fn.ntmps := by rw [ha.1, hn]; exact hle
 refine calls_of_wp hf hb (Code.wp_mono (fun e a w' hq => ?_) (h w A (Bh.ok _ _ _ _) _ w (by
  have := R.startH (nt := nt) ha h1 h2 h3 (by omega)
  rwa [hn])))
 obtain ⟨s, hq, hr⟩ := hq
 have key : ∀ y v, G y s.hp → Rep w' (Zn (Bh w A nt hp) s.hp w') y v → ∃ y v' hp', G y hp' ∧ Ending.returned v = .returned v' ∧ Apart hp' ∧ Rep w' (Zh w A hp hp' w') y v' ∧ (∀ e ∈ hp', EntR w' (Zh w A hp hp' w') e) ∧
   (∀ b, BlkL hp' b → b < w.heap.size → BlkL hp b) ∧ Chg (BlkL hp) w w' := fun y v hG hv => by
  have hZ : ∀ b, Zn (Bh w A nt hp) s.hp w' b → Zh w A hp s.hp w' b := fun b hb => ⟨hb.1, fun ⟨p, hp1, hp2⟩ => hb.2.1 p hp1 hp2, fun hl => (hb.2.2 hl).1⟩
  exact ⟨y, v, s.hp, hG, rfl, hr.nodup, hv.keep fun b hb _ => ⟨rfl, hZ b hb⟩, fun p hp' => (hr.blocks p hp').keep (fun b hb _ => ⟨rfl, hZ b hb⟩) fun g _ => rfl, fun b ⟨p, hp1, hp2⟩ hl => (hr.own p hp1 b hp2).2 hl, hr.chg⟩
 cases e with
 | normal =>
  obtain ⟨y, k1, k2⟩ := hq
  obtain ⟨v, k3, k4⟩ := k1 _ a w' hr
  exact ⟨hr.defs, v, k3, key y v k2 k4⟩
 | ret =>
  obtain ⟨y, k1, k2⟩ := hq
  obtain ⟨v, k3, k4⟩ := k1 _ a w' hr
  exact ⟨hr.defs, v, k3, key y v k2 k4⟩
 | exit id => exact hq.elim
 | goto l => exact hq.elim
 | panic c => exact hq.elim
 | outgrown => exact hq.elim

section
variable {P : Program} {B : Bs} {W : Nat → Prop} {s : St'} {o : Oper} {K : St' → Prop} {a : Act} {w w' : World}
theorem BlkL.append {hp hp2 : List Ent} {b : Nat} : BlkL (hp ++ hp2) b ↔ BlkL hp b ∨ BlkL hp2 b := by
 constructor
 ·rintro ⟨e, he, hb⟩
  rcases List.mem_append.1 he with he | he
  ·exact .inl ⟨e, he, hb⟩
  ·exact .inr ⟨e, he, hb⟩
 ·rintro (⟨e, he, hb⟩ | ⟨e, he, hb⟩)
  ·exact ⟨e, List.mem_append_left _ he, hb⟩
  ·exact ⟨e, List.mem_append_right _ he, hb⟩

theorem R.afterH (hB : B.Ok) {hp rest hp' : List Ent} (hr : R B ⟨s.sl, hp ++ rest, s.k⟩ a w) (hap : Apart hp') (hE : ∀ e ∈ hp', EntR w' (Zh w (Zo B (hp ++ rest)) hp hp' w') e) (hbl : ∀ b, BlkL hp' b → b < w.heap.size → BlkL hp b) (hc : Chg (BlkL hp) w w') :
  R B ⟨s.sl, hp' ++ rest, s.k⟩ a w' ∧ ∀ b, Zh w (Zo B (hp ++ rest)) hp hp' w' b → Zn B (hp' ++ rest) w' b := by
 have hcross : ∀ p ∈ hp, ∀ q ∈ rest, ∀ g, p.blk = some g → q.blk ≠ some g := by
  have := hr.nodup
  unfold Apart at this
  rw [List.pairwise_append] at this
  exact this.2.2
 have hnr : ∀ b, BlkL rest b → ¬ BlkL hp b := fun b ⟨q, hq, hqb⟩ ⟨p, hp1, hpb⟩ => hcross p hp1 q hq b hpb hqb
 have hlt : ∀ b, BlkL rest b → b < w.heap.size := fun b ⟨q, hq, hqb⟩ => hr.lt q (List.mem_append_right _ hq) b hqb
 have hnr' : ∀ b, BlkL rest b → ¬ BlkL hp' b := fun b h1 h2 => hnr b h1 (hbl b h2 (hlt b h1))
 have hw0 := hr.chg.size
 have hownp : ∀ b, BlkL hp b → ¬ B.low b ∧ (b < B.w0.heap.size → B.S b) := fun b ⟨p, hp1, hpb⟩ => hr.own p (List.mem_append_left _ hp1) b hpb
 have hz1 : ∀ b, Zn B (hp ++ rest) w b → b < w.heap.size → w'.heap[b]? = w.heap[b]? ∧ Zn B (hp' ++ rest) w' b := fun b hb hl => by
  have n1 : ¬ BlkL (hp ++ rest) b := fun ⟨p, hp1, hpb⟩ => hb.2.1 p hp1 hpb
  have n2 : ¬ BlkL hp b := fun h => n1 (BlkL.append.2 (.inl h))
  refine ⟨hc.block b hl n2, Nat.lt_of_lt_of_le hl hc.size, fun p hp1 hpb => ?_, hb.2.2⟩
  rcases List.mem_append.1 hp1 with h | h
  ·exact n2 (hbl b ⟨p, h, hpb⟩ hl)
  ·exact n1 (BlkL.append.2 (.inr ⟨p, h, hpb⟩))
 have hz2 : ∀ b, Zh w (Zo B (hp ++ rest)) hp hp' w' b → Zn B (hp' ++ rest) w' b := fun b hb => by
  refine ⟨hb.1, fun p hp1 hpb => ?_, fun h0 => ?_⟩
  ·rcases List.mem_append.1 hp1 with h | h
   ·exact hb.2.1 ⟨p, h, hpb⟩
   ·have hr1 : BlkL rest b := ⟨p, h, hpb⟩
    rcases hb.2.2 (hlt b hr1) with h' | h'
    ·exact h'.1 p (List.mem_append_right _ h) hpb
    ·exact hnr b hr1 h'
  ·rcases hb.2.2 (Nat.lt_of_lt_of_le h0 hw0) with h' | h'
   ·exact h'.2 h0
   ·obtain ⟨k1, k2⟩ := hownp b h'
    exact ⟨.inr (k2 h0), fun hs => k1 (hB.str b hs).1⟩
 refine ⟨⟨fun t x hx => (hr.slots t x hx).keep hz1, hr.size, hr.defs, fun p hp1 => ?_, ?_, ?_, fun p hp1 g hg => ?_, hB.keep hr.res hc fun j hj h => (hownp j h).1 hj⟩, hz2⟩
 ·rcases List.mem_append.1 hp1 with h | h
  ·exact (hE p h).keep (fun b hb _ => ⟨rfl, hz2 b hb⟩) fun g _ => rfl
  ·exact (hr.blocks p (List.mem_append_right _ h)).keep hz1 fun g hg => hc.block g (hlt g ⟨p, h, hg⟩) (hnr g ⟨p, h, hg⟩)
 ·have hn := hr.nodup
  unfold Apart at hn ⊢
  rw [List.pairwise_append] at hn ⊢
  exact ⟨hap, hn.2.1, fun p hp1 q hq g hpg hqg => hnr' g ⟨q, hq, hqg⟩ ⟨p, hp1, hpg⟩⟩
 ·exact ((hr.chg.mono (S' := fun b => B.S b ∨ BlkL hp b) fun b _ h => .inl h).trans (hc.mono fun b _ h => .inr h)).mono fun b hb0 h => h.elim id fun h => (hownp b h).2 hb0
 ·rcases List.mem_append.1 hp1 with h | h
  ·by_cases hl : g < w.heap.size
   ·exact hownp g (hbl g ⟨p, h, hg⟩ hl)
   ·exact ⟨fun hlow => hl (Nat.lt_of_lt_of_le (hB.low g hlow) hw0), fun h0 => absurd (Nat.lt_of_lt_of_le h0 hw0) hl⟩
  ·exact hr.own p (List.mem_append_right _ h) g hg

theorem OpE.callH {f : Operand} {F : FuncId} {caps : Array Value} {args : Array Operand} {ts : Array TypeId} {xs : List AV} {hp rest : List Ent} {G : AV → List Ent → Prop} (ho : o.op = .call { callee := .value f, args := args, argTypes := ts }) (hB : B.Ok) (hd : okd B.nt o.dst = true)
  (hcall : ∀ us w, (callFunc F us).run P w = .ok (.enter F us) w) (hf : evO s f = some (.v (.func (.func F) #[] caps))) (hxs : evL s args.toList = some xs) (hspec : SpecH P F (xs ++ caps.toList.map .v) hp G) (hsp : s.hp.Perm (hp ++ rest)) (hW : ∀ b, BlkL hp b → W b)
  (hK : ∀ y hp', G y hp' → K ((St'.mk s.sl (hp' ++ rest) s.k).put o.dst y)) : OpE P B W s o K := by
 intro a w hr next Qx hn
 have hr1 := hr.perm hsp
 have hA : Args w (Zo B (hp ++ rest)) (xs ++ caps.toList.map .v) (args.map a.eval ++ caps) := by
  have ha := evL_args hr hxs
  have hZo : ∀ b, Zo B s.hp b → Zo B (hp ++ rest) b := fun b hb => ⟨fun p hp1 => hb.1 p (hsp.mem_iff.2 hp1), hb.2⟩
  refine ⟨by simp [ha.1], fun j hj => ?_⟩
  by_cases hjx : j < xs.length
  ·rw [List.getElem_append_left hjx]
   have hlt : j < (args.map a.eval).size := by rw [ha.1]; exact hjx
   have : (args.map a.eval ++ caps).getD j undef = (args.map a.eval).getD j undef := by
    rw [Array.getD_eq_getD_getElem?, Array.getD_eq_getD_getElem?, Array.getElem?_append_left hlt]
   rw [this]
   exact (ha.2 j hjx).keep fun b hb _ => ⟨rfl, hb.1, hZo b hb.2⟩
  ·rw [List.getElem_append_right (by omega)]
   have hj' : j - xs.length < caps.size := by rw [List.length_append] at hj; simp at hj; omega
   have : (args.map a.eval ++ caps).getD j undef = caps.getD (j - xs.length) undef := by
    rw [Array.getD_eq_getD_getElem?, Array.getD_eq_getD_getElem?, Array.getElem?_append_right (by rw [ha.1]; omega), ha.1]
   rw [this, Array.getD_eq_getD_getElem?, Array.getElem?_eq_getElem hj']
   simp
   exact .v _
 have hap := hr1.nodup
 unfold Apart at hap
 rw [List.pairwise_append] at hap
 have h1 := hspec w (Zo B (hp ++ rest)) _ hA hap.1 (fun b ⟨p, hp1, hpb⟩ h => h.1 p (List.mem_append_left _ hp1) hpb) fun e he => (hr1.blocks e (List.mem_append_left _ he)).keep (fun b hb _ => ⟨rfl, hb.1, hb.2⟩) fun g _ => rfl
 unfold Oper.wp
 simp only [execOp, ho, resolve, hr.evv hf, Deferred.ofValue, Sem.run_bind, Sem.run_pure, Result.andThen_ok, invoke, hcall, Array.empty_append]
 simp only [Oper.upon]
 refine h1.mono fun e w' hret => ?_
 obtain ⟨y, v, hp', k1, rfl, k2, k3, k4, k5, k6⟩ := hret
 obtain ⟨hr', hz⟩ := hr1.afterH hB k2 k4 k5 k6
 exact hn _ _ _ (hK y hp' k1) (hr'.put _ hd _ _ (k3.keep fun b hb _ => ⟨rfl, hz b hb⟩)) (k6.mono fun b _ h => .inr (hW b h))
theorem OpE.callH0 {f : Operand} {F : FuncId} {caps : Array Value} {args : Array Operand} {ts : Array TypeId} {xs : List AV} {hp : List Ent} {G : AV → List Ent → Prop} (ho : o.op = .call { callee := .value f, args := args, argTypes := ts }) (hB : B.Ok) (hd : okd B.nt o.dst = true)
  (hcall : ∀ us w, (callFunc F us).run P w = .ok (.enter F us) w) (hf : evO s f = some (.v (.func (.func F) #[] caps))) (hxs : evL s args.toList = some xs) (hspec : SpecH P F (xs ++ caps.toList.map .v) hp G) (hsp : s.hp.Perm hp) (hW : ∀ b, BlkL hp b → W b)
  (hK : ∀ y hp', G y hp' → K ((St'.mk s.sl hp' s.k).put o.dst y)) : OpE P B W s o K :=
 OpE.callH (rest := []) ho hB hd hcall hf hxs hspec (by rw [List.append_nil]; exact hsp) hW fun y hp' h => by rw [List.append_nil]; exact hK y hp' h
end
section
variable {P : Program} {B : Bs} {s : St'} {Q : Exit → St' → Prop}
theorem VC.sr {id : Nat} {l : List Oper} {y : Code} (h : VO P B l.toArray l (thenQ (VC P B y Q) Q) s) : VC P B (.seq (.region id l.toArray false) y) Q s := VC.seq (VC.region h)
theorem VO.mv {ops : Array Oper} {rest : List Oper} {o : Oper} {x : Operand} {v : AV} (hg : o.guard = none) (hd : okd B.nt o.dst = true) (ho : o.op = .move x) (hx : evO s x = some v) (hK : VO P B ops rest Q (s.put o.dst v)) : VO P B ops (o :: rest) Q s := VO.val hg hd (OpV.move (.inl ho) hx) hK
theorem VO.ma {ops : Array Oper} {rest : List Oper} {o : Oper} {x : Operand} {v : AV} (hg : o.guard = none) (hd : okd B.nt o.dst = true) (ho : o.op = .assign x) (hx : evO s x = some v) (hK : VO P B ops rest Q (s.put o.dst v)) : VO P B ops (o :: rest) Q s := VO.val hg hd (OpV.move (.inr ho) hx) hK
end
theorem qqT {p : Prop} [Decidable p] : (decide p = true) = p := decide_eq_true_eq
theorem qqF {p : Prop} [Decidable p] : decide p = false ↔ ¬p := decide_eq_false_iff_not
theorem qqN (b : Bool) : ((!b) = true) = (b = false) := Bool.not_eq_true' b
theorem qqM (b : Bool) : ((!b) = false) = (b = true) := Bool.not_eq_false' b
theorem qqL {a b : Int} : ¬a < b ↔ b ≤ a := Int.not_lt
theorem qqE {a b : Int} : ¬a ≤ b ↔ b < a := Int.not_le
theorem Nle {a b : Nat} (h : Nat.ble a b = true) : a ≤ b := Nat.le_of_ble_eq_true h
end Go.Proofs.Ytmahammdnmmmoaa
namespace Go.Proofs.Ytmahammdnmmmoaa
open Go.RowKit
set_option linter.unusedVariables false
set_option linter.unusedSimpArgs false

theorem isSl_of_rep {w : World} {Z : Nat → Prop} {xs : List Int} {v : Value} (h : Rep w Z (avInts xs) v) : IsSl w Z v xs := by
 change Rep w Z (.im xs.length 1 fun j => avI (xs.getD j 0)) v at h
 generalize hn : xs.length = n at h
 cases h with
 | nil => exact .inl ⟨rfl, List.eq_nil_of_length_eq_zero hn⟩
 | im n sz f b off cap c e u hZ h1 h2 hb hc hr =>
  refine .inr ⟨b, off, cap, c, e, by rw [hn], hZ, by omega, h2, hb, fun i hi => ?_⟩
  show c[off + i * 1 + 0]? = some (.int .i64 xs[i])
  have k1 := hc i (by omega)
  have k2 := (hr i (by omega)).eq_v
  rw [k2] at k1
  simpa [hi] using k1
theorem rep_of_isSl {w : World} {A : Nat → Prop} {v : Value} {xs : List Int} (h : IsSl w A v xs) : Rep w A (avInts xs) v := by
 rcases h with ⟨rfl, rfl⟩ | ⟨b, off, cap, c, e, rfl, hb, hl, hm, hh, hi⟩
 ·exact .nil _ _
 ·refine .im _ 1 _ b off cap c e (fun j => .int .i64 (xs.getD j 0)) hb hl hm hh (fun j hj => ?_) fun j hj => .v _
  have : c[off + j * 1 + 0]? = some (.int .i64 (xs[j]'(by omega))) := hi j (by omega)
  have hj' : j < xs.length := by omega
  simpa [hj'] using this
theorem argsLLv {x y : AV} {u : Value} {w : World} {A : Nat → Prop} {us : Array Value} (h : Args w A [x, y, .v u] us) : ∃ v1 v2, us = #[v1, v2, u] ∧ Rep w (fun b => b < w.heap.size ∧ A b) x v1 ∧ Rep w (fun b => b < w.heap.size ∧ A b) y v2 := by
 obtain ⟨h1, h2⟩ := h
 have e2 := (h2 2 (by simp)).eq_v
 refine ⟨us.getD 0 undef, us.getD 1 undef, ?_, h2 0 (by simp), h2 1 (by simp)⟩
 apply Array.ext (by simpa using h1)
 intro i hi hi'
 simp at hi'
 rw [h1] at hi
 match i, hi' with
 | 0, _ => simp [Array.getD_eq_getD_getElem?, h1]
 | 1, _ => simp [Array.getD_eq_getD_getElem?, h1]
 | 2, _ => simpa [Array.getD_eq_getD_getElem?, h1] using e2
theorem argsL {x : AV} {w : World} {A : Nat → Prop} {us : Array Value} (h : Args w A [x] us) : ∃ v1, us = #[v1] ∧ Rep w (fun b => b < w.heap.size ∧ A b) x v1 := by
 obtain ⟨h1, h2⟩ := h
 refine ⟨us.getD 0 undef, ?_, h2 0 (by simp)⟩
 apply Array.ext (by simpa using h1)
 intro i hi hi'
 simp at hi'
 subst hi'
 simp [Array.getD_eq_getD_getElem?, h1]
end Go.Proofs.Ytmahammdnmmmoaa
namespace Go.Proofs.Ytmahammdnmmmoaa
open Go.RowKit
set_option linter.unusedVariables false
set_option linter.unusedSimpArgs false
theorem leaves_mov {c bf : List Int} (hr : RightLine c bf) (q : Nat) : (pas c bf q (c.length - 1)).left = (mov c bf q (c.length - 1)).left :=
 (pas_mov hr q (c.length - 1) (by have := hr.pos; omega)).2

set_option maxHeartbeats 1000000 in
theorem leaveOf_any (v1 v2 : Value) (c bf : List Int) (m : Nat) (A1 A2 : Nat → Prop) (w : World) (h1 : IsSl w A1 v1 c) (h2 : IsSl w A2 v2 bf) (hr : RightLine c bf) (hm : m ≤ 2000) :
  Calls Try.prog 26 #[v1, v2, .int .i64 m] w fun e w' => ∃ v, e = .returned v ∧ IsSl w' (fun k => w.heap.size ≤ k) v (leaves c bf m) ∧ Chg NoB w w' := by
 have HM := hid (moves_any v1 v2 c bf m A1 A2 w h1 h2 hr hm)
 have hpos := hr.pos
 have hlen := hr.len
 have HR := hid hr; clear hr
 go_enter Try.func26, Try.ntmps26
 go_wp2_with fail
 refine HM.out.mono ?_
 rintro e w2 ⟨V, rfl, hv, hc2⟩
 have hz := hv 2 (by omega)
 clear hv
 generalize V 0 = u0
 generalize V 1 = u1
 generalize V 2 = u2 at hz ⊢
 obtain ⟨a, cap, rfl, g1, g2⟩ := hz.shape
 simp only [List.length_map, List.length_range] at hz g1 ⊢
 have hsz2 := hc2.size
 go_wp2_with fail
 go_loopw [10, 12, 23] (fun v _ i wr => ∃ (j : Nat), j ≤ m ∧ i = .int .i64 j ∧ Own wr w2.heap.size 3 v ((List.range j).map fun q => (mov c bf q (c.length - 1)).left) ∧ Chg (NewB w2.heap.size) w2 wr)
  (fun _ _ i _ => m - (intOf i).toNat)
 case atStart => exact ⟨0, by omega, rfl, Own.nil _ _ _, Chg.refl _ _⟩
 case round =>
  obtain ⟨j, hj, rfl, hown, hch⟩ := hrel
  have hszr := hch.size
  by_cases hjm : j < m
  ·obtain ⟨b, off, rfl, hb, hrows⟩ := hz.rows (by simp; omega)
   obtain ⟨vr, hcell0, hrow⟩ := hrows j (by simp; omega)
   obtain ⟨ar, capr, rfl, g3, g4⟩ := hrow.shape
   simp only [List.getElem_map, List.getElem_range, movR_len] at hcell0 hrow g3
   have hcell := hch.cellNew (Nat.le_refl _) hcell0
   obtain ⟨br, offr, rfl, _, hps⟩ := hrow.ints (by rw [movR_len]; exact hpos)
   have p0 := hch.cellNew (Nat.le_refl _) (hps (c.length - 1) (by rw [movR_len]; omega))
   have e1 : (movR c bf 2 j)[c.length - 1]'(by rw [movR_len]; omega) = (mov c bf j (c.length - 1)).left := by simp [movR]
   rw [e1] at p0
   obtain ⟨X, hX⟩ : ∃ X, X = (mov c bf j (c.length - 1)).left := ⟨_, rfl⟩
   rw [← hX] at p0
   have HX := hid hX
   clear hX e1 hps hrows hcell0
   obtain ⟨av, capv, hv', _, _⟩ := hown.shape
   simp only [List.length_map, List.length_range] at hv'
   subst hv'
   go_wp2_with (at_builtin; refine wpl_append_intB wr rfl _ _ 22 3 rfl Try.underlying22 infoInt w2.heap.size _ _ _ hown (by omega) (by simp; omega) _ rfl j (by simp) rfl rfl ?_; intro g cap' w3 hown3 hc3 hg3 hlg)
   have hc23 : Chg (NewB w2.heap.size) w2 w3 := hch.trans (hc3.mono fun q hq x => (hown.lt q x).1)
   go_roundw
   case rel => exact ⟨j + 1, by omega, by go_num, by rw [List.range_succ, List.map_append]; simpa [HX.out] using hown3, hc23⟩
   case measure => simp [intOf]; omega
  ·obtain rfl : j = m := by omega
   have hL : leaves c bf j = (List.range j).map fun q => (mov c bf q (c.length - 1)).left := by
    unfold leaves; congr 1; funext q; exact leaves_mov HR.out q
   have HL := hid hL; clear hL
   go_wp2_with fail
   go_ret
   exact ⟨_, rfl, by rw [HL.out]; exact hown.isSl.low fun q hq _ => by omega, hc2.trans (hch.mono fun q h1 h2 => by unfold NewB at h2; omega)⟩


theorem rf_LeaveOf_S {c b : List Int} {n : Nat} (hr : RightLine c b) (hm : n ≤ 2000) : SpecN Try.prog 26 [avInts c, avInts b, avI n] (fun y => y = avInts (leaves c b n)) := by
 intro w us ha
 obtain ⟨v1, v2, rfl, q1, q2⟩ := argsLLv ha
 refine (leaveOf_any v1 v2 c b n _ _ w (isSl_of_rep q1) (isSl_of_rep q2) hr hm).mono ?_
 rintro e w' ⟨v, rfl, hv, hc⟩
 exact ⟨_, _, rfl, rfl, (rep_of_isSl hv).keep fun b hb hl => ⟨rfl, hl, fun h => absurd h (Nat.not_lt.2 hb)⟩, hc, trivial⟩

end Go.Proofs.Ytmahammdnmmmoaa
namespace Go.Proofs.Ytmahammdnmmmoaa
set_option linter.unusedVariables false
set_option linter.unusedSimpArgs false

def sumL : List Int → Int
 | [] => 0
 | x :: l => x + sumL l
theorem sumL_append (a b : List Int) : sumL (a ++ b) = sumL a + sumL b := by
 induction a with
 | nil => simp [sumL]
 | cons x l ih => simp [sumL, ih]; omega

def cmpL : List Int → List Int → Int
 | [], [] => 0
 | [], _ :: _ => -1
 | _ :: _, [] => 1
 | a :: l, b :: r => if a < b then -1 else if b < a then 1 else cmpL l r

theorem cmpL_self (a : List Int) : cmpL a a = 0 := by
 induction a with
 | nil => rfl
 | cons x l ih => simp [cmpL, ih]

def srch (st : List Int → List Int → List Int) (m : Nat) : Nat → List Int → List Int → List Int
 | 0, p, be => st be p
 | r + 1, p, be => (List.range (m + 1)).foldl (fun be (x : Nat) => srch st m r (p ++ [(x : Int)]) be) be

def stpP (E : List Int → Bool) (be p : List Int) : List Int := if ¬ (sumL be ≤ sumL p) ∧ E p = true then p else be
def stpR (E : List Int → Bool) (be p : List Int) : List Int := if E p = true ∧ (sumL p < sumL be ∨ sumL p = sumL be ∧ cmpL p be < 0) then p else be

theorem srch_prune (E : List Int → Bool) (m : Nat) : ∀ r p be, sumL be ≤ sumL p → srch (stpP E) m r p be = be := by
 intro r
 induction r with
 | zero => intro p be h; simp [srch, stpP, h]
 | succ r ih =>
  intro p be h
  have : ∀ j, (List.range j).foldl (fun be (x : Nat) => srch (stpP E) m r (p ++ [(x : Int)]) be) be = be := by
   intro j
   induction j with
   | zero => rfl
   | succ j ihj =>
    rw [List.range_succ, List.foldl_append, ihj]
    exact ih _ _ (by rw [sumL_append]; simp [sumL]; omega)
  exact this _

def Ahead (be p : List Int) : Prop := ∃ q y z s t, be = q ++ y :: s ∧ p = q ++ z :: t ∧ y < z
theorem Ahead.more {be p : List Int} (h : Ahead be p) (u : List Int) : Ahead be (p ++ u) := by
 obtain ⟨q, y, z, s, t, h1, h2, h3⟩ := h
 exact ⟨q, y, z, s, t ++ u, h1, by simp [h2], h3⟩
theorem Ahead.cmp {be p : List Int} (h : Ahead be p) : ¬ cmpL p be < 0 := by
 obtain ⟨q, y, z, s, t, rfl, rfl, h3⟩ := h
 induction q with
 | nil => simp [cmpL]; rw [if_neg (by omega), if_pos h3]; omega
 | cons x q ih => simpa [cmpL] using ih

theorem sumL_le (m : Int) : ∀ p : List Int, (∀ x ∈ p, x ≤ m) → sumL p ≤ p.length * m := by
 intro p
 induction p with
 | nil => simp [sumL]
 | cons x l ih =>
  intro h
  have h1 := ih fun y hy => h y (by simp [hy])
  have h2 := h x (by simp)
  simp only [sumL, List.length_cons]
  have : ((l.length + 1 : Nat) : Int) * m = l.length * m + m := by rw [Int.natCast_add, Int.add_mul]; simp
  omega
theorem sumL_rep (m : Int) (k : Nat) : sumL (List.replicate k m) = k * m := by
 induction k with
 | zero => simp [sumL]
 | succ k ih =>
  rw [List.replicate_succ, sumL, ih, Int.natCast_add, Int.add_mul]; simp; omega
theorem sumL_max (m : Int) : ∀ p : List Int, (∀ x ∈ p, x ≤ m) → sumL p = p.length * m → p = List.replicate p.length m := by
 intro p
 induction p with
 | nil => simp
 | cons x l ih =>
  intro h hs
  have h1 := sumL_le m l fun y hy => h y (by simp [hy])
  have h2 := h x (by simp)
  simp only [sumL, List.length_cons] at hs
  have : ((l.length + 1 : Nat) : Int) * m = l.length * m + m := by rw [Int.natCast_add, Int.add_mul]; simp
  rw [List.length_cons, List.replicate_succ, ← ih (fun y hy => h y (by simp [hy])) (by omega)]
  congr 1; omega

theorem srch_same (E : List Int → Bool) (m k : Nat) : ∀ r p be, p.length + r = k → (∀ x ∈ p, x ≤ (m : Int)) → (be = List.replicate k (m : Int) ∨ Ahead be p) →
    srch (stpR E) m r p be = srch (stpP E) m r p be ∧ (srch (stpP E) m r p be = be ∨ ∃ u, srch (stpP E) m r p be = p ++ u) := by
  intro r
  induction r with
  | zero =>
    intro p be hk hm hb
    have hno : ¬ (sumL p = sumL be ∧ cmpL p be < 0) := by
      rcases hb with rfl | hb
      · rintro ⟨h1, h2⟩
        rw [sumL_rep] at h1
        have : p = List.replicate k (m : Int) := by
          have := sumL_max m p hm (by rw [h1]; congr 1; omega)
          rw [this]; congr 1
        rw [this, cmpL_self] at h2
        omega
      · exact fun h => hb.cmp h.2
    simp only [srch]
    refine ⟨?_, ?_⟩
    · unfold stpR stpP
      by_cases hE : E p = true <;> simp [hE]
      by_cases hs : sumL p < sumL be
      · rw [if_pos (.inl hs), if_pos hs]
      · rw [if_neg hs, if_neg]
        rintro (h | h)
        · exact hs h
        · exact hno h
    · unfold stpP
      split
      · exact .inr ⟨[], by simp⟩
      · exact .inl rfl
  | succ r ih =>
    intro p be hk hm hb
    have hj : ∀ j, j ≤ m + 1 →
        (List.range j).foldl (fun be (x : Nat) => srch (stpR E) m r (p ++ [(x : Int)]) be) be = (List.range j).foldl (fun be (x : Nat) => srch (stpP E) m r (p ++ [(x : Int)]) be) be ∧
        ((List.range j).foldl (fun be (x : Nat) => srch (stpP E) m r (p ++ [(x : Int)]) be) be = be ∨
          ∃ (x : Nat) (u : List Int), x < j ∧ (List.range j).foldl (fun be (x : Nat) => srch (stpP E) m r (p ++ [(x : Int)]) be) be = p ++ (x : Int) :: u) := by
      intro j
      induction j with
      | zero => intro _; exact ⟨rfl, .inl rfl⟩
      | succ j ihj =>
        intro hjm
        obtain ⟨h1, h2⟩ := ihj (by omega)
        rw [List.range_succ, List.foldl_append, List.foldl_append, h1]
        generalize (List.range j).foldl (fun be (x : Nat) => srch (stpP E) m r (p ++ [(x : Int)]) be) be = R at h2 ⊢
        simp only [List.foldl_cons, List.foldl_nil]
        have hR : R = List.replicate k (m : Int) ∨ Ahead R (p ++ [(j : Int)]) := by
          rcases h2 with rfl | ⟨x, u, hx, rfl⟩
          · rcases hb with hb | hb
            · exact .inl hb
            · exact .inr (hb.more _)
          · exact .inr ⟨p, x, j, u, [], rfl, rfl, by omega⟩
        obtain ⟨g1, g2⟩ := ih (p ++ [(j : Int)]) R (by simp; omega) (fun x hx => by rcases List.mem_append.1 hx with h | h; exact hm x h; simp at h; omega) hR
        refine ⟨g1, ?_⟩
        rcases g2 with g2 | ⟨u, g2⟩
        · rw [g2]
          rcases h2 with h2 | ⟨x, u, hx, h2⟩
          · exact .inl h2
          · exact .inr ⟨x, u, by omega, h2⟩
        · exact .inr ⟨j, u, by omega, by rw [g2]; simp⟩
    obtain ⟨h1, h2⟩ := hj (m + 1) (by omega)
    refine ⟨h1, ?_⟩
    rcases h2 with h2 | ⟨x, u, hx, h2⟩
    · exact .inl h2
    · exact .inr ⟨_, h2⟩

theorem srch_full (E : List Int → Bool) (m k : Nat) : srch (stpR E) m k [] (List.replicate k (m : Int)) = srch (stpP E) m k [] (List.replicate k (m : Int)) :=
 (srch_same E m k k [] _ (by simp) (by simp) (.inl rfl)).1

end Go.Proofs.Ytmahammdnmmmoaa
namespace Go.Proofs.Ytmahammdnmmmoaa
open Go.RowKit
set_option linter.unusedVariables false
set_option linter.unusedSimpArgs false

def endT (c bf : List Int) (n : Nat) : Int := (pas c bf (n - 1) (c.length - 1)).left

set_option maxHeartbeats 400000 in
theorem end_any (v1 v2 : Value) (c bf : List Int) (m : Nat) (A1 A2 : Nat → Prop) (w : World) (h1 : IsSl w A1 v1 c) (h2 : IsSl w A2 v2 bf) (hr : RightLine c bf) (hm1 : 1 ≤ m) (hm2 : m ≤ 2000) :
  Calls Try.prog 18 #[v1, v2, .int .i64 m] w fun e w' => e = .returned (.int .i64 (endT c bf m)) ∧ Chg NoB w w' := by
 have HFL := hid (flow_any v1 v2 c bf m A1 A2 w h1 h2 hr hm2)
 have hpos := hr.pos
 have hlen := hr.len
 clear hr
 go_enter Try.func18, Try.ntmps18
 go_wp2_with fail
 refine HFL.out.mono ?_
 rintro e w2 ⟨v, rfl, hv, hc2⟩
 obtain ⟨a, cap, rfl, g1, g2⟩ := hv.shape
 obtain ⟨b, off, rfl, hb, hrows⟩ := hv.rows (by simp; omega)
 obtain ⟨vr, hcell, hrow⟩ := hrows (c.length - 1) (by simp; omega)
 obtain ⟨ar, capr, rfl, g3, g4⟩ := hrow.shape
 simp only [List.getElem_map, List.getElem_range, List.length_map, List.length_range] at hcell hrow g1 g3 ⊢
 obtain ⟨br, offr, rfl, _, hps⟩ := hrow.passes (by simp; omega)
 have p1 := (hps (m - 1) (by simp; omega)).2
 simp only [List.getElem_map, List.getElem_range] at p1
 have HE : Hid (endT c bf m = (pas c bf (m - 1) (c.length - 1)).left) := rfl
 clear hps hrows
 go_wp2_with fail
 go_ret
 exact ⟨ret_int HE.out.symm, hc2⟩

end Go.Proofs.Ytmahammdnmmmoaa
namespace Go.Proofs.Ytmahammdnmmmoaa
open Go.RowKit
set_option linter.unusedVariables false
set_option linter.unusedSimpArgs false

def TT (p : Nat) (L : List Int) (w : World) (k : Nat) : Prop := ∃ k', k' ≤ k ∧ Strm w p L k'
abbrev sp (p : Nat) : AV := .v (.pointer (some ⟨p, 0, none⟩))
theorem TT.ok {p : Nat} {L : List Int} {w : World} {A : Nat → Prop} {nt k : Nat} (h : TT p L w k) : (B1 w A nt (fun b => b = p) (fun b => b ≤ p) (TT p L)).Ok := by
 obtain ⟨k', hk, hs⟩ := h
 exact {
  keep := fun {S w w' k} ⟨k', hk, hs⟩ hc hS => ⟨k', hk, hs.keep hc hS⟩
  low := fun j hj => Nat.lt_of_le_of_lt hj hs.lt
  str := fun j hj => by cases hj; exact ⟨Nat.le_refl _, rfl⟩
  up := fun {w k k2} ⟨k', h1, h2⟩ h3 => ⟨k', Nat.le_trans h1 h3, h2⟩ }
theorem chgIs {p : Nat} {w w' : World} (h : Chg (AtB p) w w') : Chg (fun b => b = p) w w' := by
 have : (fun b => b = p) = AtB p := rfl
 rw [this]; exact h

theorem SpecT.of_Calls {P : Program} {F : FuncId} {xs : List AV} {us0 : Array Value} {p : Nat} {L : List Int} {G : AV → Prop}
  (hus : ∀ w A us, Args w A xs us → us = us0)
  (h : ∀ w k, k ≤ 1000000 → Strm w p L k → Calls P F us0 w fun e w' => ∃ v, e = .returned v ∧ G (.v v) ∧ Strm w' p L (k + 1) ∧ Chg (AtB p) w w') :
  SpecT P (TT p L) (fun b => b = p) F xs 1 G := by
 intro w A us k hA ⟨k', hk', hs⟩ hstr hk
 have hu := hus w A us hA
 subst hu
 refine (h w k' (by omega) hs).mono ?_
 rintro e w' ⟨v, rfl, hG, hs', hc⟩
 exact ⟨.v v, v, hG, rfl, .v v, chgIs hc, ⟨k' + 1, by omega, hs'⟩⟩
theorem args2 {p : Nat} {u : Value} {w : World} {A : Nat → Prop} {us : Array Value} (h : Args w A [sp p, .v u] us) : us = #[.pointer (some ⟨p, 0, none⟩), u] := by
 obtain ⟨h1, h2⟩ := h
 have e0 := (h2 0 (by simp)).eq_v
 have e1 := (h2 1 (by simp)).eq_v
 apply Array.ext (by simpa using h1)
 intro i hi hi'
 simp at hi'
 rw [h1] at hi
 match i, hi' with
 | 0, _ => simpa [Array.getD_eq_getD_getElem?, h1] using e0
 | 1, _ => simpa [Array.getD_eq_getD_getElem?, h1] using e1
section
variable {p : Nat} {L : List Int}
theorem next_T {n : Int} (hn : n ≤ 1000000000) : SpecT Try.prog (TT p L) (fun b => b = p) 15 [sp p, avI n] 1 (fun y => ∃ r : Int, (0 ≤ r ∧ (1 ≤ n → r < n)) ∧ y = avI r) :=
 SpecT.of_Calls (fun w A us h => args2 h) fun w k hk hs => (next_any p L k n w hs hk hn).mono fun e w' ⟨h1, h2, h3⟩ => ⟨_, h1, ⟨_, ⟨nxt_lo L k n, nxt_lt L k n⟩, rfl⟩, h2, h3⟩
end

def AllI (lo hi : Int) : List AV → Prop
 | [] => True
 | x :: r => (∃ i : Int, (lo ≤ i ∧ i ≤ hi) ∧ x = avI i) ∧ AllI lo hi r
theorem AllI.nil {lo hi : Int} : AllI lo hi [] := trivial
theorem AllI.cons {lo hi i : Int} {r : List AV} (h : lo ≤ i ∧ i ≤ hi) (hr : AllI lo hi r) : AllI lo hi (avI i :: r) := ⟨⟨i, h, rfl⟩, hr⟩
theorem AllI.get {lo hi : Int} : ∀ {l : List AV} {q : Nat}, AllI lo hi l → q < l.length → ∃ i : Int, (lo ≤ i ∧ i ≤ hi) ∧ l.getD q .any = avI i
 | [], q, _, h => by simp at h
 | x :: r, 0, h, _ => by simpa using h.1
 | x :: r, q + 1, h, hq => by simpa using AllI.get h.2 (by simpa using hq)
def AllX : List AV → Prop
 | [] => True
 | x :: r => (∃ i : Int, x = avI i) ∧ AllX r
theorem AllX.nil : AllX [] := trivial
theorem AllX.cons {i : Int} {r : List AV} (hr : AllX r) : AllX (avI i :: r) := ⟨⟨i, rfl⟩, hr⟩
theorem AllX.get : ∀ {l : List AV} {q : Nat}, AllX l → q < l.length → ∃ i : Int, l.getD q .any = avI i
 | [], q, _, h => by simp at h
 | x :: r, 0, h, _ => by simpa using h.1
 | x :: r, q + 1, h, hq => by simpa using AllX.get h.2 (by simpa using hq)
def AllS (m : Nat) : List AV → Prop
 | [] => True
 | x :: r => (∃ i : ByteArray, i.size ≤ m ∧ x = avS i) ∧ AllS m r
theorem AllS.nil {m : Nat} : AllS m [] := trivial
theorem AllS.cons {m : Nat} {i : ByteArray} {r : List AV} (h : i.size ≤ m) (hr : AllS m r) : AllS m (avS i :: r) := ⟨⟨i, h, rfl⟩, hr⟩
theorem AllS.get {m : Nat} : ∀ {l : List AV} {q : Nat}, AllS m l → q < l.length → ∃ i : ByteArray, i.size ≤ m ∧ l.getD q .any = avS i
 | [], q, _, h => by simp at h
 | x :: r, 0, h, _ => by simpa using h.1
 | x :: r, q + 1, h, hq => by simpa using AllS.get h.2 (by simpa using hq)



set_option maxRecDepth 100000 in
theorem pick_X {p : Nat} {L : List Int} {n : Nat} {l : List AV} (hn : l.length = n) (h0 : 0 < n) (h1 : n ≤ 1000) (hall : AllX l) :
  SpecT Try.prog (TT p L) (fun b => b = p) 5 [sp p, .im n 1 fun j => l.getD j .any] 1 (fun y => ∃ r : Int, y = avI r) := by
 refine SpecT.of_VC Try.func5 rfl Try.ntmps5 (Nle rfl) (low := (fun b => b ≤ p)) (fun w A k h => h.ok) fun w A k hk hB => ?_
 have hnew : True := trivial
 refine VC.sr ?_
 refine VO.ma rfl rfl rfl rfl ?_
 refine VO.nil ?_
 refine VC.sr ?_
 refine VO.mv rfl rfl rfl rfl ?_
 refine VO.mv rfl rfl rfl rfl ?_
 refine VO.mv rfl rfl rfl rfl ?_
 refine VO.val rfl rfl (OpV.len_im rfl Try.underlying22 rfl) ?_
 refine VO.op rfl (OpE.callT' (k) rfl rfl hB rfl Try.call15 rfl ((next_T (by omega))) (by omega) ?_)
 rintro _ ⟨r9, hr9, rfl⟩
 refine VO.val rfl rfl (OpV.indexAddr_1 rfl Try.underlying22 Try.sizeOf3 rfl rfl (Int.toNat_of_nonneg (by omega)).symm (by omega)) ?_
 refine VO.val rfl rfl (OpV.load_at rfl hB OutW.no Try.isAgg3 rfl rfl) ?_
 refine VO.ma rfl rfl rfl rfl ?_
 refine VO.nil ?_
 refine VC.ret ?_
 exact Exists.intro _ (And.intro (RetV.one Try.results5 (ResV.tmp rfl)) (And.intro (hall.get (by omega)) ((show k + 1 ≤ k + 1 by omega))))
end Go.Proofs.Ytmahammdnmmmoaa
namespace Go.Proofs.Ytmahammdnmmmoaa
open Go.RowKit
set_option linter.unusedVariables false
set_option linter.unusedSimpArgs false

def Inp (w : World) (a : Option Addr) (L : List Int) : Prop :=
 L.length ≤ 9223372036854775807 ∧ ∀ i, i < L.length → ∃ b o, a = some ⟨b, o, none⟩ ∧ w.cell? ⟨b, o + i, none⟩ = some (.int .i64 (L.getD i 0))

theorem Inp.ofRow {w : World} {a : Option Addr} {len cap : Nat} {zs : List Int}
  (h : (a = none ∧ len = 0 ∧ cap = 0 ∧ zs = []) ∨
   ∃ x, a = some x ∧ len ≤ cap ∧ cap ≤ maxLen ∧ zs.length = cap ∧ (∀ i, i < zs.length → w.cell? (x.add i) = some (.int .i64 (zs.getD i 0))) ∧ ∀ n ∈ zs, (Lit.int .i64 n).wf = true) :
  ∃ L : List Int, L.length = len ∧ Inp w a L := by
 rcases h with ⟨rfl, rfl, rfl, rfl⟩ | ⟨x, rfl, h1, h2, h3, h4, h5⟩
 ·exact ⟨[], rfl, by simp, by simp⟩
 ·unfold maxLen at h2
  refine ⟨zs.take len, by simp; omega, by simp; omega, fun i hi => ?_⟩
  have hi' : i < len ∧ i < zs.length := by simp at hi; omega
  obtain ⟨b, o, s⟩ := x
  have h0 := h4 0 (by omega)
  have hs : s = none := by
   cases s with
   | none => rfl
   | some s =>
    simp only [Addr.add, if_true, World.cell?] at h0
    split at h0 <;> simp at h0
  subst hs
  have hadd : (⟨b, o, none⟩ : Addr).add i = ⟨b, o + i, none⟩ := by unfold Addr.add; split <;> simp_all
  have := h4 i hi'.2
  rw [hadd] at this
  exact ⟨b, o, rfl, by rw [this]; simp [hi'.1, hi'.2]⟩

def lawQ (t : Nat) (x : Value) (e : Exit) (s : St') : Prop := e = .ret ∧ look s.sl t = some (.v x)
section
variable {P : Program} {w : World} {A : Nat → Prop} {nt t : Nat} {x : Value} {c : Code} {s : St'}
theorem VC.rebase (h : ∀ a w1, R (B0 w A nt) s a w1 → ∃ (B1 : Bs) (s1 : St'), B1.nt = nt ∧ B1.w0 = w1 ∧ (∀ b, B1.S b → w.heap.size ≤ b) ∧ R B1 s1 a w1 ∧ VC P B1 c (lawQ t x) s1) : VC P (B0 w A nt) c (lawQ t x) s := fun a w1 hr => by
 obtain ⟨B1, s1, h1, h2, h3, h4, h5⟩ := h a w1 hr
 refine Code.wp_mono (fun e a' w' ⟨s2, ⟨k1, k2⟩, k3⟩ => ?_) (h5 a w1 h4)
 refine ⟨⟨[(t, .v x)], [], 0⟩, ⟨k1, by simp [look_put]⟩, fun t' y hy => ?_, k3.size.trans h1, k3.defs, fun p hp => by simp at hp, List.Pairwise.nil, ?_, fun p hp => by simp at hp, trivial⟩
 ·rw [look_put] at hy
  split at hy
  ·rename_i e; subst e; cases hy; exact (k3.slots _ _ k2).flat ⟨_, rfl⟩
  ·cases hy
 ·have c1 := hr.chg
  have c2 := k3.chg
  rw [h2] at c2
  exact (c1.any.trans c2).mono fun b hb hs => (Nat.not_lt.2 (h3 b hs) hb).elim
theorem VC.stream {a0 : Option Addr} {cap0 g tot i : Nat} {L : List Int} {sl : List (Nat × AV)} (hi : s.hp[i]? = some (.box g ⟨[.v (.slice a0 L.length cap0), .v (.int .i64 0)], 25, tot⟩)) (htot : tot = 2) (hin : Inp w a0 L) (hsl : LeL s.sl sl) (hf : ∀ p ∈ sl, ∃ v, p.2 = .v v)
  (h : ∀ w1, w.heap.size ≤ g → (B1 w1 (fun b => b ≠ g) nt (fun b => b = g) (fun b => b ≤ g) (TT g L)).Ok → VC P (B1 w1 (fun b => b ≠ g) nt (fun b => b = g) (fun b => b ≤ g) (TT g L)) c (lawQ t x) ⟨sl, [], 0⟩) : VC P (B0 w A nt) c (lawQ t x) s :=
 VC.rebase fun a w1 hr => by
  have hm := List.mem_of_getElem? hi
  obtain ⟨cc, k1, k2, k3, k4⟩ := hr.blocks _ hm
  have hnew : ¬ g < w.heap.size := hr.isNew (fun b h => h) hm rfl
  have hge : w.heap.size ≤ g := by omega
  have hcc : cc = #[.slice a0 L.length cap0, .int .i64 0] := by
   obtain ⟨u0, p0, q0⟩ := k4 0 (by simp)
   obtain ⟨u1, p1, q1⟩ := k4 1 (by simp)
   have e0 := q0.eq_v
   have e1 := q1.eq_v
   have hsz : cc.size = 2 := k2.trans htot
   apply Array.ext (by simpa using hsz)
   intro i hi hi'
   simp at hi'
   match i, hi' with
   | 0, _ => have := Array.getElem?_eq_some_iff.1 p0; simp; rw [this.2, e0]
   | 1, _ => have := Array.getElem?_eq_some_iff.1 p1; simp; rw [this.2, e1]
  subst hcc
  have hT : TT g L w1 0 := ⟨0, Nat.le_refl _, a0, cap0, k1, hin.1, fun i hi => by
   obtain ⟨b, o, e1, e2⟩ := hin.2 i hi
   have hb := World.block_lt_of_cell? w _ e2
   exact ⟨b, o, e1, Nat.lt_of_lt_of_le hb hge, hr.chg.cell e2 fun h => h⟩⟩
  refine ⟨_, _, rfl, rfl, fun b hb => by rw [hb]; exact hge, ?_, h w1 hge (TT.ok hT)⟩
  refine ⟨fun t' y hy => ?_, hr.size, hr.defs, fun p hp => by simp at hp, List.Pairwise.nil, Chg.refl _ _, fun p hp => by simp at hp, hT⟩
  have hs := hr.slots t' y (LeL.look hsl t' y hy)
  have : ∃ v, y = .v v := by
   have key : ∀ (l : List (Nat × AV)), (∀ p ∈ l, ∃ v, p.2 = .v v) → look l t' = some y → ∃ v, y = .v v := by
    intro l
    induction l with
    | nil => intro _ h; cases h
    | cons p r ih =>
     intro hp hl
     obtain ⟨k, z⟩ := p
     rw [look_put] at hl
     split at hl
     ·cases hl; exact hp (k, y) (by simp)
     ·exact ih (fun q hq => hp q (by simp [hq])) hl
   exact key sl hf hy
  exact hs.flat this
theorem law_calls {F : FuncId} {fn : Func} {a0 : Option Addr} {cap0 : Nat} {L : List Int} {body : Code} (hf : P.funcs[F]? = some fn) (hb : fn.body = some body) (hn : fn.ntmps = nt) (h1 : 1 ≤ nt) (hres : fn.results = #[.tmp t])
  (h : VC P (B0 w (fun _ => True) nt) body (lawQ t (.bool true)) ⟨slots0 0 [.v (.slice a0 L.length cap0)], [], 0⟩) : Calls P F #[.slice a0 L.length cap0] w fun e w' => e = .returned (.bool true) ∧ Chg NoB w w' := by
 subst hn
 refine calls_of_wp hf hb (Code.wp_mono (fun e a w' hq => ?_) (h _ w (R.start (us := #[.slice a0 L.length cap0]) (k := 0) rfl ⟨rfl, fun j hj => by simp at hj; subst hj; exact .v _⟩ (fun _ h => h.elim) trivial (by show fn.ntmps = 1 + (fn.ntmps - 1); omega))))
 obtain ⟨s, ⟨rfl, hq⟩, hr⟩ := hq
 refine ⟨hr.defs, .bool true, ?_, rfl, hr.chg⟩
 have hv := (hr.slots t _ hq).eq_v
 simp [results_eq, hres, resRun, hv]
end
theorem Le.boolT {B : Bs} {s : St'} {t : Nat} {b : Bool} (ht : look s.sl t = some (avB b)) (hb : b = true) : Le B s ⟨(t, avB true) :: s.sl, s.hp, s.k⟩ := Le.recast ht fun w Z u h => by subst hb; exact h
end Go.Proofs.Ytmahammdnmmmoaa
namespace Go.Proofs.Ytmahammdnmmmoaa
open Go.RowKit
set_option linter.unusedVariables false
set_option linter.unusedSimpArgs false

theorem lined_flow : flowF [10, 30] [0] 2 = 0 := by decide +kernel
theorem lined_leaves : leavesF [10, 30] [0] 2 = [40, 70] := by
 rw [leavesF, if_pos lined_flow]
 have a00 : (pas [10, 30] [0] 0 0).taken = 0 := by rw [pas_taken]; simp [here]
 have b00 : (pas [10, 30] [0] 0 0).left = 10 := by rw [pas_left, a00]; simp [at']
 have a01 : (pas [10, 30] [0] 0 1).taken = 10 := by rw [pas_taken]; simp [here, b00]
 have b01 : (pas [10, 30] [0] 0 1).left = 40 := by rw [pas_left, a01]; simp [at']
 have a10 : (pas [10, 30] [0] 1 0).taken = 10 := by rw [pas_taken]; simp [here, b00]; decide
 have b10 : (pas [10, 30] [0] 1 0).left = 40 := by rw [pas_left, a10]; simp [at', b01]; decide
 have a11 : (pas [10, 30] [0] 1 1).taken = 40 := by rw [pas_taken]; simp [here, b10, b01]
 have b11 : (pas [10, 30] [0] 1 1).left = 70 := by rw [pas_left, a11]; simp [at']
 simp [leaves, List.range_succ, b01, b11]

set_option maxHeartbeats 400000 in
theorem lined_any (w : World) : Calls Try.prog 12 #[] w fun e w' => e = .returned (.bool true) ∧ Chg NoB w w' := by
 go_enter Try.func12, Try.ntmps12
 go_wp2_with fail
 have h1 := isSl_lit w [10, 30] 3 (by simp [maxLen])
 have hc1 : Chg NoB w (w.alloc (.cells #[.int .i64 10, .int .i64 30] 3)) := (Chg.refl _ _).alloc _
 have h2 := isSl_lit (w.alloc (.cells #[.int .i64 10, .int .i64 30] 3)) [0] 3 (by simp [maxLen])
 have e1 : (w.alloc (.cells #[.int .i64 10, .int .i64 30] 3)).heap.size = w.heap.size + 1 := by simp
 rw [e1] at h2
 have h1' := h1.keepN ((Chg.refl NoB (w.alloc (.cells #[.int .i64 10, .int .i64 30] 3))).alloc (.cells #[.int .i64 0] 3))
 refine (leave_any _ _ [10, 30] [0] 2 _ _ _ h1' h2).mono ?_
 rw [lined_flow, lined_leaves]
 rintro e w2 ⟨v, rfl, hv, hc⟩
 have hch : Chg NoB w w2 := (((Chg.refl _ w).alloc _).alloc _).trans hc
 obtain ⟨a, cap, rfl, g1, g2⟩ := hv.shape
 obtain ⟨b, o, rfl, hb, hcell⟩ := hv.ints (by simp)
 have c1 := hcell 1 (by simp)
 simp at c1 g1
 unfold maxLen at g2
 clear hcell
 go_wp2_with fail
 go_ret
 exact ⟨rfl, hch⟩
end Go.Proofs.Ytmahammdnmmmoaa
namespace Go.Proofs.Ytmahammdnmmmoaa
open Go.RowKit
set_option linter.unusedVariables false
set_option linter.unusedSimpArgs false

theorem line_end_S {c bf : List Int} {m : Nat} (hr : RightLine c bf) (hm1 : 1 ≤ m) (hm2 : m ≤ 2000) : SpecN Try.prog 18 [avInts c, avInts bf, avI m] (fun y => y = avI (endT c bf m)) := by
 intro w us ha
 obtain ⟨v1, v2, rfl, q1, q2⟩ := argsLLv ha
 refine (end_any v1 v2 c bf m _ _ w (isSl_of_rep q1) (isSl_of_rep q2) hr hm1 hm2).mono ?_
 rintro e w' ⟨rfl, hc⟩
 exact ⟨_, _, rfl, rfl, .v _, hc, trivial⟩
theorem line_cyclesFault_S {c : List Int} : SpecN Try.prog 16 [avInts c] (fun y => y = avI (cycF c)) := by
 intro w us ha
 obtain ⟨v1, rfl, q1⟩ := argsL ha
 refine (cyclesFault_any v1 c _ w (isSl_of_rep q1)).mono ?_
 rintro e w' ⟨rfl, hc⟩
 exact ⟨_, _, rfl, rfl, .v _, hc, trivial⟩
theorem rf_BoardsFault_S {c b : List Int} {n : Int} : SpecN Try.prog 7 [avInts c, avInts b, avI n] (fun y => y = avI (flowF c b n)) := by
 intro w us ha
 obtain ⟨v1, v2, rfl, q1, q2⟩ := argsLLv ha
 refine (boardsFault_any v1 v2 c b n _ _ w (isSl_of_rep q1) (isSl_of_rep q2)).mono ?_
 rintro e w' ⟨rfl, hc⟩
 exact ⟨_, _, rfl, rfl, .v _, hc, trivial⟩
theorem line_T {p : Nat} {L : List Int} : SpecT Try.prog (TT p L) (fun b => b = p) 4 [sp p] 100020 (fun y => ∃ c b : List Int, (SmallL 4 c ∧ SmallL 4 b) ∧ y = .tup [avInts c, avInts b]) := by
 intro w A us k ha ⟨k', hk', hs⟩ hstr hk
 have hus : us = #[.pointer (some ⟨p, 0, none⟩)] := by
  obtain ⟨v1, rfl, q1⟩ := argsL ha
  rw [q1.eq_v]
 subst hus
 ·refine (line_any p L k' w hs (by omega)).mono ?_
  rintro e w' ⟨v1, v2, k2, rfl, c, b, h1, h2, h3, h4, h5, h6, h7⟩
  refine ⟨.tup [avInts c, avInts b], .tuple #[v1, v2], ⟨c, b, ⟨h3, h4⟩, rfl⟩, rfl, .tup _ _ rfl fun j hj => ?_, chgIs h7, ⟨k2, by omega, h5⟩⟩
  have key : ∀ {v : Value} {xs : List Int}, IsSl w' (fun j => w.heap.size ≤ j) v xs → Rep w' (fun b => b < w'.heap.size ∧ (b < w.heap.size → A b)) (avInts xs) v := fun {v xs} h => by
   have hr := rep_of_isSl h
   exact hr.keep fun b hb hl => ⟨rfl, hl, fun h0 => absurd h0 (Nat.not_lt.2 hb)⟩
  match j, hj with
  | 0, _ => exact key h1
  | 1, _ => exact key h2

end Go.Proofs.Ytmahammdnmmmoaa
namespace Go.Proofs.Ytmahammdnmmmoaa
open Go.RowKit
set_option linter.unusedVariables false
set_option linter.unusedSimpArgs false

theorem sumL_bd (m : Int) (hm : 0 ≤ m) : ∀ p : List Int, (∀ x ∈ p, 0 ≤ x ∧ x ≤ m) → 0 ≤ sumL p ∧ sumL p ≤ p.length * m := by
 intro p h
 refine ⟨?_, sumL_le m p fun x hx => (h x hx).2⟩
 induction p with
 | nil => simp [sumL]
 | cons x l ih =>
  have h1 := ih fun y hy => h y (by simp [hy])
  have h2 := h x (by simp)
  simp only [sumL]; omega

theorem right_small {c bf : List Int} {b0 : List Int} {n : Int} (h : flowF c b0 n = 0) (hl : bf.length = b0.length) (hb : ∀ x ∈ bf, 0 ≤ x) : RightLine c bf := by
 obtain ⟨hr, _⟩ := flowF_right h
 refine ⟨hr.len, hr.pos, hr.c1, fun k => ?_, by rw [hl]; exact hr.bl⟩
 unfold at'
 by_cases hk : k < bf.length
 ·rw [List.getD_eq_getElem?_getD, List.getElem?_eq_getElem hk]; exact hb _ (List.getElem_mem hk)
 ·rw [List.getD_eq_getElem?_getD, List.getElem?_eq_none (by omega)]; simp

def enoughF (c : List Int) (n most : Int) : Int :=
 if cycF c ≠ 0 then cycF c else if outB 1 2000 n || outB 0 3 most then 1 else 0

def enoughL (c : List Int) (n : Nat) (m : Nat) : List Int :=
 srch (stpP fun l => endT c l n == endT c (List.replicate (c.length - 1) (m : Int)) n) m (c.length - 1) [] (List.replicate (c.length - 1) (m : Int))

def Good (n m : Nat) (l : List Int) : Prop := l.length = n ∧ ∀ x ∈ l, 0 ≤ x ∧ x ≤ (m : Int)

theorem srch_good {st : List Int → List Int → List Int} (hst : ∀ be p, st be p = be ∨ st be p = p) (n m : Nat) : ∀ r p be, p.length + r = n → (∀ x ∈ p, 0 ≤ x ∧ x ≤ (m : Int)) → Good n m be → Good n m (srch st m r p be) := by
 intro r
 induction r with
 | zero =>
  intro p be hp hm hb
  rcases hst be p with h | h
  ·simp only [srch]; rw [h]; exact hb
  ·simp only [srch]; rw [h]; exact ⟨by omega, hm⟩
 | succ r ih =>
  intro p be hp hm hb
  have : ∀ j, j ≤ m + 1 → Good n m ((List.range j).foldl (fun be (x : Nat) => srch st m r (p ++ [(x : Int)]) be) be) := by
   intro j
   induction j with
   | zero => intro _; exact hb
   | succ j ihj =>
    intro hj
    rw [List.range_succ, List.foldl_append]
    exact ih _ _ (by simp; omega) (fun x hx => by rcases List.mem_append.1 hx with h | h; exact hm x h; simp at h; omega) (ihj (by omega))
  exact this _ (Nat.le_refl _)
theorem stpP_or (E : List Int → Bool) (be p : List Int) : stpP E be p = be ∨ stpP E be p = p := by unfold stpP; split <;> simp
theorem stpR_or (E : List Int → Bool) (be p : List Int) : stpR E be p = be ∨ stpR E be p = p := by unfold stpR; split <;> simp

def srchTo (st : List Int → List Int → List Int) (m r : Nat) (p be : List Int) (j : Nat) : List Int := (List.range j).foldl (fun be (x : Nat) => srch st m r (p ++ [(x : Int)]) be) be
theorem srchTo_succ (st : List Int → List Int → List Int) (m r : Nat) (p be : List Int) (j : Nat) : srchTo st m r p be (j + 1) = srch st m r (p ++ [(j : Int)]) (srchTo st m r p be j) := by
 simp [srchTo, List.range_succ]

theorem srchTo_good {st : List Int → List Int → List Int} (hst : ∀ be p, st be p = be ∨ st be p = p) (n m r : Nat) (p be : List Int) (hp : p.length + (r + 1) = n) (hm : ∀ x ∈ p, 0 ≤ x ∧ x ≤ (m : Int)) (hb : Good n m be) :
  ∀ j, j ≤ m + 1 → Good n m (srchTo st m r p be j) := by
 intro j
 induction j with
 | zero => intro _; exact hb
 | succ j ihj =>
  intro hj
  rw [srchTo_succ]
  exact srch_good hst n m r _ _ (by simp; omega) (fun x hx => by rcases List.mem_append.1 hx with h | h; exact hm x h; simp at h; omega) (ihj (by omega))

def enoughR (c : List Int) (n most : Int) : List Int := if enoughF c n most = 0 then enoughL c n.toNat most.toNat else []

theorem cyc0_len {c : List Int} (h : cycF c = 0) : 0 < c.length ∧ c.length ≤ 6 := by
 unfold cycF at h
 split at h
 ·omega
 ·split at h
  ·omega
  ·omega

theorem flow_of {c : List Int} {n : Int} (h : cycF c = 0) (hn : outB 1 2000 n = false) : flowF c (List.replicate (c.length - 1) 0) n = 0 := by
 have := cyc0_len h
 unfold flowF
 rw [if_neg (by simp [h]), if_neg (by simp; omega), if_neg]
 unfold outB at hn ⊢
 simp at hn ⊢
 omega

end Go.Proofs.Ytmahammdnmmmoaa
namespace Go.Proofs.Ytmahammdnmmmoaa
open Go.RowKit
set_option linter.unusedVariables false
set_option linter.unusedSimpArgs false

section
variable {P : Program} {B : Bs} {W : Nat → Prop} {s : St'} {o : Oper} {K : St' → Prop} {a : Act} {w w' : World} {Q : Exit → St' → Prop}

def SrcP (P : Program) (B : Bs) (s : St') (x : Operand) (m sz : Nat) (F : Nat → AV) : Prop :=
 ∀ a w, R B s a w → ∃ (ad : Option Addr) (cap : Nat) (us : Nat → Value), a.eval x = .slice ad m cap ∧ (ad = none → m = 0 ∧ cap = 0) ∧ ∀ x0, ad = some x0 → ∀ j, j < m * sz → w.cell? (x0.add j) = some (us j) ∧ Rep w (Zn B s.hp w) (F j) (us j)
theorem SrcP.im {x : Operand} {m sz : Nat} {F : Nat → AV} (hx : evO s x = some (.im m sz F)) : SrcP P B s x m sz F := fun a w hr => by
 have := hr.ev hx
 generalize hv : a.eval x = v at this
 cases this with
 | nil => exact ⟨none, 0, fun _ => undef, rfl, fun _ => ⟨rfl, rfl⟩, fun x0 h => (by cases h)⟩
 | im m sz F b off cap c e u hZ h1 h2 hb hc hr' => exact ⟨some ⟨b, off, none⟩, cap, u, rfl, fun h => (by cases h), fun x0 h j hj => by
   cases h
   exact ⟨by rw [Addr.add_lit]; simpa [World.cell?, hb] using hc j hj, hr' j hj⟩⟩
theorem SrcP.row {x : Operand} {i n sz : Nat} {u : Value} {cs : List AV} {ty : TypeId} (hx : evO s x = some (.v u)) (hi : s.hp[i]? = some (.row u n sz cs ty)) : SrcP P B s x n sz (fun j => cs.getD j .any) := fun a w hr => by
 rw [hr.evv hx]
 obtain ⟨h0, ⟨rfl, rfl⟩ | ⟨g, cap, c, rfl, h1, h2, h3, h4, h5⟩⟩ := hr.blocks _ (List.mem_of_getElem? hi)
 ·exact ⟨none, 0, fun _ => undef, rfl, fun _ => ⟨rfl, rfl⟩, fun x0 h => (by cases h)⟩
 ·refine ⟨_, cap, fun j => c.getD j undef, rfl, fun h => (by cases h), fun x0 h j hj => ?_⟩
  cases h
  obtain ⟨v, k1, k2⟩ := h5 j (by omega)
  rw [Addr.add_lit, Nat.zero_add]
  have e : c.getD j undef = v := by rw [Array.getD_eq_getD_getElem?, k1]; rfl
  refine ⟨by simp only [e]; simpa [World.cell?, h3] using k1, ?_⟩
  simp only [e]
  rw [List.getD_eq_getElem?_getD, List.getElem?_eq_getElem (by omega)]
  exact k2
theorem SrcP.box {x : Operand} {i n sz g off cap : Nat} {o' : Own'} (hx : evO s x = some (.v (.slice (some ⟨g, off, none⟩) n cap))) (hi : s.hp[i]? = some (.box g o')) (hl : off + n * sz ≤ o'.cs.length) : SrcP P B s x n sz (fun j => o'.cs.getD (off + j) .any) := fun a w hr => by
 rw [hr.evv hx]
 obtain ⟨c, h1, h2, h3, h4⟩ := hr.blocks _ (List.mem_of_getElem? hi)
 refine ⟨_, cap, fun j => c.getD (off + j) undef, rfl, fun h => (by cases h), fun x0 h j hj => ?_⟩
 cases h
 obtain ⟨v, k1, k2⟩ := h4 (off + j) (by omega)
 rw [Addr.add_lit]
 have e : c.getD (off + j) undef = v := by rw [Array.getD_eq_getD_getElem?, k1]; rfl
 refine ⟨by simp only [e]; simpa [World.cell?, h1] using k1, ?_⟩
 simp only [e]
 rw [List.getD_eq_getElem?_getD, List.getElem?_eq_getElem (by omega)]
 exact k2

theorem R.splice (hB : B.Ok) (hr : R B s a w) {i g off : Nat} {o' : Own'} {c : Array Value} {l : List AV} {vs : List Value} (hi : s.hp[i]? = some (.box g o')) (hg : w.heap[g]? = some (.cells c o'.ty (0, 0))) (hl : vs.length = l.length)
  (hv : ∀ j, (h : j < l.length) → Rep w (Zn B s.hp w) l[j] (vs.getD j undef)) (hfit : off + l.length ≤ o'.cs.length) :
  R B ⟨s.sl, s.hp.set i (.box g ⟨o'.cs.take off ++ l ++ o'.cs.drop (off + l.length), o'.ty, o'.tot⟩), s.k⟩ a (w.setRow g (c.toList.take off ++ vs ++ c.toList.drop (off + vs.length)).toArray) := by
 have hm := List.mem_of_getElem? hi
 obtain ⟨c0, h1, h2, h3, h4⟩ := hr.blocks _ hm
 have hcc : c0 = c := by rw [hg] at h1; simp at h1; exact h1.symm
 subst hcc
 generalize hc' : (c0.toList.take off ++ vs ++ c0.toList.drop (off + vs.length)).toArray = c'
 generalize hcs' : o'.cs.take off ++ l ++ o'.cs.drop (off + l.length) = cs'
 have hsz' : c'.size = c0.size := by
  rw [← hc']
  simp only [List.size_toArray, List.length_append, List.length_take, List.length_drop, Array.length_toList]
  omega
 have hlen' : cs'.length = o'.cs.length := by
  rw [← hcs']
  simp only [List.length_append, List.length_take, List.length_drop]
  omega
 have hg' := setRow_heap w g c0 c' o'.ty (0, 0) h1
 refine hr.set hB hi (e' := .box g ⟨cs', o'.ty, o'.tot⟩) (w' := w.setRow g c') (chg_setRow w g c') (.inl rfl) ⟨c', hg', by rw [hsz', h2], by show cs'.length ≤ _; rw [hlen']; exact h3, fun q hq => ?_⟩
 have hz : ∀ b, Zn B s.hp w b → b < w.heap.size → (w.setRow g c').heap[b]? = w.heap[b]? ∧ Zn B (s.hp.set i (.box g ⟨cs', o'.ty, o'.tot⟩)) (w.setRow g c') b := fun b hb hbl => by
  refine ⟨setRow_other w g b c' fun e => hb.2.1 _ hm (by rw [e]; rfl), by simp [World.setRow]; exact hbl, fun p hp => ?_, hb.2.2⟩
  rcases List.mem_or_eq_of_mem_set hp with hp | hp
  ·exact hb.2.1 p hp
  ·subst hp; exact hb.2.1 (.box g o') hm
 have hq' : q < o'.cs.length := by rw [← hlen']; exact hq
 have key : ∀ (v : AV) (u : Value), cs'[q]? = some v → c'.toList[q]? = some u → Rep w (Zn B s.hp w) v u → ∃ u, c'[q]? = some u ∧ Rep (w.setRow g c') (Zn B (s.hp.set i (.box g ⟨cs', o'.ty, o'.tot⟩)) (w.setRow g c')) cs'[q] u := fun v u e1 e2 e3 => by
  refine ⟨u, by rw [← Array.getElem?_toList]; exact e2, ?_⟩
  have : cs'[q] = v := by
   rw [List.getElem?_eq_getElem hq] at e1
   exact Option.some.inj e1
  rw [this]
  exact e3.keep hz
 by_cases hin : off ≤ q ∧ q < off + l.length
 ·refine key (l[q - off]'(by omega)) (vs.getD (q - off) undef) ?_ ?_ (hv _ _)
  ·rw [← hcs', List.append_assoc, List.getElem?_append_right (by simp; omega), List.getElem?_append_left (by simp; omega)]
   simp only [List.length_take]
   rw [show q - min off o'.cs.length = q - off by omega]
   exact List.getElem?_eq_getElem _
  ·rw [← hc']
   simp only
   rw [List.append_assoc, List.getElem?_append_right (by simp; omega), List.getElem?_append_left (by simp; omega)]
   simp only [List.length_take, Array.length_toList]
   rw [show q - min off c0.size = q - off by omega, List.getD_eq_getElem?_getD, List.getElem?_eq_getElem (by omega)]
   rfl
 ·obtain ⟨x, k1, k2⟩ := h4 q hq'
  refine key _ x ?_ ?_ k2
  ·rw [← hcs']
   by_cases hlt : q < off
   ·rw [List.append_assoc, List.getElem?_append_left (by simp; omega), List.getElem?_take, if_pos hlt]
    exact List.getElem?_eq_getElem _
   ·rw [List.getElem?_append_right (by simp; omega), List.getElem?_drop]
    simp only [List.length_append, List.length_take]
    rw [show off + l.length + (q - (min off o'.cs.length + l.length)) = q by omega]
    exact List.getElem?_eq_getElem _
  ·rw [← hc']
   simp only
   rw [← Array.getElem?_toList] at k1
   by_cases hlt : q < off
   ·rw [List.append_assoc, List.getElem?_append_left (by simp; omega), List.getElem?_take, if_pos hlt]
    exact k1
   ·rw [List.getElem?_append_right (by simp; omega), List.getElem?_drop]
    simp only [List.length_append, List.length_take, Array.length_toList]
    rw [show off + vs.length + (q - (min off c0.size + vs.length)) = q by omega]
    exact k1

theorem OpE.copy {x y : Operand} {T T2 e i m n sz g off cap c : Nat} {o' : Own'} {F : Nat → AV} {cs' : List AV} (ho : o.op = .call { callee := .builtin .copy, args := #[x, y], argTypes := #[T, T2] }) (hB : B.Ok) (hd : okd B.nt o.dst = true)
  (hu : P.underlying T = some (.slice e)) (hsz : ∀ w, (sizeOf e).run P w = .ok sz w) (hx : evO s x = some (.v (.slice (some ⟨g, off, none⟩) n cap))) (hi : s.hp[i]? = some (.box g o')) (hy : SrcP P B s y m sz F)
  (hc : c = min m n) (hone : ∀ j, j < c * sz → (F j).one = true) (hfit : off + c * sz ≤ o'.cs.length) (hcs : o'.cs.take off ++ tab (c * sz) F ++ o'.cs.drop (off + c * sz) = cs') (hW : W g)
  (hK : K ((St'.mk s.sl (s.hp.set i (.box g ⟨cs', o'.ty, o'.tot⟩)) s.k).put o.dst (.v (.int .i64 c)))) : OpE P B W s o K := by
 intro a w hr next Qx hn
 obtain ⟨ad, cap2, us, hev, hnil, hsrc⟩ := hy a w hr
 obtain ⟨c0, h1, h2, h3, h4⟩ := hr.blocks _ (List.mem_of_getElem? hi)
 generalize hvs : (List.range (c * sz)).map us = vs
 have hvl : vs.length = c * sz := by rw [← hvs]; simp
 have hvg : ∀ j, j < c * sz → vs[j]? = some (us j) := fun j hj => by rw [← hvs]; simp [hj]
 have hcm : c * sz ≤ m * sz := Nat.mul_le_mul_right _ (by omega)
 have hsp := hr.splice hB (off := off) (l := tab (c * sz) F) (vs := vs) hi h1 (by rw [tab_len, hvl]) (fun j hj => by
  rw [tab_len] at hj
  rw [tab_get, List.getD_eq_getElem?_getD, hvg j hj]
  cases ad with
  | none => have := (hnil rfl).1; subst this; simp at hcm; omega
  | some x0 => exact (hsrc x0 rfl j (by omega)).2) (by rw [tab_len]; exact hfit)
 rw [tab_len, hcs] at hsp
 have hst := run_storeCells_at P g off o'.ty vs 0 c0 w h1 (by rw [hvl]; omega) (fun v hv => by
  obtain ⟨j, hj, rfl⟩ := List.mem_iff_getElem.1 hv
  have hj' : j < c * sz := by omega
  have := hvg j hj'
  rw [List.getElem?_eq_getElem hj] at this
  rw [Option.some.inj this]
  cases ad with
  | none => have := (hnil rfl).1; subst this; simp at hcm; omega
  | some x0 => exact (hsrc x0 rfl j (by omega)).2.oneC (hone j hj'))
 simp only [Nat.add_zero] at hst
 have hfc : (Builtin.firstCells sz c (.slice ad m cap2)).run P w = .ok vs.toArray w := by
  cases ad with
  | none =>
   have := (hnil rfl).1
   subst this
   have : vs = [] := List.eq_nil_of_length_eq_zero (by rw [hvl]; simp at hcm; omega)
   subst this
   rfl
  | some x0 =>
   have hl := run_loadCells_list (P := P) w x0 vs (fun j v hj => by
    have hj' : j < c * sz := by have := (List.getElem?_eq_some_iff.1 hj).1; omega
    rw [hvg j hj'] at hj
    cases hj
    exact (hsrc x0 rfl j (by omega)).1)
   rw [hvl] at hl
   exact hl
 have hmn : Nat.min m n = c := hc.symm
 have hrun : (Builtin.copy_ #[T, T2] o.type #[.slice (some ⟨g, off, none⟩) n cap, .slice ad m cap2]).run P w = .ok (goInt c) (w.setRow g (c0.toList.take off ++ vs ++ c0.toList.drop (off + vs.length)).toArray) := by
  simp only [Builtin.copy_, List.getElem?_toArray, List.getElem?_cons_zero, List.getElem?_cons_succ, run_underlying hu, Builtin.lenOf, hsz, Sem.run_bind, Sem.run_pure, Result.andThen_ok, hmn, hfc, List.toList_toArray, hst]
 unfold Oper.wp
 simp only [execOp, ho, resolve, invoke, builtin, List.map_toArray, List.map_cons, List.map_nil, hr.evv hx, hev, Sem.run_bind, Sem.run_pure, Result.andThen_ok, hrun]
 exact hn _ _ _ hK (hsp.put _ hd _ _ (.v _)) ((chg_setRow w g _).mono fun b _ h => .inr (by cases h; exact hW))

theorem R.swap (hr : R B s a w) {i : Nat} {e e' : Ent} (hi : s.hp[i]? = some e) (hblk : e'.blk = e.blk) (hE : ∀ Z, EntR w Z e → EntR w Z e') : R B ⟨s.sl, s.hp.set i e', s.k⟩ a w := by
 have hil := (List.getElem?_eq_some_iff.1 hi).1
 have hm : ∀ (j : Nat) (p : Ent), (s.hp.set i e')[j]? = some p → ∃ p', s.hp[j]? = some p' ∧ p'.blk = p.blk ∧ (p' = p ∨ (p' = e ∧ p = e')) := fun j p hp => by
  by_cases h : i = j
  ·subst h
   rw [List.getElem?_set_self hil] at hp
   cases hp
   exact ⟨e, hi, hblk.symm, .inr ⟨rfl, rfl⟩⟩
  ·rw [List.getElem?_set_ne h] at hp
   exact ⟨p, hp, rfl, .inl rfl⟩
 have hz : ∀ b, Zn B s.hp w b → Zn B (s.hp.set i e') w b := fun b hb => ⟨hb.1, fun q hq => by
  obtain ⟨j, hj⟩ := List.mem_iff_getElem?.1 hq
  obtain ⟨q', r1, r2, _⟩ := hm j q hj
  rw [← r2]; exact hb.2.1 q' (List.mem_of_getElem? r1), hb.2.2⟩
 refine ⟨fun t x hx => (hr.slots t x hx).keep fun b hb _ => ⟨rfl, hz b hb⟩, hr.size, hr.defs, fun p hp => ?_, ?_, hr.chg, fun p hp g' hg => ?_, hr.res⟩
 ·obtain ⟨j, hj⟩ := List.mem_iff_getElem?.1 hp
  obtain ⟨p', k1, k2, k3⟩ := hm j p hj
  have hE1 := hr.blocks p' (List.mem_of_getElem? k1)
  rcases k3 with rfl | ⟨rfl, rfl⟩
  ·exact hE1.keep (fun b hb _ => ⟨rfl, hz b hb⟩) fun _ _ => rfl
  ·exact (hE _ hE1).keep (fun b hb _ => ⟨rfl, hz b hb⟩) fun _ _ => rfl
 ·refine Apart.of fun j1 j2 p q hij hp hq g' hg1 hg2 => ?_
  obtain ⟨p', k1, k2, _⟩ := hm j1 p hp
  obtain ⟨q', r1, r2, _⟩ := hm j2 q hq
  exact hr.nodup.get k1 r1 (by omega) (k2.trans hg1) (r2.trans hg2)
 ·obtain ⟨j, hj⟩ := List.mem_iff_getElem?.1 hp
  obtain ⟨p', k1, k2, _⟩ := hm j p hj
  exact hr.own p' (List.mem_of_getElem? k1) g' (k2.trans hg)
theorem OpE.clear {x : Operand} {T e i n sz g off cap : Nat} {o' : Own'} {z : Value} (ho : o.op = .call { callee := .builtin .clear, args := #[x], argTypes := #[T] }) (hB : B.Ok) (hd : okd B.nt o.dst = true)
  (hu : P.underlying T = some (.slice e)) (hz : ∀ w, (zeroValue e).run P w = .ok z w) (hzs : z.cells.size = sz) (hz1 : ∀ v ∈ z.cells.toList, v.oneCell' = true) (hx : evO s x = some (.v (.slice (some ⟨g, off, none⟩) n cap))) (hi : s.hp[i]? = some (.box g o'))
  (hfit : off + n * sz ≤ o'.cs.length) (hW : W g)
  (hK : K ((St'.mk s.sl (s.hp.set i (.box g ⟨o'.cs.take off, o'.ty, o'.tot⟩)) s.k).put o.dst (.tup []))) : OpE P B W s o K := by
 intro a w hr next Qx hn
 obtain ⟨c0, h1, h2, h3, h4⟩ := hr.blocks _ (List.mem_of_getElem? hi)
 generalize hvs : (Builtin.zeroCells z.cells n).toList = vs
 have hvl : vs.length = n * sz := by rw [← hvs, Array.length_toList, size_zeroCells, hzs]
 have hvone : ∀ v ∈ vs, v.oneCell' = true := fun v hv => by
  rw [← hvs] at hv
  simp only [Builtin.zeroCells, Array.toList_map, List.mem_map] at hv
  obtain ⟨j, hj, rfl⟩ := hv
  by_cases hzz : z.cells.size = 0
  ·have : vs.length = 0 := by rw [hvl, ← hzs, hzz, Nat.mul_zero]
   have h0 : (Array.range (n * z.cells.size)).toList = [] := by simp [hzz]
   rw [h0] at hj; cases hj
  ·have hlt : j % z.cells.size < z.cells.size := Nat.mod_lt _ (by omega)
   rw [getElem!_pos z.cells _ hlt]
   exact hz1 _ (by simp)
 have hsp := hr.splice hB (off := off) (l := vs.map .v) (vs := vs) hi h1 (by simp) (fun j hj => by
  simp at hj
  rw [List.getElem_map, List.getD_eq_getElem?_getD, List.getElem?_eq_getElem hj]
  exact .v _) (by rw [List.length_map, hvl]; exact hfit)
 have hst := run_storeCells_at P g off o'.ty vs 0 c0 w h1 (by rw [hvl]; omega) hvone
 simp only [Nat.add_zero] at hst
 have hil := (List.getElem?_eq_some_iff.1 hi).1
 have hsh := hsp.swap (i := i) (e := .box g ⟨o'.cs.take off ++ vs.map .v ++ o'.cs.drop (off + (vs.map AV.v).length), o'.ty, o'.tot⟩) (e' := .box g ⟨o'.cs.take off, o'.ty, o'.tot⟩) (by simp [hil]) rfl (fun Z hE => by
  obtain ⟨c, e1, e2, e3, e4⟩ := hE
  refine ⟨c, e1, e2, by simp only at e3 ⊢; simp only [List.length_append, List.length_take] at e3 ⊢; omega, fun q hq => ?_⟩
  have hq' : q < off ∧ q < o'.cs.length := by simp at hq; omega
  obtain ⟨u, r1, r2⟩ := e4 q (by simp; omega)
  refine ⟨u, r1, ?_⟩
  simp only at r2 ⊢
  rw [List.getElem_append_left (by simp; omega), List.getElem_append_left (by simp; omega)] at r2
  exact r2)
 simp only [List.set_set] at hsh
 have hrun : (Builtin.clear_ #[T] o.type #[.slice (some ⟨g, off, none⟩) n cap]).run P w = .ok (.tuple #[]) (w.setRow g (c0.toList.take off ++ vs ++ c0.toList.drop (off + vs.length)).toArray) := by
  cases n with
  | zero =>
   have : vs = [] := List.eq_nil_of_length_eq_zero (by rw [hvl]; simp)
   subst this
   have hs := setRow_self w g c0 o'.ty (0, 0) h1
   simp [Builtin.clear_, run_underlying hu, hs]
  | succ n => simp [Builtin.clear_, run_underlying hu, hz, hvs, hst]
 unfold Oper.wp
 simp only [execOp, ho, resolve, invoke, builtin, List.map_toArray, List.map_cons, List.map_nil, hr.evv hx, Sem.run_bind, Sem.run_pure, Result.andThen_ok, hrun]
 exact hn _ _ _ hK (hsh.put _ hd _ _ (.tup _ _ rfl fun j hj => by simp at hj)) ((chg_setRow w g _).mono fun b _ h => .inr (by cases h; exact hW))

theorem OpE.appendP {x y : Operand} {T e i n m sz bytes : Nat} {u z : Value} {cs cs' : List AV} {F : Nat → AV} (ho : o.op = .call { callee := .builtin .append, args := #[x, y], argTypes := #[T, T] }) (hB : B.Ok) (hd : okd B.nt o.dst = true)
  (hu : P.underlying T = some (.slice e)) (hinfo : (P.info? e).map (fun i => (i.zero, i.size, i.bytes)) = some (some z, sz, bytes)) (hz : z.cells.size = sz) (hsz : 0 < sz) (hby : bytes ≤ 4096)
  (hx : evO s x = some (.v u)) (hi : s.hp[i]? = some (.row u n sz cs e)) (hy : SrcP P B s y m sz F) (hone : ∀ j, j < m * sz → (F j).one = true) (hlen : n + m ≤ 10000000000) (hcs : cs ++ tab (m * sz) F = cs') (hW : ∀ g, u.ownBlock = some g → W g)
  (hK : ∀ u', K ((St'.mk s.sl (s.hp.set i (.row u' (n + m) sz cs' e)) s.k).put o.dst (.v u'))) : OpE P B W s o K := by
 subst hcs
 obtain ⟨ii, hii, hz0, hz1, hz2⟩ := info_parts hinfo
 intro a w hr next Qx hn
 have hmem := List.mem_of_getElem? hi
 obtain ⟨ad, cap2, v2, hv, hnil, hsrc⟩ := hy a w hr
 obtain ⟨hl0, hrow⟩ := hr.blocks _ hmem
 have hil := (List.getElem?_eq_some_iff.1 hi).1
 by_cases hm0 : m = 0
 ·subst hm0
  have hset : s.hp.set i (.row u (n + 0) sz (cs ++ tab (0 * sz) F) e) = s.hp := by
   rw [Nat.zero_mul]
   simp only [tab, List.append_nil, Nat.add_zero]
   apply List.ext_getElem?
   intro j
   rw [List.getElem?_set]
   split
   ·rename_i h; subst h; first | (rw [if_pos hil]; exact hi.symm) | exact hi.symm
   ·rfl
  have hrun : (Builtin.append_ #[T, T] o.type #[u, .slice ad 0 cap2]).run P w = .ok u w := by
   have hf : ∀ w, (Builtin.firstCells sz 0 (.slice ad 0 cap2)).run P w = .ok #[] w := fun w => by
    cases ad with
    | none => rfl
    | some x0 =>
     have := run_loadCells_list (P := P) w x0 [] (fun j v hj => by simp at hj)
     simpa [Builtin.firstCells] using this
   subst hz1
   rcases hrow with ⟨rfl, rfl⟩ | ⟨g, cap, c, rfl, k1, k2, k3, k4, k5⟩
   ·simp [Builtin.append_, run_underlying hu, sizeOf, typeInfo, hii, Builtin.lenOf, hf]
   ·simp [Builtin.append_, run_underlying hu, sizeOf, typeInfo, hii, Builtin.lenOf, hf, k1, storeCells]
  have := hK u
  rw [hset] at this
  unfold Oper.wp
  simp only [execOp, ho, resolve, invoke, builtin, List.map_toArray, List.map_cons, List.map_nil, hr.evv hx, hv, Sem.run_bind, Sem.run_pure, Result.andThen_ok, hrun]
  exact hn _ _ _ this (hr.put _ hd _ _ (.v _)) (Ew.rf _)
 obtain ⟨x0, rfl⟩ : ∃ x0, ad = some x0 := by
  cases ad with
  | none => exact absurd (hnil rfl).1 hm0
  | some x0 => exact ⟨x0, rfl⟩
 obtain ⟨old, hrow', hold⟩ : ∃ old : Nat → Value, ((u = .slice none 0 0 ∧ n = 0) ∨ ∃ g cap c, u = .slice (some ⟨g, 0, none⟩) n cap ∧ n ≤ cap ∧ cap ≤ maxLen ∧ w.heap[g]? = some (.cells c e (0, 0)) ∧ c.size = cap * sz ∧ ∀ j, j < n * sz → c[j]? = some (old j)) ∧
   ∀ j, (h : j < cs.length) → Rep w (Zn B s.hp w) cs[j] (old j) := by
  rcases hrow with ⟨h, rfl⟩ | ⟨g, cap, c, h, k1, k2, k3, k4, k5⟩
  ·exact ⟨fun _ => undef, .inl ⟨h, rfl⟩, fun j hj => by omega⟩
  ·refine ⟨fun j => c.getD j undef, .inr ⟨g, cap, c, h, k1, k2, k3, k4, fun j hj => ?_⟩, fun j hj => ?_⟩
   ·obtain ⟨x, q1, _⟩ := k5 j (by omega)
    exact getD_lt (Array.getElem?_eq_some_iff.1 q1).1
   ·obtain ⟨x, q1, q2⟩ := k5 j hj
    simp only
    rw [show c.getD j undef = x by rw [Array.getD_eq_getD_getElem?, q1]; rfl]
    exact q2
 obtain ⟨g, cap, w', c, hrun, e1, e2', e3, e4, e5, e6, e7, e8⟩ := append_run (P := P) w T o.type e ii z sz bytes hu hii hz0 hz1 hz2 hz hsz hby u n old hrow' x0 m cap2 v2
  (fun j hj => (hsrc x0 rfl j hj).1) (fun j hj => (hsrc x0 rfl j hj).2.oneC (hone j hj)) (by omega) hlen
 have hblk : (Ent.row (.slice (some ⟨g, 0, none⟩) (n + m) cap) (n + m) sz (cs ++ tab (m * sz) F) e).blk = (Ent.row u n sz cs e).blk ∨ ∃ g', (Ent.row (.slice (some ⟨g, 0, none⟩) (n + m) cap) (n + m) sz (cs ++ tab (m * sz) F) e).blk = some g' ∧ w.heap.size ≤ g' := by
  rcases e8 with e8 | e8
  ·exact .inl (by simp only [Ent.blk]; rw [e8]; rfl)
  ·exact .inr ⟨g, rfl, e8⟩
 have hr' := hr.set hB hi (e' := .row (.slice (some ⟨g, 0, none⟩) (n + m) cap) (n + m) sz (cs ++ tab (m * sz) F) e) e7 hblk (by
  have hz : ∀ b, Zn B s.hp w b → b < w.heap.size → w'.heap[b]? = w.heap[b]? ∧ Zn B (s.hp.set i (.row (.slice (some ⟨g, 0, none⟩) (n + m) cap) (n + m) sz (cs ++ tab (m * sz) F) e)) w' b := fun b hb hbl => by
   refine ⟨e7.block b hbl fun h => hb.2.1 _ hmem h, Nat.lt_of_lt_of_le hbl e7.size, fun p hp => ?_, hb.2.2⟩
   rcases List.mem_or_eq_of_mem_set hp with hp | hp
   ·exact hb.2.1 p hp
   ·subst hp
    rcases hblk with h | ⟨g', h, hg'⟩
    ·rw [h]; exact hb.2.1 _ hmem
    ·rw [h]; intro h'; simp at h'; omega
  refine ⟨by rw [List.length_append, hl0, tab_len, Nat.add_mul], .inr ⟨g, cap, c, rfl, e1, e2', e3, e4, fun j hj => ?_⟩⟩
  by_cases hjl : j < cs.length
  ·rw [List.getElem_append_left hjl]
   exact ⟨old j, e5 j (by omega), (hold j hjl).keep hz⟩
  ·rw [List.getElem_append_right (by omega)]
   simp [tab_len] at hj
   refine ⟨v2 (j - cs.length), ?_, ?_⟩
   ·have := e6 (j - cs.length) (by omega)
    rwa [show n * sz + (j - cs.length) = j by omega] at this
   ·rw [tab_get]
    exact (hsrc x0 rfl _ (by omega)).2.keep hz)
 unfold Oper.wp
 simp only [execOp, ho, resolve, invoke, builtin, List.map_toArray, List.map_cons, List.map_nil, hr.evv hx, hv, Sem.run_bind, Sem.run_pure, Result.andThen_ok, hrun]
 exact hn _ _ _ (hK _) (hr'.put _ hd _ _ (.v _)) (e7.mono fun b _ h => .inr (hW b h))

theorem OpE.buildSlice0 {t e sz : Nat} (ho : o.op = .buildSlice t 0 #[]) (hB : B.Ok) (hd : okd B.nt o.dst = true) (hu : P.underlying t = some (.slice e)) (hsz : ∀ w, (sizeOf e).run P w = .ok sz w)
  (hK : ∀ g, K ((St'.mk s.sl (s.hp ++ [.row (.slice (some ⟨g, 0, none⟩) 0 0) 0 sz [] e]) s.k).put o.dst (.v (.slice (some ⟨g, 0, none⟩) 0 0)))) : OpE P B W s o K := by
 intro a w hr next Qx hn
 have h1 := hr.new hB (.cells #[] e) (.row (.slice (some ⟨w.heap.size, 0, none⟩) 0 0) 0 sz [] e) rfl ⟨by simp, .inr ⟨w.heap.size, 0, #[], rfl, Nat.le_refl _, by simp [maxLen], heap_alloc_new w _, by simp, fun j hj => by simp at hj⟩⟩
 have hz0 : ∀ f : Nat → Value, Array.map f (Array.range 0) = #[] := fun f => by
  apply Array.ext (by simp)
  intro i hi
  simp at hi
 have hrun : (execOp a.eval o).run P w = .ok (.value (.slice (some ⟨w.heap.size, 0, none⟩) 0 0)) (w.alloc (.cells #[] e)) := by
  simp only [execOp, ho, Instr.buildSlice, newRow, Sem.run_bind, run_underlying hu, hsz, Result.andThen_ok, Sem.run_pure, Nat.zero_mul, if_true, if_false, hz0]
  simp [Instr.fill, run_newObj_alloc, hz0]
 unfold Oper.wp
 rw [hrun]
 exact hn _ _ _ (hK _) (h1.put _ hd _ _ (.v _)) (.ofN ((Chg.refl _ _).alloc _))

theorem OpE.eqNil {x : Operand} {t u e n sz : Nat} {F : Nat → AV} (ho : o.op = .binOp .eql t x (.const (.slice none 0 0)) u) (hd : okd B.nt o.dst = true) (hu : P.underlying t = some (.slice e)) (hx : evO s x = some (.im n sz F))
  (hK : ∀ b : Bool, (b = true → n = 0) → K (s.put o.dst (avB b))) : OpE P B W s o K := by
 intro a w hr next Qx hn
 have := hr.ev hx
 generalize hv : a.eval x = v at this
 have key : ∃ ad cap, v = .slice ad n cap ∧ (ad = none → n = 0) := by
  cases this with
  | nil => exact ⟨none, 0, rfl, fun _ => rfl⟩
  | im n sz f b off cap c e u hZ h1 h2 hb hc hr' => exact ⟨some ⟨b, off, none⟩, cap, rfl, fun h => (by cases h)⟩
 obtain ⟨ad, cap, rfl, hnil⟩ := key
 have hrun := fun w => Lib.run_eql_slice_nil (P := P) w t e ad n cap 0 0 hu
 have hc : a.eval (.const (.slice none 0 0)) = .slice none 0 0 := rfl
 have hrun' : (execOp a.eval o).run P w = .ok (.value (.bool ad.isNone)) w := by
  simp only [execOp, ho, hv, hc, eqGuard, Sem.run_bind, Sem.run_pure, Result.andThen_ok, hrun]
  simp
 unfold Oper.wp
 rw [hrun']
 exact hn _ _ _ (hK ad.isNone fun h => hnil (by cases ad <;> simp_all)) (hr.put _ hd _ _ (.v _)) (Ew.rf _)
theorem VO.eqNil {ops : Array Oper} {rest : List Oper} {x : Operand} {t u e n sz : Nat} {F : Nat → AV} (hg : o.guard = none) (ho : o.op = .binOp .eql t x (.const (.slice none 0 0)) u) (hd : okd B.nt o.dst = true) (hu : P.underlying t = some (.slice e)) (hx : evO s x = some (.im n sz F))
  (hK : ∀ b : Bool, (b = true → n = 0) → VO P B ops rest Q (s.put o.dst (avB b))) : VO P B ops (o :: rest) Q s := VO.op hg (OpE.eqNil ho hd hu hx hK)

theorem OpV.slice_own {t e sz g off n cap : Nat} {x : Operand} {lo hi : Option Operand} {l h : Nat} (ho : o.op = .slice t x lo hi none) (hu : P.underlying t = some (.slice e)) (hsz : ∀ w, (sizeOf e).run P w = .ok sz w) (hx : evO s x = some (.v (.slice (some ⟨g, off, none⟩) n cap)))
  (hl : BndO s lo 0 l) (hh : BndO s hi n h) (h1 : l ≤ h) (h2 : h ≤ cap) (h3 : l < cap) : OpV P B W s o (.v (.slice (some ⟨g, off + l * sz, none⟩) (h - l) (cap - l))) := fun a w hr => by
 have e := fun w' => sliceB_run (P := P) (isS := true) (len := n) (cap := cap) (l := l) (h := h) (lo := lo.map a.eval) (hi := hi.map a.eval) (dl := (hl.run hr).imp (fun ⟨h1, h2⟩ => ⟨by rw [h1]; rfl, h2⟩) id) (dh := (hh.run hr).imp (fun ⟨h1, h2⟩ => ⟨by rw [h1]; rfl, h2⟩) id) h1 h2 w'
 have hne : ¬ cap = l := by omega
 exact ⟨_, fun w' hc => by simp [execOp, ho, Instr.sliceAt, Instr.slice, run_underlying hu, hr.evv hx, e w', hsz, hne, Addr.add], .v _⟩
end

theorem SpecR.of_VC {P : Program} {F : FuncId} {fn : Func} {c : Code} (hf : P.funcs[F]? = some fn) (hb : fn.body = some c) {xs : List AV} {n sz : Nat} {cs : List AV} {ty : TypeId} {nt : Nat} (hn : fn.ntmps = nt) (hle : xs.length ≤ nt) (hfl : ∀ x ∈ cs, ∃ v, x = .v v)
  (h : ∀ w A, (B0 w A nt).Ok → VC P (B0 w A nt) c (retS P fn fun y s => ∃ u, y = .v u ∧ .row u n sz cs ty ∈ s.hp) ⟨slots0 0 xs, [], 0⟩) : SpecR P F xs n sz cs ty := fun w us ha =>
 (calls_of_VC (k := 0) hf hb (B := B0 w (fun _ => True) nt) rfl hn.symm ha (fun _ h => h.elim) trivial (by omega) (h w _ (B0.ok _ _ _))).mono fun e w' ⟨y, v, s, a, ⟨u, h0, h1⟩, h2, h3, h4⟩ => by
  subst h0
  have hv := h3.eq_v
  subst hv
  refine ⟨_, h2, ?_, fun g hg => ?_, h4.chg⟩
  ·obtain ⟨k0, k1⟩ := h4.blocks _ h1
   refine ⟨k0, k1.imp id fun ⟨g, cap, c, q1, q2, q3, q4, q5, q6⟩ => ⟨g, cap, c, q1, q2, q3, q4, q5, fun j hj => ?_⟩⟩
   obtain ⟨u, r1, r2⟩ := q6 j hj
   obtain ⟨v', hv'⟩ := hfl _ (List.getElem_mem hj)
   refine ⟨u, r1, ?_⟩
   rw [hv'] at r2 ⊢
   rw [r2.eq_v]
   exact .v _
  ·have : ¬ g < w.heap.size := h4.isNew (fun b h => h) h1 hg
   omega

class Sx1 (α : Type) [Inhabited α] where
 cell : α → AV
section
variable {α : Type} [Inhabited α] [Sx1 α]
abbrev avM (xs : List α) : AV := .im xs.length 1 fun j => Sx1.cell (xs.getD j default)
end
instance : Sx1 (List ByteArray) := ⟨fun x => avStrs x⟩
instance : Sx1 (List Int) := ⟨fun x => avInts x⟩
end Go.Proofs.Ytmahammdnmmmoaa
namespace Go.Proofs.Ytmahammdnmmmoaa
open Go.RowKit
set_option linter.unusedVariables false
set_option linter.unusedSimpArgs false

theorem tab_ints (xs : List Int) : tab (xs.length * 1) (fun j => avI (xs.getD j 0)) = intsL xs := by
 apply List.ext_getElem (by rw [tab_len, intsL_len, Nat.mul_one])
 intro i h1 h2
 rw [tab_get]
 rw [intsL_len] at h2
 simp [intsL, h2]
set_option maxRecDepth 100000 in
theorem slices_Clone_R {xs : List Int} (hl : xs.length ≤ 1000000000) :
  SpecR Try.prog 19 [avInts xs] xs.length 1 (intsL xs) 3 := by
 refine SpecR.of_VC Try.func19 rfl Try.ntmps19 (Nle rfl) (by first | exact flat_ints _ | exact flat_strs _ | exact flat_bools _) fun w A hB => ?_
 have hnew : True := trivial
 refine VC.sr ?_
 refine VO.ma rfl rfl rfl rfl ?_
 refine VO.nil ?_
 refine VC.seq ?_
 refine VC.sr ?_
 refine VO.mv rfl rfl rfl rfl ?_
 refine VO.op rfl (OpE.eqNil rfl rfl Try.underlying22 rfl ?_)
 intro b4 hb4
 refine VO.nil ?_
 refine VC.cond rfl (fun h0b => ?_) (fun h0b => ?_)
 ·have h0 := h0b
  try simp only [qqT, qqF, qqN, qqM, qqL, qqE] at h0
  refine VC.sr ?_
  refine VO.ma rfl rfl rfl rfl ?_
  refine VO.nil ?_
  obtain rfl : xs = [] := List.eq_nil_of_length_eq_zero (hb4 h0)
  refine VC.le _ (Le.nilRow 1 3) ?_
  refine VC.ret ?_
  exact Exists.intro _ (And.intro (RetV.one Try.results19 (ResV.tmp rfl)) (⟨_, rfl, List.Mem.head _⟩))
 ·have h0 := h0b
  try simp only [qqT, qqF, qqN, qqM, qqL, qqE] at h0
  refine VC.skip ?_
  refine VC.sr ?_
  refine VO.op rfl (OpE.buildSlice0 rfl hB rfl Try.underlying22 Try.sizeOf3 ?_)
  intro g5
  refine VO.mv rfl rfl rfl rfl ?_
  refine VO.op rfl (OpE.appendP (i := 0) rfl hB rfl Try.underlying22 (infoOf Try.t3 1 (by kernel_rfl) rfl rfl) rfl (by decide) (by decide) rfl rfl (.im rfl) (fun _ _ => rfl) (by omega) (tab_ints xs) (fun _ _ => trivial) ?_)
  intro u7
  refine VO.ma rfl rfl rfl rfl ?_
  refine VO.nil ?_
  rw [Nat.zero_add]
  refine VC.ret ?_
  exact Exists.intro _ (And.intro (RetV.one Try.results19 (ResV.tmp rfl)) (⟨_, rfl, List.Mem.head _⟩))

end Go.Proofs.Ytmahammdnmmmoaa
namespace Go.Proofs.Ytmahammdnmmmoaa
open Go.RowKit
set_option linter.unusedVariables false
set_option linter.unusedSimpArgs false
set_option maxRecDepth 100000 in
theorem kit_Outside {n a b : Int}  :
  SpecN Try.prog 17 [avI n, avI a, avI b] (fun y => y = avB (decide (n < a) || decide (b < n))) := by
 refine SpecN.of_VCN Try.func17 rfl Try.ntmps17 (Nle rfl) fun w A hB => ?_
 have hnew : True := trivial
 refine VC.sr ?_
 refine VO.ma rfl rfl rfl rfl ?_
 refine VO.nil ?_
 refine VC.sr ?_
 refine VO.mv rfl rfl rfl rfl ?_
 refine VO.mv rfl rfl rfl rfl ?_
 refine VO.val rfl rfl (OpV.lss rfl rfl rfl) ?_
 refine VO.mv rfl rfl rfl rfl ?_
 refine VO.opG rfl rfl rfl rfl (fun aK1b => ?_) (fun aK1b => ?_)
 ·replace aK1b : _ = false := aK1b
  have aK1 := aK1b
  try simp only [qqT, qqF, qqN, qqM, qqL, qqE] at aK1
  refine OpE.val (W := NoB) (OpV.move (.inl rfl) rfl) rfl ?_
  refine VO.opY rfl rfl rfl rfl aK1b ?_
  refine OpE.val (W := NoB) (OpV.move (.inl rfl) rfl) rfl ?_
  refine VO.opY rfl rfl rfl rfl aK1b ?_
  refine OpE.val (W := NoB) (OpV.gtr rfl rfl rfl) rfl ?_
  refine VO.val rfl rfl (OpV.pickF rfl rfl rfl rfl aK1b) ?_
  refine VO.ma rfl rfl rfl rfl ?_
  refine VO.nil ?_
  refine VC.ret ?_
  exact Exists.intro _ (And.intro (RetN.one Try.results17 (ResN.v rfl)) (by first | rfl | simp [*]))
 ·replace aK1b : _ = true := aK1b
  have aK1 := aK1b
  try simp only [qqT, qqF, qqN, qqM, qqL, qqE] at aK1
  refine VO.opX rfl rfl rfl rfl aK1b ?_
  refine VO.opX rfl rfl rfl rfl aK1b ?_
  refine VO.val rfl rfl (OpV.pickT rfl rfl rfl rfl aK1b) ?_
  refine VO.ma rfl rfl rfl rfl ?_
  refine VO.nil ?_
  refine VC.ret ?_
  exact Exists.intro _ (And.intro (RetN.one Try.results17 (ResN.v rfl)) (by first | rfl | simp [*]))
end Go.Proofs.Ytmahammdnmmmoaa
namespace Go.Proofs.Ytmahammdnmmmoaa
open Go.RowKit
set_option linter.unusedVariables false
set_option linter.unusedSimpArgs false

theorem bA_beq (a b : ByteArray) : (a == b) = decide (a = b) := by
 cases a with | mk x => cases b with | mk y =>
 have : ((⟨x⟩ : ByteArray) == ⟨y⟩) = (x == y) := rfl
 rw [this, Bool.eq_iff_iff, beq_iff_eq, decide_eq_true_eq]
 exact ⟨fun h => by rw [h], fun h => by cases h; rfl⟩
instance : LawfulBEq ByteArray where
 eq_of_beq h := by rw [bA_beq] at h; exact of_decide_eq_true h
 rfl {a} := by rw [bA_beq]; exact decide_eq_true rfl
theorem lt_succ_cases {q : Nat} {φ : Nat → Prop} (h : ∀ j, j < q → φ j) (hq : φ q) : ∀ j, j < q + 1 → φ j := fun j hj => by
 by_cases e : j = q
 ·rw [e]; exact hq
 ·exact h j (by omega)
theorem eqL_ne {xs ys : List Int} {q : Nat} (h : xs.getD q 0 ≠ ys.getD q 0) : decide (xs = ys) = false := decide_eq_false fun e => h (by rw [e])
theorem eqL_len {xs ys : List Int} (h : (xs.length : Int) ≠ ys.length) : decide (xs = ys) = false := decide_eq_false fun e => h (by rw [e])
theorem eqL_all {xs ys : List Int} {q : Nat} (hl : (xs.length : Int) = ys.length) (hn : ∀ j, j < q → xs.getD j 0 = ys.getD j 0) (hq : xs.length ≤ q) : decide (xs = ys) = true := decide_eq_true (List.ext_getElem (by omega) fun i h1 h2 => by
 have := hn i (by omega)
 simpa [h1, h2] using this)
end Go.Proofs.Ytmahammdnmmmoaa
namespace Go.Proofs.Ytmahammdnmmmoaa
open Go.RowKit
set_option linter.unusedVariables false
set_option linter.unusedSimpArgs false




set_option maxRecDepth 100000 in
theorem slices_Equal_int {xs ys : List Int} (hl : xs.length ≤ 1000000000) (hl' : ys.length ≤ 1000000000) :
  SpecN Try.prog 11 [avInts xs, avInts ys] (fun y => y = avB (decide (xs = ys))) := by
 refine SpecN.of_VCN Try.func11 rfl Try.ntmps11 (Nle rfl) fun w A hB => ?_
 have hnew : True := trivial
 refine VC.sr ?_
 refine VO.ma rfl rfl rfl rfl ?_
 refine VO.nil ?_
 refine VC.seq ?_
 refine VC.sr ?_
 refine VO.mv rfl rfl rfl rfl ?_
 refine VO.val rfl rfl (OpV.len_im rfl Try.underlying22 rfl) ?_
 refine VO.mv rfl rfl rfl rfl ?_
 refine VO.val rfl rfl (OpV.len_im rfl Try.underlying22 rfl) ?_
 refine VO.val rfl rfl (OpV.neq rfl rfl rfl) ?_
 refine VO.nil ?_
 refine VC.cond rfl (fun aH1b => ?_) (fun aH1b => ?_)
 ·have aH1 := aH1b
  try simp only [qqT, qqF, qqN, qqM, qqL, qqE] at aH1
  refine VC.sr ?_
  refine VO.ma rfl rfl rfl rfl ?_
  refine VO.nil ?_
  refine VC.ret ?_
  exact Exists.intro _ (And.intro (RetN.one Try.results11 (ResN.v rfl)) (by first | rw [eqL_len (by omega)] | rw [eqL_ne (q := q) (by omega)] | rw [eqL_all (by omega) hn (by omega)]))
 ·have aH1 := aH1b
  try simp only [qqT, qqF, qqN, qqM, qqL, qqE] at aH1
  refine VC.skip ?_
  refine VC.seq ?_
  refine VC.sr ?_
  refine VO.mv rfl rfl rfl rfl ?_
  refine VO.val rfl rfl (OpV.len_im rfl Try.underlying22 rfl) ?_
  refine VO.mv rfl rfl rfl rfl ?_
  refine VO.nil ?_
  refine VC.block ?_
  refine VC.loopK [] trivial ({q : Nat // q ≤ xs.length ∧ ∀ j, j < q → xs.getD j 0 = ys.getD j 0}) (fun (iZ : {q : Nat // q ≤ xs.length ∧ ∀ j, j < q → xs.getD j 0 = ys.getD j 0}) => match iZ with | ⟨q, hq, hn⟩ => [(0, avInts xs), (1, avInts ys), (12, avI xs.length), (13, avI (q : Int))]) (fun (iZ : {q : Nat // q ≤ xs.length ∧ ∀ j, j < q → xs.getD j 0 = ys.getD j 0}) => match iZ with | ⟨q, hq, hn⟩ => []) (fun (iZ : {q : Nat // q ≤ xs.length ∧ ∀ j, j < q → xs.getD j 0 = ys.getD j 0}) => match iZ with | ⟨q, hq, hn⟩ => 0) (fun (iZ : {q : Nat // q ≤ xs.length ∧ ∀ j, j < q → xs.getD j 0 = ys.getD j 0}) => match iZ with | ⟨q, hq, hn⟩ => xs.length - q) ⟨0, Nat.zero_le _, fun j hj => absurd hj (Nat.not_lt_zero j)⟩ (Le.mk hB [] ⟨rfl, rfl, rfl, rfl, trivial⟩ rfl rfl (Nat.le_refl _)) ?_
  rintro ⟨q, hq, hn⟩
  show VC _ _ _ _ ⟨[(0, avInts xs), (1, avInts ys), (12, avI xs.length), (13, avI (q : Int))] ++ [], [], 0⟩
  refine VC.sr ?_
  refine VO.val rfl rfl (OpV.lss rfl rfl rfl) ?_
  refine VO.nil ?_
  refine VC.seq ?_
  refine VC.cond rfl (fun aH2b => ?_) (fun aH2b => ?_)
  ·have aH2 := aH2b
   try simp only [qqT, qqF, qqN, qqM, qqL, qqE] at aH2
   refine VC.skip ?_
   refine VC.seq ?_
   refine VC.block ?_
   refine VC.sr ?_
   refine VO.mv rfl rfl rfl rfl ?_
   refine VO.ma rfl rfl rfl rfl ?_
   refine VO.nil ?_
   refine VC.seq ?_
   refine VC.draw (fun _ => NoB) hB (by kernel_rfl) ?_
   refine VA.take (i := 0) rfl (by kernel_rfl) (by kernel_rfl) (by kernel_rfl) rfl rfl (OpV.move (.inl rfl) rfl) ?_
   refine VA.take (i := 1) rfl (by kernel_rfl) (by kernel_rfl) (by kernel_rfl) rfl rfl (OpV.move (.inl rfl) rfl) ?_
   refine VA.take (i := 2) rfl (by kernel_rfl) (by kernel_rfl) (by kernel_rfl) rfl rfl (OpV.indexAddr_1 rfl Try.underlying22 Try.sizeOf3 rfl rfl rfl (by omega)) ?_
   refine VA.take (i := 3) rfl (by kernel_rfl) (by kernel_rfl) (by kernel_rfl) rfl rfl (OpV.load_at rfl hB OutW.wi0 Try.isAgg3 rfl rfl) ?_
   refine VA.take (i := 4) rfl (by kernel_rfl) (by kernel_rfl) (by kernel_rfl) rfl rfl (OpV.move (.inl rfl) rfl) ?_
   refine VA.take (i := 5) rfl (by kernel_rfl) (by kernel_rfl) (by kernel_rfl) rfl rfl (OpV.move (.inl rfl) rfl) ?_
   refine VA.take (i := 6) rfl (by kernel_rfl) (by kernel_rfl) (by kernel_rfl) rfl rfl (OpV.indexAddr_1 rfl Try.underlying22 Try.sizeOf3 rfl rfl rfl (by omega)) ?_
   refine VA.take (i := 7) rfl (by kernel_rfl) (by kernel_rfl) (by kernel_rfl) rfl rfl (OpV.load_at rfl hB OutW.wi0 Try.isAgg3 rfl rfl) ?_
   refine VA.take (i := 8) rfl (by kernel_rfl) (by kernel_rfl) (by kernel_rfl) rfl rfl (OpV.neq rfl rfl rfl) ?_
   refine VA.done (by kernel_rfl) ?_
   refine VC.cond rfl (fun aH3b => ?_) (fun aH3b => ?_)
   ·have aH3 := aH3b
    try simp only [qqT, qqF, qqN, qqM, qqL, qqE] at aH3
    refine VC.sr ?_
    refine VO.ma rfl rfl rfl rfl ?_
    refine VO.nil ?_
    refine VC.ret ?_
    exact Exists.intro _ (And.intro (RetN.one Try.results11 (ResN.v rfl)) (by first | rw [eqL_len (by omega)] | rw [eqL_ne (q := q) (by omega)] | rw [eqL_all (by omega) hn (by omega)]))
   ·have aH3 := aH3b
    try simp only [qqT, qqF, qqN, qqM, qqL, qqE] at aH3
    refine VC.skip ?_
    refine VC.region ?_
    refine VO.val rfl rfl (OpV.add rfl rfl rfl (by unfold fits; omega)) ?_
    refine VO.mv rfl rfl rfl rfl ?_
    refine VO.nil ?_
    exact Exists.intro (⟨q + 1, by omega, lt_succ_cases hn (by omega)⟩) (And.intro (Le.mk hB [] ⟨rfl, rfl, rfl, rfl, trivial⟩ rfl rfl (Nat.le_refl _)) (by first | omega | (show _ < _; omega) | (simp only []; omega)))
  ·have aH2 := aH2b
   try simp only [qqT, qqF, qqN, qqM, qqL, qqE] at aH2
   refine VC.exit ?_
   refine VC.sr ?_
   refine VO.ma rfl rfl rfl rfl ?_
   refine VO.nil ?_
   refine VC.ret ?_
   exact Exists.intro _ (And.intro (RetN.one Try.results11 (ResN.v rfl)) (by first | rw [eqL_len (by omega)] | rw [eqL_ne (q := q) (by omega)] | rw [eqL_all (by omega) hn (by omega)]))
end Go.Proofs.Ytmahammdnmmmoaa
namespace Go.Proofs.Ytmahammdnmmmoaa
open Go.RowKit
set_option linter.unusedVariables false
set_option linter.unusedSimpArgs false

abbrev pt (g : Nat) : AV := .v (.pointer (some ⟨g, 0, none⟩))
abbrev ptv (g : Nat) : Value := .pointer (some ⟨g, 0, none⟩)

end Go.Proofs.Ytmahammdnmmmoaa
namespace Go.Proofs.Ytmahammdnmmmoaa
open Go.RowKit
set_option linter.unusedVariables false
set_option linter.unusedSimpArgs false

section
variable {P : Program} {B : Bs} {W : Nat → Prop} {s s' : St'} {o : Oper} {K : St' → Prop} {a : Act} {w w' : World} {Q : Exit → St' → Prop}

theorem Le.pickH {hp : List Ent} (ix : List Nat) (hix : ndB ix = true) (h3 : keepIx ix s.hp = hp) : Le B s ⟨s.sl, hp, s.k⟩ := fun a w hr => by
 subst h3
 have hm : ∀ p ∈ keepIx ix s.hp, p ∈ s.hp := fun p hp => by
  rw [keepIx_fm] at hp
  obtain ⟨i, _, hi⟩ := List.mem_filterMap.1 hp
  exact List.mem_of_getElem? hi
 have hz : ∀ b, Zn B s.hp w b → Zn B (keepIx ix s.hp) w b := fun b hb => ⟨hb.1, fun p hp' => hb.2.1 p (hm p hp'), hb.2.2⟩
 refine ⟨fun t x hx => (hr.slots t x hx).keep fun b hb _ => ⟨rfl, hz b hb⟩, hr.size, hr.defs, fun p hp' => (hr.blocks p (hm p hp')).keep (fun b hb _ => ⟨rfl, hz b hb⟩) fun _ _ => rfl, ?_, hr.chg, fun p hp' g hg => hr.own p (hm p hp') g hg, hr.res⟩
 show Apart (keepIx ix s.hp)
 unfold Apart
 rw [keepIx_fm, List.pairwise_filterMap]
 refine (ndB_spec hix).imp fun {i j} hij p hp q hq g hg => hr.nodup.get hp hq hij hg
theorem Le.drop (m : Nat) : Le B s ⟨s.sl, s.hp.drop m, s.k⟩ := fun a w hr => hr.drop (fun _ _ h => h) (List.drop_sublist m s.hp)
theorem VO.rowIs {ops : Array Oper} {rest : List Oper} {i n sz : Nat} {u : Value} {cs : List AV} {ty : TypeId} (hi : s.hp[i]? = some (.row u n sz cs ty)) (h : ∀ b c, u = .slice b n c → VO P B ops rest Q s) : VO P B ops rest Q s := fun a w hr => by
 obtain ⟨_, ⟨rfl, rfl⟩ | ⟨g, cap, c, rfl, _⟩⟩ := hr.blocks _ (List.mem_of_getElem? hi)
 ·exact h none 0 rfl a w hr
 ·exact h _ cap rfl a w hr
theorem VC.rowIs {c0 : Code} {Qc : Exit → St' → Prop} {i n sz : Nat} {u : Value} {cs : List AV} {ty : TypeId} (hi : s.hp[i]? = some (.row u n sz cs ty)) (h : ∀ b c, u = .slice b n c → VC P B c0 Qc s) : VC P B c0 Qc s := fun a w hr => by
 obtain ⟨_, ⟨rfl, rfl⟩ | ⟨g, cap, c, rfl, _⟩⟩ := hr.blocks _ (List.mem_of_getElem? hi)
 ·exact h none 0 rfl a w hr
 ·exact h _ cap rfl a w hr
theorem look_k {l : List (Nat × AV)} {t : Nat} {b want : Bool} (h : look l t = some (.v (.bool b))) (hb : b = want) : look l t = some (.v (.bool want)) := hb ▸ h
theorem SpecH.args {F : FuncId} {xs xs' : List AV} {hp : List Ent} {G : AV → List Ent → Prop} (h : SpecH P F xs hp G) (hl : xs'.length = xs.length) (ha : ∀ (j : Nat) (h1 : j < xs'.length) (h2 : j < xs.length) (w : World) (Z : Nat → Prop) (u : Value), Rep w Z xs'[j] u → Rep w Z xs[j] u) : SpecH P F xs' hp G :=
 fun w A us h1 => h w A us ⟨h1.1.trans hl, fun j hj => ha j (by omega) hj _ _ _ (h1.2 j (by omega))⟩
theorem ArgP.nil {x : Operand} {sz : Nat} {F : Nat → AV} (h : evO s x = some (.v (.slice none 0 0))) : ArgP P B s x (.im 0 sz F) := fun a w hr => by
 rw [hr.evv h]
 exact .nil _ _
end
instance : Sx1 (List (List ByteArray)) := ⟨fun x => avM x⟩
instance : Sx1 (List (List Int)) := ⟨fun x => avM x⟩
end Go.Proofs.Ytmahammdnmmmoaa
namespace Go.Proofs.Ytmahammdnmmmoaa
open Go.RowKit
set_option linter.unusedVariables false
set_option linter.unusedSimpArgs false

abbrev enFn (gS gBf gC gBo gE gBe gM gT : Nat) : Value := .func (.func 20) #[] #[ptv gS, ptv gBf, ptv gC, ptv gBo, ptv gE, ptv gBe, ptv gM, ptv gT]
abbrev enH (gS gBf g gC gBo gE gBe gM gT : Nat) (c : List Int) (n m nb tot : Nat) (goal : Int) (b be : List Int) (ub : Value) : List Ent :=
  [.box gS ⟨[avI (sumL be)], 3, 1⟩, .box gBf ⟨[.v (.slice (some ⟨g, 0, none⟩) n n)], 22, 1⟩, .box g ⟨intsL b, 3, tot⟩, .box gC ⟨[avInts c], 22, 1⟩, .box gBo ⟨[avI nb], 3, 1⟩,
   .box gE ⟨[avI goal], 3, 1⟩, .box gBe ⟨[.v ub], 22, 1⟩, .row ub be.length 1 (intsL be) 3, .box gM ⟨[avI m], 3, 1⟩, .box gT ⟨[.v (enFn gS gBf gC gBo gE gBe gM gT)], 46, 1⟩]
abbrev enE (c : List Int) (nb : Nat) (goal : Int) (l : List Int) : Bool := endT c l nb == goal
abbrev enArgs (gS gBf gC gBo gE gBe gM gT : Nat) : List AV := [pt gS, pt gBf, pt gC, pt gBo, pt gE, pt gBe, pt gM, pt gT]
abbrev enG (gS gBf g gC gBo gE gBe gM gT : Nat) (c : List Int) (n m nb tot : Nat) (goal : Int) (b : List Int) (i : Nat) (be2 : List Int) (y : AV) (hp' : List Ent) : Prop :=
 y = .tup [] ∧ ∃ b' ub', Good n m b' ∧ b'.take i = b.take i ∧ hp' = enH gS gBf g gC gBo gE gBe gM gT c n m nb tot goal b' be2 ub'
theorem Good.set {n m i : Nat} {b : List Int} {x : Int} (h : Good n m b) (hx : 0 ≤ x ∧ x ≤ (m : Int)) : Good n m (b.set i x) :=
 ⟨by rw [List.length_set]; exact h.1, fun y hy => by rcases List.mem_or_eq_of_mem_set hy with h' | rfl; exact h.2 y h'; exact hx⟩
theorem Good.sum {n m : Nat} {b : List Int} (h : Good n m b) (i : Nat) : 0 ≤ sumL (b.take i) ∧ sumL (b.take i) ≤ n * m := by
 have hb := sumL_bd (m : Int) (by omega) (b.take i) (fun x hx => h.2 x (List.mem_of_mem_take hx))
 refine ⟨hb.1, Int.le_trans hb.2 ?_⟩
 have : (b.take i).length ≤ n := by rw [← h.1]; simp; omega
 exact Int.mul_le_mul_of_nonneg_right (by omega) (by omega)
theorem take_set_succ {b : List Int} {i : Nat} {x : Int} (h : i < b.length) : (b.set i x).take (i + 1) = b.take i ++ [x] := by
 rw [List.take_succ_eq_append_getElem (by rw [List.length_set]; exact h), List.getElem_set_self, List.take_set_of_le (Nat.le_refl _)]
set_option maxRecDepth 100000 in
theorem enTry {gS gBf g gC gBo gE gBe gM gT : Nat} {c b0 : List Int} {n m nb tot : Nat} {goal : Int} {i r : Nat} {b be : List Int} {ub : Value} {iv uv : Int} (hf : flowF c b0 nb = 0) (hb0 : b0.length = n) (hi : i + r = n) (hb : Good n m b) (hbe : Good n m be) (hn6 : n ≤ 6) (hm3 : m ≤ 3) (hiv : iv = i) (huv : uv = sumL (b.take i)) (hnb : 1 ≤ nb ∧ nb ≤ 2000) (ih : ∀ r', r = r' + 1 → ∀ b' be' ub' iv' uv', Good n m b' → Good n m be' → iv' = ((i + 1 : Nat) : Int) → uv' = sumL (b'.take (i + 1)) → SpecH Try.prog 20 ([avI iv', avI uv'] ++ enArgs gS gBf gC gBo gE gBe gM gT) (enH gS gBf g gC gBo gE gBe gM gT c n m nb tot goal b' be' ub') (enG gS gBf g gC gBo gE gBe gM gT c n m nb tot goal b' (i + 1) (srch (stpP (enE c nb goal)) m r' (b'.take (i + 1)) be'))) :
  SpecH Try.prog 20 [avI iv, avI uv, pt gS, pt gBf, pt gC, pt gBo, pt gE, pt gBe, pt gM, pt gT] (enH gS gBf g gC gBo gE gBe gM gT c n m nb tot goal b be ub) (enG gS gBf g gC gBo gE gBe gM gT c n m nb tot goal b i (srch (stpP (enE c nb goal)) m r (b.take i) be)) := by
 have hS := hb.sum i
 have hnm : ((n * m : Nat) : Int) ≤ 18 := by have := Nat.mul_le_mul hn6 hm3; omega
 have hS2 : sumL (b.take i) ≤ 18 := by have := hS.2; push_cast at hnm; omega
 have hbl := hb.1
 subst hiv
 subst huv
 refine SpecH.of_VC Try.func20 rfl Try.ntmps20 (Nle rfl) fun w A hB => ?_
 have hnew : True := trivial
 refine VC.seq ?_
 refine VC.sr ?_
 refine VO.mv rfl rfl rfl rfl ?_
 refine VO.val rfl rfl (OpV.load_own (i := 0) rfl hB Try.isAgg3 rfl rfl rfl (fun h => h)) ?_
 refine VO.val rfl rfl (OpV.geq rfl rfl rfl) ?_
 refine VO.nil ?_
 refine VC.cond rfl (fun h0b => ?_) (fun h0b => ?_)
 ·have h0 := h0b
  try simp only [qqT, qqF, qqN, qqM, qqL, qqE] at h0
  refine VC.ret ?_
  exact Exists.intro _ (And.intro (RetV.none Try.results20) (⟨rfl, b, ub, hb, rfl, by rw [srch_prune _ _ _ _ _ (by omega)]; rfl⟩))
 ·have h0 := h0b
  try simp only [qqT, qqF, qqN, qqM, qqL, qqE] at h0
  refine VC.skip ?_
  refine VC.seq ?_
  refine VC.sr ?_
  refine VO.mv rfl rfl rfl rfl ?_
  refine VO.val rfl rfl (OpV.load_own (i := 1) rfl hB Try.isAgg22 rfl rfl rfl (fun h => h)) ?_
  refine VO.val rfl rfl (OpV.len_v rfl Try.underlying22 rfl) ?_
  refine VO.val rfl rfl (OpV.eql rfl rfl rfl) ?_
  refine VO.nil ?_
  refine VC.cond rfl (fun h1b => ?_) (fun h1b => ?_)
  ·have h1 := h1b
   try simp only [qqT, qqF, qqN, qqM, qqL, qqE] at h1
   obtain rfl : i = n := by omega
   obtain rfl : r = 0 := by omega
   have hbt : b.take i = b := List.take_of_length_le (by omega)
   rw [hbt] at h0
   rw [hbt]
   refine VC.seq ?_
   refine VC.seq ?_
   refine VC.draw (fun _ => NoB) hB (by kernel_rfl) ?_
   refine VA.take (i := 0) rfl (by kernel_rfl) (by kernel_rfl) (by kernel_rfl) rfl rfl (OpV.load_own (i := 3) rfl hB Try.isAgg22 rfl rfl rfl Wi.not0) ?_
   refine VA.take (i := 1) rfl (by kernel_rfl) (by kernel_rfl) (by kernel_rfl) rfl rfl (OpV.load_own (i := 1) rfl hB Try.isAgg22 rfl rfl rfl Wi.not0) ?_
   refine VA.take (i := 2) rfl (by kernel_rfl) (by kernel_rfl) (by kernel_rfl) rfl rfl (OpV.load_own (i := 4) rfl hB Try.isAgg3 rfl rfl rfl Wi.not0) ?_
   refine VA.take (i := 4) rfl (by kernel_rfl) (by kernel_rfl) (by kernel_rfl) rfl rfl (OpV.load_own (i := 5) rfl hB Try.isAgg3 rfl rfl rfl Wi.not0) ?_
   refine VA.all (rs := [3]) (by kernel_rfl) (by decide) ?_
   refine ⟨⟨_, rfl, .inl rfl, ?_⟩, trivial⟩
   refine OpE.callL rfl hB rfl Try.call18 (line_end_S (right_small hf (by rw [hb0, hbl]) (fun x hx => (hb.2 x hx).1)) hnb.1 hnb.2) (ArgsP.cons (ArgP.ev rfl) (ArgsP.cons (ArgP.boxI (i := 2) rfl rfl (by rw [hbl]) (Nat.le_refl _) (capM (by omega))) (ArgsP.cons (ArgP.ev rfl) (ArgsP.nil)))) ?_
   rintro _ rfl
   refine VA.take (i := 5) rfl (by kernel_rfl) (by kernel_rfl) (by kernel_rfl) rfl rfl (OpV.eql rfl rfl rfl) ?_
   refine VA.done (by kernel_rfl) ?_
   refine VC.cond rfl (fun h2b => ?_) (fun h2b => ?_)
   ·have h2 := h2b
    try simp only [qqT, qqF, qqN, qqM, qqL, qqE] at h2
    refine VC.region ?_
    refine VO.val rfl rfl (OpV.load_own (i := 1) rfl hB Try.isAgg22 rfl rfl rfl (fun h => h)) ?_
    refine VO.op rfl (OpE.callR rfl hB rfl Try.call19 (slices_Clone_R (by omega)) (ArgsP.cons (ArgP.boxI (i := 2) rfl rfl (by rw [hbl]) (Nat.le_refl _) (capM (by omega))) (ArgsP.nil)) ?_)
    intro u3
    refine VO.rowIs (i := 10) rfl (fun b27 c27 hu27 => ?_)
    subst hu27
    refine VO.mv rfl rfl rfl rfl ?_
    refine VO.op rfl (OpE.store (i := 6) rfl hB rfl Try.sizeOf22 rfl rfl rfl rfl rfl rfl (Nle rfl) trivial ?_)
    refine VO.op rfl (OpE.store (i := 0) rfl hB rfl Try.sizeOf3 rfl rfl rfl rfl rfl rfl (Nle rfl) trivial ?_)
    refine VO.nil ?_
    refine VC.le ⟨[], enH gS gBf g gC gBo gE gBe gM gT c _ m nb tot goal b b (.slice b27 b.length c27), 0⟩ (Le.pick hB [0, 1, 2, 3, 4, 5, 6, 10, 8, 9] trivial rfl (by rfl) (Nat.le_refl _)) ?_
    refine VC.ret ?_
    exact Exists.intro _ (And.intro (RetV.none Try.results20) (⟨rfl, b, .slice b27 b.length c27, hb, rfl, by rw [srch, stpP, if_pos (by simp [enE, h2]; try omega)]⟩))
   ·have h2 := h2b
    try simp only [qqT, qqF, qqN, qqM, qqL, qqE] at h2
    refine VC.skip ?_
    refine VC.ret ?_
    exact Exists.intro _ (And.intro (RetV.none Try.results20) (⟨rfl, b, ub, hb, rfl, by rw [srch, stpP, if_neg (by simp [enE, h2])]; rfl⟩))
  ·have h1 := h1b
   try simp only [qqT, qqF, qqN, qqM, qqL, qqE] at h1
   obtain ⟨r', rfl⟩ : ∃ r', r = r' + 1 := ⟨r - 1, by omega⟩
   refine VC.skip ?_
   refine VC.sr ?_
   refine VO.val rfl rfl (OpV.load_own (i := 8) rfl hB Try.isAgg3 rfl rfl rfl (fun h => h)) ?_
   refine VO.val rfl rfl (OpV.add rfl rfl rfl (by unfold fits; omega)) ?_
   refine VO.mv rfl rfl rfl rfl ?_
   refine VO.nil ?_
   refine VC.block ?_
   refine VC.loopK [(0, _), (1, _), (3, _), (9, _), (30, _)] ⟨rfl, rfl, rfl, rfl, rfl, trivial⟩ ({t : Nat × List Int × Value // t.1 ≤ m + 1 ∧ Good n m t.2.1 ∧ t.2.1.take i = b.take i}) (fun (iZ : {t : Nat × List Int × Value // t.1 ≤ m + 1 ∧ Good n m t.2.1 ∧ t.2.1.take i = b.take i}) => match iZ with | ⟨⟨x, b', ub'⟩, hx, hb', hbt'⟩ => [(31, avI (x : Int))]) (fun (iZ : {t : Nat × List Int × Value // t.1 ≤ m + 1 ∧ Good n m t.2.1 ∧ t.2.1.take i = b.take i}) => match iZ with | ⟨⟨x, b', ub'⟩, hx, hb', hbt'⟩ => (enH gS gBf g gC gBo gE gBe gM gT c n m nb tot goal b' (srchTo (stpP (enE c nb goal)) m r' (b.take i) be x) ub')) (fun (iZ : {t : Nat × List Int × Value // t.1 ≤ m + 1 ∧ Good n m t.2.1 ∧ t.2.1.take i = b.take i}) => match iZ with | ⟨⟨x, b', ub'⟩, hx, hb', hbt'⟩ => 0) (fun (iZ : {t : Nat × List Int × Value // t.1 ≤ m + 1 ∧ Good n m t.2.1 ∧ t.2.1.take i = b.take i}) => match iZ with | ⟨⟨x, b', ub'⟩, hx, hb', hbt'⟩ => m + 1 - x) ⟨(0, b, ub), Nat.zero_le _, hb, rfl⟩ (Le.mkP hB ⟨rfl, rfl, rfl, rfl, rfl, rfl, trivial⟩ (List.Sublist.refl _) (List.Perm.refl _) (Nat.le_refl _)) ?_
   rintro ⟨⟨x, b', ub'⟩, hx, hb', hbt'⟩
   show VC _ _ _ _ ⟨[(31, avI (x : Int))] ++ [(0, _), (1, _), (3, _), (9, _), (30, _)], (enH gS gBf g gC gBo gE gBe gM gT c n m nb tot goal b' (srchTo (stpP (enE c nb goal)) m r' (b.take i) be x) ub'), 0⟩
   simp only at hx hb' hbt'
   have hbl' := hb'.1
   refine VC.sr ?_
   refine VO.val rfl rfl (OpV.lss rfl rfl rfl) ?_
   refine VO.nil ?_
   refine VC.seq ?_
   refine VC.cond rfl (fun aH1b => ?_) (fun aH1b => ?_)
   ·have aH1 := aH1b
    try simp only [qqT, qqF, qqN, qqM, qqL, qqE] at aH1
    refine VC.skip ?_
    refine VC.seq ?_
    refine VC.block ?_
    refine VC.sr ?_
    refine VO.mv rfl rfl rfl rfl ?_
    refine VO.ma rfl rfl rfl rfl ?_
    refine VO.nil ?_
    refine VC.sr ?_
    refine VO.val rfl rfl (OpV.load_own (i := 1) rfl hB Try.isAgg22 rfl rfl rfl (fun h => h)) ?_
    refine VO.mv rfl rfl rfl rfl ?_
    refine VO.mv rfl rfl rfl rfl ?_
    refine VO.val rfl rfl (OpV.indexAddr_o rfl Try.underlying22 Try.sizeOf3 rfl rfl rfl (by omega)) ?_
    refine VO.op rfl (OpE.store1 (i := 2) rfl hB rfl Try.sizeOf3 rfl rfl rfl rfl rfl rfl (by rw [intsL_len]; omega) (intsL_set _ _ _) trivial ?_)
    refine VO.nil ?_
    refine VC.region ?_
    refine VO.val rfl rfl (OpV.load_own (i := 9) rfl hB Try.isAgg46 rfl rfl rfl (fun h => h)) ?_
    refine VO.mv rfl rfl rfl rfl ?_
    refine VO.val rfl rfl (OpV.add rfl rfl rfl (by unfold fits; omega)) ?_
    refine VO.mv rfl rfl rfl rfl ?_
    refine VO.mv rfl rfl rfl rfl ?_
    refine VO.val rfl rfl (OpV.add rfl rfl rfl (by unfold fits; omega)) ?_
    refine VO.op rfl (OpE.callH (rest := []) rfl hB rfl Try.call20 rfl rfl (ih r' rfl (b'.set i (x : Int)) _ ub' _ _ (hb'.set ⟨by omega, by omega⟩) (srchTo_good (stpP_or _) n m r' (b.take i) be (by simp; omega) (fun y hy => hb.2 y (List.mem_of_mem_take hy)) hbe x (by omega)) (by push_cast; rfl) (by rw [take_set_succ (by rw [hb'.1]; omega), hbt', sumL_append]; simp [sumL])) (List.Perm.refl _) (fun _ _ => trivial) ?_)
    rintro _ _ ⟨rfl, b2, ub2, hb2, hbt2, rfl⟩
    refine VO.nil ?_
    refine VC.region ?_
    refine VO.val rfl rfl (OpV.add rfl rfl rfl (by unfold fits; omega)) ?_
    refine VO.mv rfl rfl rfl rfl ?_
    refine VO.nil ?_
    exact Exists.intro (⟨(x + 1, b2, ub2), by show _ ≤ _; omega, hb2, by show b2.take i = b.take i; have h := congrArg (List.take i) hbt2; rw [List.take_take, List.take_take, Nat.min_eq_left (by omega)] at h; rw [h, List.take_set_of_le (Nat.le_refl _)]; exact hbt'⟩) (And.intro (Le.mkP hB ⟨rfl, rfl, rfl, rfl, rfl, rfl, trivial⟩ (List.Sublist.refl _) (by first | exact List.Perm.refl _ | (dsimp only; rw [srchTo_succ, take_set_succ (by rw [hb'.1]; omega), hbt']; exact List.Perm.refl _)) (Nat.le_refl _)) (by first | omega | (show _ < _; omega) | (simp only []; omega)))
   ·have aH1 := aH1b
    try simp only [qqT, qqF, qqN, qqM, qqL, qqE] at aH1
    refine VC.exit ?_
    exact Exists.intro _ (And.intro (RetV.none Try.results20) (⟨rfl, b', ub', hb', hbt', by obtain rfl : x = m + 1 := (by omega); rfl⟩))
theorem enTry_all {gS gBf g gC gBo gE gBe gM gT : Nat} {c b0 : List Int} {n m nb tot : Nat} {goal : Int} (hf : flowF c b0 nb = 0) (hb0 : b0.length = n) (hn6 : n ≤ 6) (hm3 : m ≤ 3) (hnb : 1 ≤ nb ∧ nb ≤ 2000) :
  ∀ (r i : Nat) (b be : List Int) (ub : Value) (iv uv : Int), i + r = n → Good n m b → Good n m be → iv = i → uv = sumL (b.take i) →
  SpecH Try.prog 20 ([avI iv, avI uv] ++ enArgs gS gBf gC gBo gE gBe gM gT) (enH gS gBf g gC gBo gE gBe gM gT c n m nb tot goal b be ub) (enG gS gBf g gC gBo gE gBe gM gT c n m nb tot goal b i (srch (stpP (enE c nb goal)) m r (b.take i) be)) := by
 intro r
 induction r with
 | zero => intro i b be ub iv uv h1 h2 h3 h4 h5; exact enTry hf hb0 h1 h2 h3 hn6 hm3 h4 h5 hnb (fun r' h => by omega)
 | succ r ih =>
  intro i b be ub iv uv h1 h2 h3 h4 h5
  refine enTry hf hb0 h1 h2 h3 hn6 hm3 h4 h5 hnb (fun r' h b' be' ub' iv' uv' k1 k2 k3 k4 => ?_)
  obtain rfl : r' = r := by omega
  exact ih (i + 1) b' be' ub' iv' uv' (by omega) k1 k2 k3 k4
theorem good_rep (n m : Nat) : Good n m (List.replicate n (m : Int)) := ⟨by simp, fun x hx => by rw [List.eq_of_mem_replicate hx]; omega⟩
theorem enoughF_1 {c : List Int} {n m : Int} (h : cycF c ≠ 0) : enoughF c n m = cycF c := by rw [enoughF, if_pos h]
theorem enoughF_2 {c : List Int} {n m : Int} (h : cycF c = 0) (h2 : (outB 1 2000 n || outB 0 3 m) = true) : enoughF c n m = 1 := by rw [enoughF, if_neg (by omega), if_pos h2]
theorem enoughF_0 {c : List Int} {n m : Int} (h : cycF c = 0) (h2 : (outB 1 2000 n || outB 0 3 m) = false) : enoughF c n m = 0 := by rw [enoughF, if_neg (by omega), if_neg (by rw [h2]; simp)]
def repL (n : Nat) (m : Int) (q : Nat) : List Int := List.replicate q m ++ List.replicate (n - q) 0
theorem repL_len {n q : Nat} {m : Int} (h : q ≤ n) : (repL n m q).length = n := by simp [repL]; omega
theorem repL_0 (n : Nat) (m : Int) : repL n m 0 = List.replicate n 0 := by simp [repL]
theorem repL_all (n : Nat) (m : Int) : repL n m n = List.replicate n m := by simp [repL]
theorem repL_set {n q : Nat} {m : Int} (h : q < n) : (repL n m q).set q m = repL n m (q + 1) := by
 unfold repL
 rw [List.set_append_right _ _ (by simp), List.length_replicate, Nat.sub_self]
 have e : n - q = (n - (q + 1)) + 1 := by omega
 rw [e, List.replicate_succ, List.set_cons_zero]
 rw [List.replicate_succ', List.append_assoc]; rfl
theorem OpV.makeFunc8 {P : Program} {B : Bs} {W : Nat → Prop} {s : St'} {o : Oper} {fn : Fn} {c1 c2 c3 c4 c5 c6 c7 c8 : Operand} {u1 u2 u3 u4 u5 u6 u7 u8 : Value} (ho : o.op = .makeFunc fn #[] #[c1, c2, c3, c4, c5, c6, c7, c8]) (h1 : evO s c1 = some (.v u1)) (h2 : evO s c2 = some (.v u2)) (h3 : evO s c3 = some (.v u3)) (h4 : evO s c4 = some (.v u4)) (h5 : evO s c5 = some (.v u5)) (h6 : evO s c6 = some (.v u6)) (h7 : evO s c7 = some (.v u7)) (h8 : evO s c8 = some (.v u8)) : OpV P B W s o (.v (.func fn #[] #[u1, u2, u3, u4, u5, u6, u7, u8])) :=
 OpV.makeFunc ho fun a w hr => by simp [hr.evv h1, hr.evv h2, hr.evv h3, hr.evv h4, hr.evv h5, hr.evv h6, hr.evv h7, hr.evv h8]
end Go.Proofs.Ytmahammdnmmmoaa
namespace Go.Proofs.Ytmahammdnmmmoaa
open Go.RowKit
set_option linter.unusedVariables false
set_option linter.unusedSimpArgs false
set_option maxRecDepth 100000 in
set_option maxHeartbeats 4000000 in
theorem line_Enough {c : List Int} {nb m : Int} (hc : c.length ≤ 1000000) :
  SpecH Try.prog 6 [avInts c, avI nb, avI m] [] (fun y hp' => ∃ u, y = .tup [.v u, avI (enoughF c nb m)] ∧ hp' = [.row u ((enoughR c nb m).length) (1) (intsL (enoughR c nb m)) (3)]) := by
 refine SpecH.of_VC Try.func6 rfl Try.ntmps6 (Nle rfl) fun w A hB => ?_
 have hnew : True := trivial
 refine VC.sr ?_
 refine VO.op rfl (OpE.box rfl hB rfl rfl rfl ?_)
 intro gC
 refine VO.op rfl (OpE.box rfl hB rfl rfl rfl ?_)
 intro gBo
 refine VO.op rfl (OpE.box rfl hB rfl rfl rfl ?_)
 intro gM
 refine VO.ma rfl rfl rfl rfl ?_
 refine VO.ma rfl rfl rfl rfl ?_
 refine VO.nil ?_
 refine VC.seq ?_
 refine VC.sr ?_
 refine VO.val rfl rfl (OpV.load_own (i := 0) rfl hB Try.isAgg22 rfl rfl rfl (fun h => h)) ?_
 refine VO.op rfl (OpE.call rfl hB rfl Try.call16 rfl (SpecN.spec (line_cyclesFault_S)) ?_)
 rintro _ rfl
 refine VO.ma rfl rfl rfl rfl ?_
 refine VO.nil ?_
 refine VC.sr ?_
 refine VO.mv rfl rfl rfl rfl ?_
 refine VO.val rfl rfl (OpV.neq rfl rfl rfl) ?_
 refine VO.nil ?_
 refine VC.cond rfl (fun h0b => ?_) (fun h0b => ?_)
 ·have h0 := h0b
  try simp only [qqT, qqF, qqN, qqM, qqL, qqE] at h0
  have hE : enoughF c nb m = cycF c := enoughF_1 h0
  rw [enoughR, if_neg (by rw [hE]; exact h0), hE]
  refine VC.sr ?_
  refine VO.mv rfl rfl rfl rfl ?_
  refine VO.ma rfl rfl rfl rfl ?_
  refine VO.ma rfl rfl rfl rfl ?_
  refine VO.nil ?_
  refine VC.le _ (Le.nilRow 1 3) ?_
  refine VC.le ⟨[(6, _), (7, _)], [_], 0⟩ (Le.pick hB [3] ⟨rfl, rfl, trivial⟩ rfl rfl (Nat.le_refl _)) ?_
  refine VC.ret ?_
  exact Exists.intro _ (And.intro (RetV.two Try.results6 (ResV.tmp rfl) (ResV.tmp rfl)) (⟨_, rfl, rfl⟩))
 ·have h0 := h0b
  try simp only [qqT, qqF, qqN, qqM, qqL, qqE] at h0
  refine VC.skip ?_
  refine VC.seq ?_
  refine VC.sr ?_
  refine VO.val rfl rfl (OpV.load_own (i := 1) rfl hB Try.isAgg3 rfl rfl rfl (fun h => h)) ?_
  refine VO.op rfl (OpE.call rfl hB rfl Try.call17 rfl (SpecN.spec (kit_Outside)) ?_)
  rintro _ rfl
  refine VO.mv rfl rfl rfl rfl ?_
  refine VO.opG rfl rfl rfl rfl (fun aK1b => ?_) (fun aK1b => ?_)
  ·replace aK1b : _ = false := aK1b
   have aK1 := aK1b
   try simp only [qqT, qqF, qqN, qqM, qqL, qqE] at aK1
   refine OpE.val (W := NoB) (OpV.load_own (i := 2) rfl hB Try.isAgg3 rfl rfl rfl (fun h => h)) rfl ?_
   refine VO.opY rfl rfl rfl rfl aK1b ?_
   refine OpE.call rfl hB rfl Try.call17 rfl (SpecN.spec (kit_Outside)) ?_
   rintro _ rfl
   refine VO.val rfl rfl (OpV.pickF rfl rfl rfl rfl aK1b) ?_
   refine VO.nil ?_
   refine VC.cond rfl (fun h1b => ?_) (fun h1b => ?_)
   ·have h1 := h1b
    try simp only [qqT, qqF, qqN, qqM, qqL, qqE] at h1
    refine VC.seq ?_
    have hE : enoughF c nb m = 1 := enoughF_2 (by omega) (by first | (unfold outB; simp_all; done) | (unfold outB; simp_all; omega))
    rw [enoughR, if_neg (by rw [hE]; decide), hE]
    refine VC.region ?_
    refine VO.ma rfl rfl rfl rfl ?_
    refine VO.ma rfl rfl rfl rfl ?_
    refine VO.nil ?_
    refine VC.le _ (Le.nilRow 1 3) ?_
    refine VC.le ⟨[(6, _), (7, _)], [_], 0⟩ (Le.pick hB [3] ⟨rfl, rfl, trivial⟩ rfl rfl (Nat.le_refl _)) ?_
    refine VC.ret ?_
    exact Exists.intro _ (And.intro (RetV.two Try.results6 (ResV.tmp rfl) (ResV.tmp rfl)) (⟨_, rfl, rfl⟩))
   ·have h1 := h1b
    try simp only [qqT, qqF, qqN, qqM, qqL, qqE] at h1
    refine VC.skip ?_
    refine VC.seq ?_
    have hcy : cycF c = 0 := by omega
    have hrng : (outB 1 2000 nb || outB 0 3 m) = false := by first | (unfold outB; simp_all; done) | (unfold outB; simp_all; omega)
    have hrng' : (1 ≤ nb ∧ nb ≤ 2000) ∧ 0 ≤ m ∧ m ≤ 3 := by
     unfold outB at hrng
     simp at hrng
     omega
    have hE : enoughF c nb m = 0 := enoughF_0 hcy hrng
    rw [enoughR, if_pos hE, hE]
    have hcl := cyc0_len hcy
    obtain ⟨N, rfl⟩ : ∃ N : Nat, nb = N := ⟨nb.toNat, by omega⟩
    obtain ⟨M, rfl⟩ : ∃ M : Nat, m = M := ⟨m.toNat, by omega⟩
    have hff := flow_of hcy (by unfold outB at hrng ⊢; simp at hrng ⊢; omega : outB 1 2000 (N : Int) = false)
    obtain ⟨n, hn⟩ : ∃ n, c.length = n + 1 := ⟨c.length - 1, by omega⟩
    have hnc : c.length - 1 = n := by omega
    rw [enoughL, hnc, Int.toNat_natCast, Int.toNat_natCast]
    refine VC.region ?_
    refine VO.val rfl rfl (OpV.load_own (i := 0) rfl hB Try.isAgg22 rfl rfl rfl (fun h => h)) ?_
    refine VO.val rfl rfl (OpV.len_im rfl Try.underlying22 rfl) ?_
    refine VO.val rfl rfl (OpV.sub rfl rfl rfl (by unfold fits; omega)) ?_
    refine VO.op rfl (OpE.make rfl hB rfl Try.underlying22 (infoOf Try.t3 1 (by kernel_rfl) rfl rfl) (by decide) rfl rfl (n := n) (by omega) (by omega) (by omega) (made_ints n) ?_)
    intro gb
    rw [intsL_len, List.length_replicate, ← repL_0 n (M : Int)]
    refine VO.op rfl (OpE.alloc rfl hB rfl Try.zeroValue22 rfl ?_)
    intro gBf
    refine VO.op rfl (OpE.store (i := 4) rfl hB rfl Try.sizeOf22 rfl rfl rfl rfl rfl rfl (Nle rfl) trivial ?_)
    refine VO.nil ?_
    refine VC.seq ?_
    refine VC.sr ?_
    refine VO.val rfl rfl (OpV.load_own (i := 4) rfl hB Try.isAgg22 rfl rfl rfl (fun h => h)) ?_
    refine VO.val rfl rfl (OpV.len_v rfl Try.underlying22 rfl) ?_
    refine VO.mv rfl rfl rfl rfl ?_
    refine VO.nil ?_
    refine VC.block ?_
    refine VC.loopK [(3, _), (4, _), (5, _), (9, _), (31, _)] ⟨rfl, rfl, rfl, rfl, rfl, trivial⟩ ({q : Nat // q ≤ n}) (fun (iZ : {q : Nat // q ≤ n}) => match iZ with | ⟨q, hq⟩ => [(32, avI (q : Int))]) (fun (iZ : {q : Nat // q ≤ n}) => match iZ with | ⟨q, hq⟩ => [.box gC ⟨[avInts c], 22, 1⟩, .box gBo ⟨[avI (N : Int)], 3, 1⟩, .box gM ⟨[avI (M : Int)], 3, 1⟩, .box gb ⟨intsL (repL n M q), 3, n⟩, .box gBf ⟨[.v (.slice (some ⟨gb, 0, none⟩) n n)], 22, 1⟩]) (fun (iZ : {q : Nat // q ≤ n}) => match iZ with | ⟨q, hq⟩ => 0) (fun (iZ : {q : Nat // q ≤ n}) => match iZ with | ⟨q, hq⟩ => n - q) ⟨0, Nat.zero_le _⟩ (Le.mk hB [0, 1, 2, 3, 4] ⟨rfl, rfl, rfl, rfl, rfl, rfl, trivial⟩ rfl rfl (Nat.le_refl _)) ?_
    rintro ⟨q, hq⟩
    show VC _ _ _ _ ⟨[(32, avI (q : Int))] ++ [(3, _), (4, _), (5, _), (9, _), (31, _)], [.box gC ⟨[avInts c], 22, 1⟩, .box gBo ⟨[avI (N : Int)], 3, 1⟩, .box gM ⟨[avI (M : Int)], 3, 1⟩, .box gb ⟨intsL (repL n M q), 3, n⟩, .box gBf ⟨[.v (.slice (some ⟨gb, 0, none⟩) n n)], 22, 1⟩], 0⟩
    refine VC.sr ?_
    refine VO.val rfl rfl (OpV.lss rfl rfl rfl) ?_
    refine VO.nil ?_
    refine VC.seq ?_
    refine VC.cond rfl (fun aH2b => ?_) (fun aH2b => ?_)
    ·have aH2 := aH2b
     try simp only [qqT, qqF, qqN, qqM, qqL, qqE] at aH2
     refine VC.skip ?_
     refine VC.seq ?_
     refine VC.block ?_
     refine VC.sr ?_
     refine VO.mv rfl rfl rfl rfl ?_
     refine VO.ma rfl rfl rfl rfl ?_
     refine VO.nil ?_
     refine VC.region ?_
     refine VO.val rfl rfl (OpV.load_own (i := 4) rfl hB Try.isAgg22 rfl rfl rfl (fun h => h)) ?_
     refine VO.mv rfl rfl rfl rfl ?_
     refine VO.val rfl rfl (OpV.load_own (i := 2) rfl hB Try.isAgg3 rfl rfl rfl (fun h => h)) ?_
     refine VO.val rfl rfl (OpV.indexAddr_o rfl Try.underlying22 Try.sizeOf3 rfl rfl rfl (by omega)) ?_
     refine VO.op rfl (OpE.store1 (i := 3) rfl hB rfl Try.sizeOf3 rfl rfl rfl rfl rfl rfl (by rw [intsL_len, repL_len (by omega)]; omega) ((intsL_set _ _ _).trans (congrArg intsL (repL_set (by omega)))) trivial ?_)
     refine VO.nil ?_
     refine VC.region ?_
     refine VO.val rfl rfl (OpV.add rfl rfl rfl (by unfold fits; omega)) ?_
     refine VO.mv rfl rfl rfl rfl ?_
     refine VO.nil ?_
     exact Exists.intro (⟨q + 1, by omega⟩) (And.intro (Le.mk hB [0, 1, 2, 3, 4] ⟨rfl, rfl, rfl, rfl, rfl, rfl, trivial⟩ rfl rfl (Nat.le_refl _)) (by first | omega | (show _ < _; omega) | (simp only []; omega)))
    ·have aH2 := aH2b
     try simp only [qqT, qqF, qqN, qqM, qqL, qqE] at aH2
     obtain rfl : n = q := by omega
     rw [repL_all]
     have hmn : 0 ≤ (M : Int) * (n : Int) ∧ (M : Int) * (n : Int) ≤ 3 * 6 := ⟨Int.mul_nonneg (by omega) (by omega), Int.mul_le_mul (by omega) (by omega) (by omega) (by omega)⟩
     refine VC.exit ?_
     refine VC.sr ?_
     refine VO.val rfl rfl (OpV.load_own (i := 0) rfl hB Try.isAgg22 rfl rfl rfl (fun h => h)) ?_
     refine VO.val rfl rfl (OpV.load_own (i := 4) rfl hB Try.isAgg22 rfl rfl rfl (fun h => h)) ?_
     refine VO.val rfl rfl (OpV.load_own (i := 1) rfl hB Try.isAgg3 rfl rfl rfl (fun h => h)) ?_
     refine VO.op rfl (OpE.callL rfl hB rfl Try.call18 (line_end_S (right_small hff (by simp; omega) (fun x hx => by rw [List.eq_of_mem_replicate hx]; omega)) (by omega) (by omega)) (ArgsP.cons (ArgP.ev rfl) (ArgsP.cons (ArgP.boxI (i := 3) rfl rfl (by simp) (Nat.le_refl _) (capM (by omega))) (ArgsP.cons (ArgP.ev rfl) (ArgsP.nil)))) ?_)
     rintro _ rfl
     refine VO.op rfl (OpE.alloc rfl hB rfl Try.zeroValue3 rfl ?_)
     intro gE
     refine VO.op rfl (OpE.store (i := 5) rfl hB rfl Try.sizeOf3 rfl rfl rfl rfl rfl rfl (Nle rfl) trivial ?_)
     refine VO.nil ?_
     refine VC.sr ?_
     refine VO.val rfl rfl (OpV.load_own (i := 4) rfl hB Try.isAgg22 rfl rfl rfl (fun h => h)) ?_
     refine VO.op rfl (OpE.callR rfl hB rfl Try.call19 (slices_Clone_R (by simp; omega)) (ArgsP.cons (ArgP.boxI (i := 3) rfl rfl (by simp) (Nat.le_refl _) (capM (by omega))) (ArgsP.nil)) ?_)
     intro u45
     refine VO.rowIs (i := 6) rfl (fun b45 c45 hu45 => ?_)
     subst hu45
     refine VO.op rfl (OpE.alloc rfl hB rfl Try.zeroValue22 rfl ?_)
     intro gBe
     refine VO.op rfl (OpE.store (i := 7) rfl hB rfl Try.sizeOf22 rfl rfl rfl rfl rfl rfl (Nle rfl) trivial ?_)
     refine VO.nil ?_
     refine VC.sr ?_
     refine VO.val rfl rfl (OpV.load_own (i := 2) rfl hB Try.isAgg3 rfl rfl rfl (fun h => h)) ?_
     refine VO.val rfl rfl (OpV.load_own (i := 4) rfl hB Try.isAgg22 rfl rfl rfl (fun h => h)) ?_
     refine VO.val rfl rfl (OpV.len_v rfl Try.underlying22 rfl) ?_
     refine VO.val rfl rfl (OpV.mul rfl rfl rfl (by unfold fits; omega)) ?_
     refine VO.le _ (Le.recast (t := 49) (y := avI (sumL (List.replicate n (M : Int)))) rfl (fun w Z u h => by rw [sumL_rep, Int.mul_comm]; exact h)) ?_
     refine VO.op rfl (OpE.alloc rfl hB rfl Try.zeroValue3 rfl ?_)
     intro gS
     refine VO.op rfl (OpE.store (i := 8) rfl hB rfl Try.sizeOf3 rfl rfl rfl rfl rfl rfl (Nle rfl) trivial ?_)
     refine VO.nil ?_
     refine VC.sr ?_
     refine VO.op rfl (OpE.alloc rfl hB rfl Try.zeroValue46 rfl ?_)
     intro gT
     refine VO.nil ?_
     refine VC.sr ?_
     refine VO.val rfl rfl (OpV.makeFunc8 rfl rfl rfl rfl rfl rfl rfl rfl rfl) ?_
     refine VO.op rfl (OpE.store (i := 9) rfl hB rfl Try.sizeOf46 rfl rfl rfl rfl rfl rfl (Nle rfl) trivial ?_)
     refine VO.nil ?_
     refine VC.seq ?_
     refine VC.le _ (Le.pickH [8, 4, 3, 0, 1, 5, 7, 6, 2, 9] rfl rfl) ?_
     refine VC.region ?_
     refine VO.val rfl rfl (OpV.load_own (i := 9) rfl hB Try.isAgg46 rfl rfl rfl (fun h => h)) ?_
     refine VO.op rfl (OpE.callH0 rfl hB rfl Try.call20 rfl rfl (enTry_all (b0 := List.replicate (c.length - 1) 0) (n := n) (m := M) (nb := N) hff (by simp; omega) (by omega) (by omega) (by omega) n 0 (List.replicate n (M : Int)) (List.replicate n (M : Int)) _ 0 0 (by omega) (good_rep n M) (good_rep n M) rfl rfl) (List.Perm.refl _) (fun _ _ => trivial) ?_)
     rintro _ _ ⟨rfl, b', ub', hb', hbt', rfl⟩
     refine VO.nil ?_
     refine VC.sr ?_
     refine VO.val rfl rfl (OpV.load_own (i := 6) rfl hB Try.isAgg22 rfl rfl rfl (fun h => h)) ?_
     refine VO.ma rfl rfl rfl rfl ?_
     refine VO.ma rfl rfl rfl rfl ?_
     refine VO.nil ?_
     refine VC.le ⟨[(6, _), (7, _)], [_], 0⟩ (Le.pick hB [7] ⟨rfl, rfl, trivial⟩ rfl rfl (Nat.le_refl _)) ?_
     refine VC.ret ?_
     exact Exists.intro _ (And.intro (RetV.two Try.results6 (ResV.tmp rfl) (ResV.tmp rfl)) (⟨ub', rfl, rfl⟩))
  ·replace aK1b : _ = true := aK1b
   have aK1 := aK1b
   try simp only [qqT, qqF, qqN, qqM, qqL, qqE] at aK1
   refine VO.opX rfl rfl rfl rfl aK1b ?_
   refine VO.val rfl rfl (OpV.pickT rfl rfl rfl rfl aK1b) ?_
   refine VO.nil ?_
   refine VC.condT rfl rfl ?_
   refine VC.seq ?_
   have hE : enoughF c nb m = 1 := enoughF_2 (by omega) (by first | (unfold outB; simp_all; done) | (unfold outB; simp_all; omega))
   rw [enoughR, if_neg (by rw [hE]; decide), hE]
   refine VC.region ?_
   refine VO.ma rfl rfl rfl rfl ?_
   refine VO.ma rfl rfl rfl rfl ?_
   refine VO.nil ?_
   refine VC.le _ (Le.nilRow 1 3) ?_
   refine VC.le ⟨[(6, _), (7, _)], [_], 0⟩ (Le.pick hB [3] ⟨rfl, rfl, trivial⟩ rfl rfl (Nat.le_refl _)) ?_
   refine VC.ret ?_
   exact Exists.intro _ (And.intro (RetV.two Try.results6 (ResV.tmp rfl) (ResV.tmp rfl)) (⟨_, rfl, rfl⟩))
end Go.Proofs.Ytmahammdnmmmoaa
namespace Go.Proofs
open Go.Shelf
def Try.lays212_ren : Go.Shelf.Ren := ⟨fun | 212 => 37 | 263 => 40 | 264 => 41 | n => n, fun | 46 => 64 | 51 => 67 | 146 => 68 | 53 => 70 | 148 => 71 | n => n, fun | n => n⟩
theorem Try.lays212 : Go.Proofs.Lays.n212 Try.prog Try.lays212_ren := {
 mixed := by kernel_rfl
 f212 := Try.func37.trans (congrArg some (by kernel_rfl))
 f263 := Try.func40.trans (congrArg some (by kernel_rfl))
 f264 := Try.func41.trans (congrArg some (by kernel_rfl))
 t46 := Try.underlying64
 a46 := Try.isAgg64
 z46 := Try.sizeOf64
 v46 := Try.zeroValue64
 t51 := Try.underlying67
 a51 := Try.isAgg67
 z51 := Try.sizeOf67
 v51 := Try.zeroValue67
 t53 := Try.underlying70
 a53 := Try.isAgg70
 z53 := Try.sizeOf70
 v53 := Try.zeroValue70
 t146 := Try.underlying68
 a146 := Try.isAgg68
 z146 := Try.sizeOf68
 v146 := Try.zeroValue68
 t148 := Try.underlying71
 a148 := Try.isAgg71
 z148 := Try.sizeOf71
 v148 := Try.zeroValue71 }
open Go.RowKit Go.Lib in
theorem Try.bits_Mul (x y : Nat) (hx : x < 18446744073709551616) (hy : y < 18446744073709551616) (w : World) :
  Calls Try.prog 37 #[.int .u64 x, .int .u64 y] w fun e w' => e = .returned (.tuple #[.int .u64 ((x * y / 18446744073709551616 : Nat) : Int), .int .u64 ((x * y % 18446744073709551616 : Nat) : Int)]) ∧ w' = w := Any.bits_Mul Try.lays212 x y hx hy w
end Go.Proofs
namespace Go.Proofs.Ytmahammdnmmmoaa
open Go.RowKit
set_option linter.unusedVariables false
set_option linter.unusedSimpArgs false

theorem argsV2 {u v : Value} {w : World} {A : Nat → Prop} {us : Array Value} (h : Args w A [.v u, .v v] us) : us = #[u, v] := by
 obtain ⟨h1, h2⟩ := h
 have e0 := (h2 0 (by simp)).eq_v
 have e1 := (h2 1 (by simp)).eq_v
 apply Array.ext (by simpa using h1)
 intro i hi hi'
 simp at hi'
 rw [h1] at hi
 match i, hi' with
 | 0, _ => simpa [Array.getD_eq_getD_getElem?, h1] using e0
 | 1, _ => simpa [Array.getD_eq_getD_getElem?, h1] using e1
end Go.Proofs.Ytmahammdnmmmoaa
namespace Go.Proofs.Ytmahammdnmmmoaa
open Go.RowKit
set_option linter.unusedVariables false
set_option linter.unusedSimpArgs false

theorem bits_Mul_S {x y : Nat} (hx : x < 18446744073709551616) (hy : y < 18446744073709551616) (hxy : x * y < 18446744073709551616) : SpecN Try.prog 37 [.v (.int .u64 x), .v (.int .u64 y)] (fun z => z = .tup [.v (.int .u64 0), .v (.int .u64 ((x * y : Nat) : Int))]) := by
 intro w us ha
 rw [argsV2 ha]
 refine (Try.bits_Mul x y hx hy w).mono ?_
 rintro e w' ⟨rfl, rfl⟩
 rw [Nat.div_eq_of_lt hxy, Nat.mod_eq_of_lt hxy]
 refine ⟨_, _, rfl, rfl, .tup _ _ rfl fun j hj => ?_, Chg.refl _ _, trivial⟩
 match j, hj with
 | 0, _ => exact .v _
 | 1, _ => exact .v _

def repC (X Z : AV) (k n : Nat) : List AV := List.replicate k X ++ List.replicate (n - k) Z
theorem repC_len {X Z : AV} {k n : Nat} (h : k ≤ n) : (repC X Z k n).length = n := by simp [repC]; omega
theorem repC_get {X Z : AV} {k n j : Nat} (h : k ≤ n) (hj : j < n) : (repC X Z k n)[j]? = some (if j < k then X else Z) := by
 unfold repC
 split
 ·rename_i h1; rw [List.getElem?_append_left (by simpa using h1)]; simp [h1]
 ·rename_i h1
  rw [List.getElem?_append_right (by simpa using h1), List.length_replicate, List.getElem?_replicate, if_pos (by omega)]
theorem repC_step {X Z : AV} {F : Nat → AV} {k c n o q : Nat} (h : k + c ≤ n) (hF : ∀ j, j < c → F j = X) (ho : o = k) (hq : q = c) : (repC X Z k n).take o ++ tab q F ++ (repC X Z k n).drop (o + q) = repC X Z (k + c) n := by
 subst ho; subst hq
 apply List.ext_getElem?
 intro i
 by_cases hi : i < n
 ·rw [repC_get h hi]
  by_cases h1 : i < o
  ·rw [List.append_assoc, List.getElem?_append_left (by rw [List.length_take, repC_len (by omega)]; omega), List.getElem?_take, if_pos h1, repC_get (by omega) hi, if_pos h1, if_pos (by omega)]
  ·by_cases h2 : i < o + q
   ·rw [List.append_assoc, List.getElem?_append_right (by rw [List.length_take, repC_len (by omega)]; omega), List.getElem?_append_left (by rw [List.length_take, repC_len (by omega), tab_len]; omega), if_pos h2]
    rw [List.getElem?_eq_getElem (by rw [List.length_take, repC_len (by omega), tab_len]; omega), tab_get, hF _ (by rw [List.length_take, repC_len (by omega)]; omega)]
   ·rw [List.getElem?_append_right (by rw [List.length_append, List.length_take, repC_len (by omega), tab_len]; omega), List.getElem?_drop, List.length_append, List.length_take, repC_len (by omega), tab_len, repC_get (by omega) (by omega), if_neg (by omega), if_neg h2]
 ·have l1 : ((repC X Z o n).take o ++ tab q F ++ (repC X Z o n).drop (o + q)).length ≤ i := by
   rw [List.length_append, List.length_append, List.length_take, List.length_drop, repC_len (by omega), tab_len]; omega
  have l2 : (repC X Z (o + q) n).length ≤ i := by rw [repC_len h]; omega
  rw [List.getElem?_eq_none l1, List.getElem?_eq_none l2]
theorem repC_0 {z : Value} {n m : Nat} (hz : z.cells = #[z]) (hm : m = n) : (madeCells z.cells (m * 1)).toList.map AV.v = repC (.v z) (.v z) 0 n := by
 subst hm
 rw [hz, Nat.mul_one, toList_madeCells_one]
 simp [repC]
theorem repC_full {X Z : AV} {n : Nat} : repC X Z n n = List.replicate n X := by simp [repC]
theorem repC_zero {X Y Z : AV} {n : Nat} : repC X Z 0 n = repC Y Z 0 n := by simp [repC]
theorem repC_first {X Z : AV} {F : Nat → AV} {n c : Nat} (hc : c = min 1 n) (hF : F 0 = X) : (repC Z Z 0 n).take 0 ++ tab (c * 1) F ++ (repC Z Z 0 n).drop (0 + c * 1) = repC X Z c n := by
 rw [repC_zero (X := Z) (Y := X)]
 have h0 : 0 + c = c := Nat.zero_add c
 rw [← h0]
 rw [h0]
 conv => rhs; rw [← h0]
 exact repC_step (c := c) (by omega) (fun j hj => by rw [show j = 0 by omega]; exact hF) rfl (Nat.mul_one _)

end Go.Proofs.Ytmahammdnmmmoaa
namespace Go.Proofs.Ytmahammdnmmmoaa
open Go.RowKit
set_option linter.unusedVariables false
set_option linter.unusedSimpArgs false
set_option maxRecDepth 100000 in
theorem slices_Repeat_int {x : Int} {n : Nat} (hn : n ≤ 100000) :
  Spec Try.prog 27 [avInts [x], avI (n : Int)] (fun y => y = avInts (List.replicate n x)) := by
 refine Spec.of_VC Try.func27 rfl Try.ntmps27 (Nle rfl) fun w A hB => ?_
 have hnew : True := trivial
 refine VC.sr ?_
 refine VO.ma rfl rfl rfl rfl ?_
 refine VO.nil ?_
 refine VC.seq ?_
 refine VC.sr ?_
 refine VO.mv rfl rfl rfl rfl ?_
 refine VO.val rfl rfl (OpV.lss rfl rfl rfl) ?_
 refine VO.nil ?_
 refine VC.cond rfl (fun aH1b => ?_) (fun aH1b => ?_)
 ·have aH1 := aH1b
  try simp only [qqT, qqF, qqN, qqM, qqL, qqE] at aH1
  exact VC.absurd (by omega)
 ·have aH1 := aH1b
  try simp only [qqT, qqF, qqN, qqM, qqL, qqE] at aH1
  refine VC.skip ?_
  refine VC.sr ?_
  refine VO.mv rfl rfl rfl rfl ?_
  refine VO.val rfl rfl (OpV.len_im rfl Try.underlying22 rfl) ?_
  refine VO.val rfl rfl (OpV.conv rfl Try.underlying3 Try.underlying64 rfl (IntWalk.u64_in _ (by simp))) ?_
  refine VO.mv rfl rfl rfl rfl ?_
  refine VO.val rfl rfl (OpV.conv rfl Try.underlying3 Try.underlying64 rfl (IntWalk.u64_in _ (by omega))) ?_
  refine VO.op rfl (OpE.call rfl hB rfl Try.call37 rfl (SpecN.spec (bits_Mul_S (x := 1) (y := n) (by omega) (by omega) (by omega))) ?_)
  rintro _ rfl
  refine VO.mv rfl rfl rfl rfl ?_
  refine VO.val rfl rfl (OpV.extract rfl rfl rfl) ?_
  refine VO.val rfl rfl (OpV.extract rfl rfl rfl) ?_
  refine VO.ma rfl rfl rfl rfl ?_
  refine VO.ma rfl rfl rfl rfl ?_
  refine VO.nil ?_
  refine VC.seq ?_
  refine VC.sr ?_
  refine VO.mv rfl rfl rfl rfl ?_
  refine VO.val rfl rfl (OpV.gtr rfl rfl rfl) ?_
  refine VO.mv rfl rfl rfl rfl ?_
  refine VO.opY rfl rfl rfl rfl rfl ?_
  refine OpE.val (W := NoB) (OpV.move (.inl rfl) rfl) rfl ?_
  refine VO.opY rfl rfl rfl rfl rfl ?_
  refine OpE.val (W := NoB) (OpV.gtr rfl rfl rfl) rfl ?_
  refine VO.val rfl rfl (OpV.pickF rfl rfl rfl rfl rfl) ?_
  refine VO.nil ?_
  refine VC.cond rfl (fun aH2b => ?_) (fun aH2b => ?_)
  ·have aH2 := aH2b
   try simp only [qqT, qqF, qqN, qqM, qqL, qqE] at aH2
   exact VC.absurd (by omega)
  ·have aH2 := aH2b
   try simp only [qqT, qqF, qqN, qqM, qqL, qqE] at aH2
   refine VC.skip ?_
   refine VC.sr ?_
   refine VO.mv rfl rfl rfl rfl ?_
   refine VO.val rfl rfl (OpV.conv rfl Try.underlying64 Try.underlying3 rfl (IntWalk.i64_in _ (by omega))) ?_
   refine VO.op rfl (OpE.make rfl hB rfl Try.underlying22 (infoOf Try.t3 1 (by kernel_rfl) rfl rfl) (by decide) rfl rfl (n := n) (by omega) (by omega) (by omega) (repC_0 (n := n) rfl rfl) ?_)
   intro g30
   refine VO.ma rfl rfl rfl rfl ?_
   refine VO.nil ?_
   refine VC.sr ?_
   refine VO.mv rfl rfl rfl rfl ?_
   refine VO.mv rfl rfl rfl rfl ?_
   refine VO.op rfl (OpE.copy (i := 0) rfl hB rfl Try.underlying22 Try.sizeOf3 rfl rfl (SrcP.im rfl) (c := min 1 n) rfl (fun _ _ => rfl) (by rw [repC_len (by omega)]; omega) (repC_first rfl rfl) trivial ?_)
   refine VO.ma rfl rfl rfl rfl ?_
   refine VO.nil ?_
   refine VC.seq ?_
   refine VC.block ?_
   refine VC.loopK [(7, _)] ⟨rfl, trivial⟩ ({k : Nat // k ≤ n ∧ (k = 0 → n = 0)}) (fun (iZ : {k : Nat // k ≤ n ∧ (k = 0 → n = 0)}) => match iZ with | ⟨k, hk, hk0⟩ => [(8, avI (k : Int))]) (fun (iZ : {k : Nat // k ≤ n ∧ (k = 0 → n = 0)}) => match iZ with | ⟨k, hk, hk0⟩ => [.box g30 ⟨repC (avI x) (.v (.int .i64 0)) k n, 3, (repC (.v (.int .i64 0)) (.v (.int .i64 0)) 0 n).length⟩]) (fun (iZ : {k : Nat // k ≤ n ∧ (k = 0 → n = 0)}) => match iZ with | ⟨k, hk, hk0⟩ => 0) (fun (iZ : {k : Nat // k ≤ n ∧ (k = 0 → n = 0)}) => match iZ with | ⟨k, hk, hk0⟩ => n - k) ⟨min 1 n, by omega, by omega⟩ (Le.mk hB [0] ⟨rfl, rfl, trivial⟩ rfl rfl (Nat.le_refl _)) ?_
   rintro ⟨k, hk, hk0⟩
   show VC _ _ _ _ ⟨[(8, avI (k : Int))] ++ [(7, _)], [.box g30 ⟨repC (avI x) (.v (.int .i64 0)) k n, 3, (repC (.v (.int .i64 0)) (.v (.int .i64 0)) 0 n).length⟩], 0⟩
   refine VC.seq ?_
   refine VC.sr ?_
   refine VO.mv rfl rfl rfl rfl ?_
   refine VO.mv rfl rfl rfl rfl ?_
   refine VO.val rfl rfl (OpV.len_v rfl Try.underlying22 rfl) ?_
   refine VO.val rfl rfl (OpV.lss rfl rfl rfl) ?_
   refine VO.nil ?_
   refine VC.cond rfl (fun aH3b => ?_) (fun aH3b => ?_)
   ·have aH3 := aH3b
    try simp only [qqT, qqF, qqN, qqM, qqL, qqE] at aH3
    refine VC.skip ?_
    refine VC.block ?_
    refine VC.draw (fun j b => j = 7 ∧ b = g30) hB (by kernel_rfl) ?_
    refine VA.take (i := 0) rfl (by kernel_rfl) (by kernel_rfl) (by kernel_rfl) rfl rfl (OpV.move (.inl rfl) rfl) ?_
    refine VA.take (i := 1) rfl (by kernel_rfl) (by kernel_rfl) (by kernel_rfl) rfl rfl (OpV.move (.inl rfl) rfl) ?_
    refine VA.take (i := 2) rfl (by kernel_rfl) (by kernel_rfl) (by kernel_rfl) rfl rfl (OpV.move (.inl rfl) rfl) ?_
    refine VA.take (i := 3) rfl (by kernel_rfl) (by kernel_rfl) (by kernel_rfl) rfl rfl (OpV.slice_own (l := k) rfl Try.underlying22 Try.sizeOf3 rfl ⟨_, _, rfl, rfl⟩ rfl (by omega) (by omega) (by omega)) ?_
    refine VA.take (i := 4) rfl (by kernel_rfl) (by kernel_rfl) (by kernel_rfl) rfl rfl (OpV.move (.inl rfl) rfl) ?_
    refine VA.take (i := 5) rfl (by kernel_rfl) (by kernel_rfl) (by kernel_rfl) rfl rfl (OpV.move (.inl rfl) rfl) ?_
    refine VA.take (i := 6) rfl (by kernel_rfl) (by kernel_rfl) (by kernel_rfl) rfl rfl (OpV.slice_own (h := k) rfl Try.underlying22 Try.sizeOf3 rfl rfl ⟨_, _, rfl, rfl⟩ (by omega) (by omega) (by omega)) ?_
    refine VA.all (rs := [7]) (by kernel_rfl) (by decide) ?_
    refine ⟨⟨_, rfl, .inl rfl, ?_⟩, trivial⟩
    refine OpE.copy (i := 0) rfl hB rfl Try.underlying22 Try.sizeOf3 rfl rfl (SrcP.box (i := 0) rfl rfl (by show 0 + 0 * 1 + (k - 0) * 1 ≤ (repC _ _ k n).length; rw [repC_len (by omega)]; omega)) (c := min k (n - k)) (by omega) (fun j hj => by dsimp only; rw [List.getD_eq_getElem?_getD, repC_get (by omega) (by omega), if_pos (by omega)]; rfl) (by show 0 + k * 1 + _ ≤ (repC _ _ k n).length; rw [repC_len (by omega)]; omega) (repC_step (c := min k (n - k)) (by omega) (fun j hj => by dsimp only; rw [List.getD_eq_getElem?_getD, repC_get (by omega) (by omega), if_pos (by omega)]; rfl) (by omega) (by omega)) (by first | exact ⟨rfl, rfl⟩ | exact .inl ⟨rfl, rfl⟩ | exact .inr ⟨rfl, rfl⟩ | exact ⟨rfl, trivial⟩ | exact .inl ⟨rfl, trivial⟩ | exact .inr ⟨rfl, trivial⟩ | exact ⟨by decide, rfl⟩) ?_
    refine VA.take (i := 8) rfl (by kernel_rfl) (by kernel_rfl) (by kernel_rfl) rfl rfl (OpV.add rfl rfl rfl (by unfold fits; omega)) ?_
    refine VA.take (i := 9) rfl (by kernel_rfl) (by kernel_rfl) (by kernel_rfl) rfl rfl (OpV.move (.inr rfl) rfl) ?_
    refine VA.done (by kernel_rfl) ?_
    exact Exists.intro (⟨k + min k (n - k), by omega, by omega⟩) (And.intro (Le.mk hB [0] ⟨rfl, rfl, trivial⟩ rfl rfl (Nat.le_refl _)) (by first | omega | (show _ < _; omega) | (simp only []; omega)))
   ·have aH3 := aH3b
    try simp only [qqT, qqF, qqN, qqM, qqL, qqE] at aH3
    refine VC.exit ?_
    refine VC.sr ?_
    refine VO.mv rfl rfl rfl rfl ?_
    refine VO.ma rfl rfl rfl rfl ?_
    refine VO.nil ?_
    obtain rfl : k = n := by omega
    refine VC.le _ (Le.box (t := 4) (i := 0) (n := k) (sz := 1) (y := avInts (List.replicate k x)) hB hnew rfl rfl (by show 0 + k * 1 ≤ (repC _ _ k k).length; rw [repC_len (by omega)]; omega) (Nat.le_refl _) (capM (by omega)) (fun w Z u h => Rep.ints (by simp) (h.im_congr fun j hj => by rw [repC_full, intsL, List.map_replicate, Nat.zero_add]))) ?_
    refine VC.ret ?_
    exact Exists.intro _ (And.intro (RetV.one Try.results27 (ResV.tmp rfl)) (rfl))
end Go.Proofs.Ytmahammdnmmmoaa
namespace Go.Proofs.Ytmahammdnmmmoaa
open Go.RowKit
set_option linter.unusedVariables false
set_option linter.unusedSimpArgs false

section
variable {P : Program} {s : St'}
end
section
variable {P : Program} {B : Bs} {W : Nat → Prop} {s : St'} {o : Oper} {K : St' → Prop} {a : Act} {w : World}
theorem Le.freezeAt {t i m g : Nat} {o' : Own'} {f : Nat → AV} (ht : look s.sl t = some (.v (.pointer (some ⟨g, 0, none⟩)))) (hi : s.hp[i]? = some (.box g o')) (hl : 0 + m ≤ o'.cs.length) (hf : ∀ w Z u, Rep w Z (.at_ m fun j => o'.cs.getD (0 + j) .any) u → Rep w Z (.at_ m f) u) (hnew : True) (hB : B.Ok) :
  Le B s ⟨(t, .at_ m f) :: s.sl, s.hp.eraseIdx i, s.k⟩ := fun a w hr => by
 have hr' := hr.erase i
 refine hr'.over t ?_
 have hu : a.tmps.getD t undef = _ := (hr.slots t _ ht).eq_v
 rw [hu]
 refine hf _ _ _ (hr.repPtr hi hl (fun b hb => ⟨hb.1, fun p hp => hb.2.1 p ((List.eraseIdx_sublist s.hp i).subset hp), hb.2.2⟩) fun hl => ?_)
 exact hr.erased hB hi rfl
theorem apart_ne {hp : List Ent} (h : Apart hp) {i j g g' : Nat} (hi : (hp[i]?).bind Ent.blk = some g) (hj : (hp[j]?).bind Ent.blk = some g') (hij : i ≠ j) : g ≠ g' := fun e => by
 obtain ⟨p, hp1, hp2⟩ := Option.bind_eq_some_iff.1 hi
 obtain ⟨q, hq1, hq2⟩ := Option.bind_eq_some_iff.1 hj
 exact h.get hp1 hq1 hij hp2 (by rw [hq2, e])
theorem OpE.hap (h : Apart s.hp → OpE P B W s o K) : OpE P B W s o K := fun a w hr => h hr.nodup a w hr
theorem VC.hap {c : Code} {Q : Exit → St' → Prop} (h : Apart s.hp → VC P B c Q s) : VC P B c Q s := fun a w hr => h hr.nodup a w hr
theorem Wi.notN {ops : Array Oper} {i m m2 g : Nat} {X : Nat → Prop} (h : depB ops m i = true) : ¬ Wi (fun j b => (j = m ∧ X b) ∨ (j = m2 ∧ b ≠ g)) ops i g := fun ⟨j, h1, h2⟩ => by
 rcases h2 with ⟨h2, _⟩ | ⟨_, h2⟩
 ·subst h2; rw [h] at h1; cases h1
 ·exact h2 rfl
end
end Go.Proofs.Ytmahammdnmmmoaa
namespace Go.Proofs.Ytmahammdnmmmoaa
open Go.RowKit
set_option linter.unusedVariables false
set_option linter.unusedSimpArgs false
theorem sumL_take {xs : List Int} {q : Nat} (h : q < xs.length) : sumL (xs.take (q + 1)) = sumL (xs.take q) + xs.getD q 0 := by
 rw [List.take_succ_eq_append_getElem h, sumL_append]; simp [sumL, h]
theorem sumL_bd' {xs : List Int} (hx : ∀ x ∈ xs, 0 ≤ x ∧ x ≤ 100) (hl : xs.length ≤ 100) (q : Nat) : 0 ≤ sumL (xs.take q) ∧ sumL (xs.take q) ≤ 10000 := by
 have hb := sumL_bd (100 : Int) (by omega) (xs.take q) (fun x h => hx x (List.mem_of_mem_take h))
 have : (xs.take q).length ≤ 100 := by simp; omega
 exact ⟨hb.1, by have := hb.2; omega⟩
theorem getD_bd {xs : List Int} (hx : ∀ x ∈ xs, 0 ≤ x ∧ x ≤ 100) (q : Nat) : 0 ≤ xs.getD q 0 ∧ xs.getD q 0 ≤ 100 := by
 rw [List.getD_eq_getElem?_getD]
 cases h : xs[q]? with
 | none => simp
 | some x => exact hx x (List.mem_of_getElem? h)
set_option maxRecDepth 100000 in
theorem rf_sum {xs : List Int} (hl : xs.length ≤ 100) (hx : ∀ x ∈ xs, 0 ≤ x ∧ x ≤ 100) :
  SpecN Try.prog 29 [avInts xs] (fun y => y = avI (sumL xs)) := by
 refine SpecN.of_VCN Try.func29 rfl Try.ntmps29 (Nle rfl) fun w A hB => ?_
 have hnew : True := trivial
 refine VC.sr ?_
 refine VO.ma rfl rfl rfl rfl ?_
 refine VO.nil ?_
 refine VC.sr ?_
 refine VO.ma rfl rfl rfl rfl ?_
 refine VO.nil ?_
 refine VC.seq ?_
 refine VC.sr ?_
 refine VO.mv rfl rfl rfl rfl ?_
 refine VO.val rfl rfl (OpV.len_im rfl Try.underlying22 rfl) ?_
 refine VO.mv rfl rfl rfl rfl ?_
 refine VO.nil ?_
 refine VC.block ?_
 refine VC.loopK [(6, _), (7, _)] ⟨rfl, rfl, trivial⟩ ({q : Nat // q ≤ xs.length}) (fun (iZ : {q : Nat // q ≤ xs.length}) => match iZ with | ⟨q, hq⟩ => [(3, avI (sumL (xs.take q))), (8, avI (q : Int))]) (fun (iZ : {q : Nat // q ≤ xs.length}) => match iZ with | ⟨q, hq⟩ => []) (fun (iZ : {q : Nat // q ≤ xs.length}) => match iZ with | ⟨q, hq⟩ => 0) (fun (iZ : {q : Nat // q ≤ xs.length}) => match iZ with | ⟨q, hq⟩ => xs.length - q) ⟨0, Nat.zero_le _⟩ (Le.mk hB [] ⟨rfl, rfl, rfl, rfl, trivial⟩ rfl rfl (Nat.le_refl _)) ?_
 rintro ⟨q, hq⟩
 show VC _ _ _ _ ⟨[(3, avI (sumL (xs.take q))), (8, avI (q : Int))] ++ [(6, _), (7, _)], [], 0⟩
 have hq1 := sumL_bd' hx hl q
 have hq2 := getD_bd hx q
 refine VC.sr ?_
 refine VO.val rfl rfl (OpV.lss rfl rfl rfl) ?_
 refine VO.nil ?_
 refine VC.seq ?_
 refine VC.cond rfl (fun aH1b => ?_) (fun aH1b => ?_)
 ·have aH1 := aH1b
  try simp only [qqT, qqF, qqN, qqM, qqL, qqE] at aH1
  refine VC.skip ?_
  refine VC.seq ?_
  refine VC.block ?_
  refine VC.sr ?_
  refine VO.val rfl rfl (OpV.indexAddr_1 rfl Try.underlying22 Try.sizeOf3 rfl rfl rfl (by omega)) ?_
  refine VO.val rfl rfl (OpV.load_at rfl hB OutW.no Try.isAgg3 rfl rfl) ?_
  refine VO.ma rfl rfl rfl rfl ?_
  refine VO.nil ?_
  refine VC.region ?_
  refine VO.mv rfl rfl rfl rfl ?_
  refine VO.mv rfl rfl rfl rfl ?_
  refine VO.val rfl rfl (OpV.add rfl rfl rfl (by unfold fits; omega)) ?_
  refine VO.ma rfl rfl rfl rfl ?_
  refine VO.nil ?_
  refine VC.region ?_
  refine VO.val rfl rfl (OpV.add rfl rfl rfl (by unfold fits; omega)) ?_
  refine VO.mv rfl rfl rfl rfl ?_
  refine VO.nil ?_
  exact Exists.intro (⟨q + 1, by omega⟩) (And.intro (Le.mk hB [] ⟨(by rw [sumL_take (by omega)]; rfl), rfl, rfl, rfl, trivial⟩ rfl rfl (Nat.le_refl _)) (by first | omega | (show _ < _; omega) | (simp only []; omega)))
 ·have aH1 := aH1b
  try simp only [qqT, qqF, qqN, qqM, qqL, qqE] at aH1
  refine VC.exit ?_
  refine VC.sr ?_
  refine VO.mv rfl rfl rfl rfl ?_
  refine VO.ma rfl rfl rfl rfl ?_
  refine VO.nil ?_
  refine VC.ret ?_
  exact Exists.intro _ (And.intro (RetN.one Try.results29 (ResN.v rfl)) (by rw [List.take_of_length_le (by omega)]))
def cmpE (a b : Int) : Int := if a < b then -1 else if b < a then 1 else 0
set_option maxRecDepth 100000 in
theorem cmp_isNaN_intE {a : Int}  :
  SpecN Try.prog 42 [avI a] (fun y => y = avB false) := by
 refine SpecN.of_VCN Try.func42 rfl Try.ntmps42 (Nle rfl) fun w A hB => ?_
 have hnew : True := trivial
 refine VC.sr ?_
 refine VO.ma rfl rfl rfl rfl ?_
 refine VO.nil ?_
 refine VC.sr ?_
 refine VO.mv rfl rfl rfl rfl ?_
 refine VO.mv rfl rfl rfl rfl ?_
 refine VO.val rfl rfl (OpV.neq rfl rfl rfl) ?_
 refine VO.ma rfl rfl rfl rfl ?_
 refine VO.nil ?_
 refine VC.ret ?_
 exact Exists.intro _ (And.intro (RetN.one Try.results42 (ResN.v rfl)) (by simp))
set_option maxRecDepth 100000 in
theorem cmp_Compare_intE {a b : Int}  :
  SpecN Try.prog 38 [avI a, avI b] (fun y => y = avI (cmpE a b)) := by
 refine SpecN.of_VCN Try.func38 rfl Try.ntmps38 (Nle rfl) fun w A hB => ?_
 have hnew : True := trivial
 refine VC.sr ?_
 refine VO.ma rfl rfl rfl rfl ?_
 refine VO.nil ?_
 refine VC.sr ?_
 refine VO.mv rfl rfl rfl rfl ?_
 refine VO.op rfl (OpE.call rfl hB rfl Try.call42 rfl (SpecN.spec (cmp_isNaN_intE)) ?_)
 rintro _ rfl
 refine VO.ma rfl rfl rfl rfl ?_
 refine VO.nil ?_
 refine VC.sr ?_
 refine VO.mv rfl rfl rfl rfl ?_
 refine VO.op rfl (OpE.call rfl hB rfl Try.call42 rfl (SpecN.spec (cmp_isNaN_intE)) ?_)
 rintro _ rfl
 refine VO.ma rfl rfl rfl rfl ?_
 refine VO.nil ?_
 refine VC.seq ?_
 refine VC.sr ?_
 refine VO.mv rfl rfl rfl rfl ?_
 refine VO.nil ?_
 refine VC.condF rfl rfl ?_
 refine VC.skip ?_
 refine VC.seq ?_
 refine VC.sr ?_
 refine VO.mv rfl rfl rfl rfl ?_
 refine VO.nil ?_
 refine VC.condF rfl rfl ?_
 refine VC.skip ?_
 refine VC.seq ?_
 refine VC.sr ?_
 refine VO.mv rfl rfl rfl rfl ?_
 refine VO.mv rfl rfl rfl rfl ?_
 refine VO.val rfl rfl (OpV.lss rfl rfl rfl) ?_
 refine VO.nil ?_
 refine VC.cond rfl (fun aH1b => ?_) (fun aH1b => ?_)
 ·have aH1 := aH1b
  try simp only [qqT, qqF, qqN, qqM, qqL, qqE] at aH1
  refine VC.sr ?_
  refine VO.ma rfl rfl rfl rfl ?_
  refine VO.nil ?_
  refine VC.ret ?_
  exact Exists.intro _ (And.intro (RetN.one Try.results38 (ResN.v rfl)) (by rw [cmpE, if_pos (by assumption)]))
 ·have aH1 := aH1b
  try simp only [qqT, qqF, qqN, qqM, qqL, qqE] at aH1
  refine VC.skip ?_
  refine VC.seq ?_
  refine VC.sr ?_
  refine VO.mv rfl rfl rfl rfl ?_
  refine VO.mv rfl rfl rfl rfl ?_
  refine VO.val rfl rfl (OpV.gtr rfl rfl rfl) ?_
  refine VO.nil ?_
  refine VC.cond rfl (fun aH2b => ?_) (fun aH2b => ?_)
  ·have aH2 := aH2b
   try simp only [qqT, qqF, qqN, qqM, qqL, qqE] at aH2
   refine VC.sr ?_
   refine VO.ma rfl rfl rfl rfl ?_
   refine VO.nil ?_
   refine VC.ret ?_
   exact Exists.intro _ (And.intro (RetN.one Try.results38 (ResN.v rfl)) (by rw [cmpE, if_neg (by omega), if_pos (by assumption)]))
  ·have aH2 := aH2b
   try simp only [qqT, qqF, qqN, qqM, qqL, qqE] at aH2
   refine VC.skip ?_
   refine VC.sr ?_
   refine VO.ma rfl rfl rfl rfl ?_
   refine VO.nil ?_
   refine VC.ret ?_
   exact Exists.intro _ (And.intro (RetN.one Try.results38 (ResN.v rfl)) (by rw [cmpE, if_neg (by omega), if_neg (by omega)]))
theorem cmpL_at : ∀ {q : Nat} {xs ys : List Int}, q ≤ xs.length → q ≤ ys.length → (∀ j, j < q → xs.getD j 0 = ys.getD j 0) → cmpL xs ys = cmpL (xs.drop q) (ys.drop q)
 | 0, xs, ys, _, _, _ => by simp
 | q + 1, [], ys, h, _, _ => by simp at h
 | q + 1, x :: xs, [], _, h, _ => by simp at h
 | q + 1, x :: xs, y :: ys, h1, h2, h => by
  have e := h 0 (by omega)
  simp at e
  subst e
  have ih := cmpL_at (q := q) (xs := xs) (ys := ys) (by simpa using h1) (by simpa using h2) (fun j hj => by simpa using h (j + 1) (by omega))
  simp [cmpL, ih]
theorem cmpL_5 {xs ys : List Int} {q : Nat} (hq : q < xs.length) (hy : q ≤ ys.length) (hn : ∀ j, j < q → xs.getD j 0 = ys.getD j 0) (h : ys.length ≤ q) : cmpL xs ys = 1 := by
 rw [cmpL_at (by omega) hy hn, List.drop_eq_getElem_cons hq, List.drop_eq_nil_of_le h]; rfl
theorem cmpL_9 {xs ys : List Int} {q : Nat} (hq : q < xs.length) (hy : q < ys.length) (hn : ∀ j, j < q → xs.getD j 0 = ys.getD j 0) (h : cmpE (xs.getD q 0) (ys.getD q 0) ≠ 0) : cmpL xs ys = cmpE (xs.getD q 0) (ys.getD q 0) := by
 rw [cmpL_at (by omega) (by omega) hn, List.drop_eq_getElem_cons hq, List.drop_eq_getElem_cons hy]
 simp only [List.getD_eq_getElem?_getD, List.getElem?_eq_getElem hq, List.getElem?_eq_getElem hy, Option.getD_some] at h ⊢
 unfold cmpE at h ⊢
 simp only [cmpL]
 split
 ·rfl
 ·rename_i h1
  split
  ·rfl
  ·rename_i h2
   simp [h1, h2] at h
theorem cmpE_0 {a b : Int} (h : cmpE a b = 0) : a = b := by
 unfold cmpE at h
 split at h
 ·omega
 ·split at h <;> omega
theorem cmpL_12 {xs ys : List Int} (hn : ∀ j, j < xs.length → xs.getD j 0 = ys.getD j 0) (h : xs.length < ys.length) : cmpL xs ys = -1 := by
 rw [cmpL_at (Nat.le_refl _) (by omega) hn, List.drop_eq_nil_of_le (Nat.le_refl _), List.drop_eq_getElem_cons h]; rfl
theorem cmpL_13 {xs ys : List Int} (hn : ∀ j, j < xs.length → xs.getD j 0 = ys.getD j 0) (h : xs.length = ys.length) : cmpL xs ys = 0 := by
 rw [cmpL_at (Nat.le_refl _) (by omega) hn, List.drop_eq_nil_of_le (Nat.le_refl _), List.drop_eq_nil_of_le (by omega)]; rfl
set_option maxRecDepth 100000 in
theorem slices_Compare_int {xs ys : List Int} (hl : xs.length ≤ 100000) (hl' : ys.length ≤ 100000) :
  SpecN Try.prog 30 [avInts xs, avInts ys] (fun y => y = avI (cmpL xs ys)) := by
 refine SpecN.of_VCN Try.func30 rfl Try.ntmps30 (Nle rfl) fun w A hB => ?_
 have hnew : True := trivial
 refine VC.sr ?_
 refine VO.ma rfl rfl rfl rfl ?_
 refine VO.nil ?_
 refine VC.seq ?_
 refine VC.sr ?_
 refine VO.mv rfl rfl rfl rfl ?_
 refine VO.val rfl rfl (OpV.len_im rfl Try.underlying22 rfl) ?_
 refine VO.mv rfl rfl rfl rfl ?_
 refine VO.nil ?_
 refine VC.block ?_
 refine VC.loopK [(0, _), (1, _), (9, _), (10, _)] ⟨rfl, rfl, rfl, rfl, trivial⟩ ({q : Nat // q ≤ xs.length ∧ q ≤ ys.length ∧ ∀ j, j < q → xs.getD j 0 = ys.getD j 0}) (fun (iZ : {q : Nat // q ≤ xs.length ∧ q ≤ ys.length ∧ ∀ j, j < q → xs.getD j 0 = ys.getD j 0}) => match iZ with | ⟨q, hq, hqy, hn⟩ => [(11, avI (q : Int))]) (fun (iZ : {q : Nat // q ≤ xs.length ∧ q ≤ ys.length ∧ ∀ j, j < q → xs.getD j 0 = ys.getD j 0}) => match iZ with | ⟨q, hq, hqy, hn⟩ => []) (fun (iZ : {q : Nat // q ≤ xs.length ∧ q ≤ ys.length ∧ ∀ j, j < q → xs.getD j 0 = ys.getD j 0}) => match iZ with | ⟨q, hq, hqy, hn⟩ => 0) (fun (iZ : {q : Nat // q ≤ xs.length ∧ q ≤ ys.length ∧ ∀ j, j < q → xs.getD j 0 = ys.getD j 0}) => match iZ with | ⟨q, hq, hqy, hn⟩ => xs.length - q) ⟨0, Nat.zero_le _, Nat.zero_le _, fun j hj => absurd hj (Nat.not_lt_zero j)⟩ (Le.mk hB [] ⟨rfl, rfl, rfl, rfl, rfl, trivial⟩ rfl rfl (Nat.le_refl _)) ?_
 rintro ⟨q, hq, hqy, hn⟩
 show VC _ _ _ _ ⟨[(11, avI (q : Int))] ++ [(0, _), (1, _), (9, _), (10, _)], [], 0⟩
 refine VC.sr ?_
 refine VO.val rfl rfl (OpV.lss rfl rfl rfl) ?_
 refine VO.nil ?_
 refine VC.seq ?_
 refine VC.cond rfl (fun aH1b => ?_) (fun aH1b => ?_)
 ·have aH1 := aH1b
  try simp only [qqT, qqF, qqN, qqM, qqL, qqE] at aH1
  refine VC.skip ?_
  refine VC.seq ?_
  refine VC.block ?_
  refine VC.sr ?_
  refine VO.mv rfl rfl rfl rfl ?_
  refine VO.val rfl rfl (OpV.indexAddr_1 rfl Try.underlying22 Try.sizeOf3 rfl rfl rfl (by omega)) ?_
  refine VO.val rfl rfl (OpV.load_at rfl hB OutW.no Try.isAgg3 rfl rfl) ?_
  refine VO.ma rfl rfl rfl rfl ?_
  refine VO.ma rfl rfl rfl rfl ?_
  refine VO.nil ?_
  refine VC.seq ?_
  refine VC.sr ?_
  refine VO.mv rfl rfl rfl rfl ?_
  refine VO.mv rfl rfl rfl rfl ?_
  refine VO.val rfl rfl (OpV.len_im rfl Try.underlying22 rfl) ?_
  refine VO.val rfl rfl (OpV.geq rfl rfl rfl) ?_
  refine VO.nil ?_
  refine VC.cond rfl (fun aH2b => ?_) (fun aH2b => ?_)
  ·have aH2 := aH2b
   try simp only [qqT, qqF, qqN, qqM, qqL, qqE] at aH2
   refine VC.sr ?_
   refine VO.ma rfl rfl rfl rfl ?_
   refine VO.nil ?_
   refine VC.ret ?_
   exact Exists.intro _ (And.intro (RetN.one Try.results30 (ResN.v rfl)) (by rw [cmpL_5 (q := q) (by omega) hqy hn (by omega)]))
  ·have aH2 := aH2b
   try simp only [qqT, qqF, qqN, qqM, qqL, qqE] at aH2
   refine VC.skip ?_
   refine VC.sr ?_
   refine VO.mv rfl rfl rfl rfl ?_
   refine VO.mv rfl rfl rfl rfl ?_
   refine VO.val rfl rfl (OpV.indexAddr_1 rfl Try.underlying22 Try.sizeOf3 rfl rfl rfl (by omega)) ?_
   refine VO.val rfl rfl (OpV.load_at rfl hB OutW.no Try.isAgg3 rfl rfl) ?_
   refine VO.ma rfl rfl rfl rfl ?_
   refine VO.nil ?_
   refine VC.sr ?_
   refine VO.mv rfl rfl rfl rfl ?_
   refine VO.mv rfl rfl rfl rfl ?_
   refine VO.op rfl (OpE.call rfl hB rfl Try.call38 rfl (SpecN.spec (cmp_Compare_intE)) ?_)
   rintro _ rfl
   refine VO.ma rfl rfl rfl rfl ?_
   refine VO.nil ?_
   refine VC.sr ?_
   refine VO.mv rfl rfl rfl rfl ?_
   refine VO.val rfl rfl (OpV.neq rfl rfl rfl) ?_
   refine VO.nil ?_
   refine VC.cond rfl (fun h2b => ?_) (fun h2b => ?_)
   ·have h2 := h2b
    try simp only [qqT, qqF, qqN, qqM, qqL, qqE] at h2
    refine VC.sr ?_
    refine VO.mv rfl rfl rfl rfl ?_
    refine VO.ma rfl rfl rfl rfl ?_
    refine VO.nil ?_
    refine VC.ret ?_
    exact Exists.intro _ (And.intro (RetN.one Try.results30 (ResN.v rfl)) (by rw [cmpL_9 (q := q) (by omega) (by omega) hn h2]))
   ·have h2 := h2b
    try simp only [qqT, qqF, qqN, qqM, qqL, qqE] at h2
    refine VC.skip ?_
    refine VC.region ?_
    refine VO.val rfl rfl (OpV.add rfl rfl rfl (by unfold fits; omega)) ?_
    refine VO.mv rfl rfl rfl rfl ?_
    refine VO.nil ?_
    exact Exists.intro (⟨q + 1, by omega, by omega, lt_succ_cases hn (cmpE_0 (by omega))⟩) (And.intro (Le.mk hB [] ⟨rfl, rfl, rfl, rfl, rfl, trivial⟩ rfl rfl (Nat.le_refl _)) (by first | omega | (show _ < _; omega) | (simp only []; omega)))
 ·have aH1 := aH1b
  try simp only [qqT, qqF, qqN, qqM, qqL, qqE] at aH1
  refine VC.exit ?_
  refine VC.seq ?_
  refine VC.sr ?_
  refine VO.mv rfl rfl rfl rfl ?_
  refine VO.val rfl rfl (OpV.len_im rfl Try.underlying22 rfl) ?_
  refine VO.mv rfl rfl rfl rfl ?_
  refine VO.val rfl rfl (OpV.len_im rfl Try.underlying22 rfl) ?_
  refine VO.val rfl rfl (OpV.lss rfl rfl rfl) ?_
  refine VO.nil ?_
  refine VC.cond rfl (fun aH3b => ?_) (fun aH3b => ?_)
  ·have aH3 := aH3b
   try simp only [qqT, qqF, qqN, qqM, qqL, qqE] at aH3
   refine VC.sr ?_
   refine VO.ma rfl rfl rfl rfl ?_
   refine VO.nil ?_
   refine VC.ret ?_
   exact Exists.intro _ (And.intro (RetN.one Try.results30 (ResN.v rfl)) (by rw [cmpL_12 (fun j hj => hn j (by omega)) (by omega)]))
  ·have aH3 := aH3b
   try simp only [qqT, qqF, qqN, qqM, qqL, qqE] at aH3
   refine VC.skip ?_
   refine VC.sr ?_
   refine VO.ma rfl rfl rfl rfl ?_
   refine VO.nil ?_
   refine VC.ret ?_
   exact Exists.intro _ (And.intro (RetN.one Try.results30 (ResN.v rfl)) (by rw [cmpL_13 (fun j hj => hn j (by omega)) (by omega)]))
theorem lv_lenE (c b : List Int) (n : Nat) : (leaves c b n).length = n := by simp [leaves]
theorem lv_endE {c b : List Int} {n : Nat} (h : 0 < n) : (leaves c b n).getD (n - 1) 0 = endT c b n := by
 have : n - 1 < n := by omega
 simp [leaves, this]; rfl
set_option maxRecDepth 100000 in
theorem rf_end {c l : List Int} {nb : Nat} (hr : RightLine c l) (hnb : 1 ≤ nb ∧ nb ≤ 2000) :
  SpecN Try.prog 25 [avInts l, .at_ 1 (fun _ => avInts c), .at_ 1 (fun _ => avI (nb : Int))] (fun y => y = avI (endT c l nb)) := by
 have hll := lv_lenE c l nb
 have hle := lv_endE (c := c) (b := l) (n := nb) (by omega)
 refine SpecN.of_VCN Try.func25 rfl Try.ntmps25 (Nle rfl) fun w A hB => ?_
 have hnew : True := trivial
 refine VC.sr ?_
 refine VO.ma rfl rfl rfl rfl ?_
 refine VO.nil ?_
 refine VC.sr ?_
 refine VO.val rfl rfl (OpV.load_at rfl hB OutW.no Try.isAgg22 rfl rfl) ?_
 refine VO.mv rfl rfl rfl rfl ?_
 refine VO.val rfl rfl (OpV.load_at rfl hB OutW.no Try.isAgg3 rfl rfl) ?_
 refine VO.op rfl (OpE.call rfl hB rfl Try.call26 rfl (SpecN.spec (rf_LeaveOf_S hr (by omega))) ?_)
 rintro _ rfl
 refine VO.ma rfl rfl rfl rfl ?_
 refine VO.nil ?_
 refine VC.sr ?_
 refine VO.mv rfl rfl rfl rfl ?_
 refine VO.mv rfl rfl rfl rfl ?_
 refine VO.val rfl rfl (OpV.len_im rfl Try.underlying22 rfl) ?_
 refine VO.val rfl rfl (OpV.sub rfl rfl rfl (by unfold fits; omega)) ?_
 refine VO.val rfl rfl (OpV.indexAddr_1 rfl Try.underlying22 Try.sizeOf3 rfl rfl (show ((leaves c l nb).length : Int) - 1 = ((nb - 1 : Nat) : Int) by omega) (by omega)) ?_
 refine VO.val rfl rfl (OpV.load_at rfl hB OutW.no Try.isAgg3 rfl rfl) ?_
 refine VO.ma rfl rfl rfl rfl ?_
 refine VO.nil ?_
 refine VC.ret ?_
 exact Exists.intro _ (And.intro (RetN.one Try.results25 (ResN.v rfl)) (by rw [hle]))
abbrev rfEnFn (gN gBe gE gG gM gT : Nat) : Value := .func (.func 28) #[] #[ptv gN, ptv gBe, ptv gE, ptv gG, ptv gM, ptv gT]
abbrev rfEnd (c : List Int) (nb : Nat) : AV := .fn 25 [.at_ 1 (fun _ => avInts c), .at_ 1 (fun _ => avI (nb : Int))]
abbrev rfH (gN gBe gE gG gM gT : Nat) (c : List Int) (n m nb : Nat) (goal : Int) (be : List Int) : List Ent :=
 [.box gN ⟨[avI n], 3, 1⟩, .box gBe ⟨[avInts be], 22, 1⟩, .box gE ⟨[rfEnd c nb], 50, 1⟩, .box gG ⟨[avI goal], 3, 1⟩, .box gM ⟨[avI m], 3, 1⟩, .box gT ⟨[.v (rfEnFn gN gBe gE gG gM gT)], 52, 1⟩]
abbrev rfArgs (gN gBe gE gG gM gT : Nat) : List AV := [pt gN, pt gBe, pt gE, pt gG, pt gM, pt gT]
abbrev rfG (gN gBe gE gG gM gT : Nat) (c : List Int) (n m nb : Nat) (goal : Int) (be2 : List Int) (y : AV) (hp' : List Ent) : Prop := y = .tup [] ∧ hp' = rfH gN gBe gE gG gM gT c n m nb goal be2
theorem all_snoc {P : Int → Prop} {p : List Int} (h : ∀ x ∈ p, P x) {x : Int} (hx : P x) : ∀ y ∈ p ++ [x], P y := fun y hy => by
 rcases List.mem_append.1 hy with h' | h'
 ·exact h y h'
 ·simp at h'; subst h'; exact hx
set_option maxRecDepth 100000 in
theorem rfTry {gN gBe gE gG gM gT : Nat} {c b0 : List Int} {n m nb : Nat} {goal : Int} {r : Nat} {p be : List Int} (hf : flowF c b0 nb = 0) (hb0 : b0.length = n) (hp : p.length + r = n) (hpm : ∀ x ∈ p, 0 ≤ x ∧ x ≤ (m : Int)) (hbe : Good n m be) (hn6 : n ≤ 6) (hm3 : m ≤ 3) (hnb : 1 ≤ nb ∧ nb ≤ 2000) (ih : ∀ r', r = r' + 1 → ∀ p' be', p'.length + r' = n → (∀ x ∈ p', 0 ≤ x ∧ x ≤ (m : Int)) → Good n m be' → SpecH Try.prog 28 ([avInts p'] ++ rfArgs gN gBe gE gG gM gT) (rfH gN gBe gE gG gM gT c n m nb goal be') (rfG gN gBe gE gG gM gT c n m nb goal (srch (stpR (enE c nb goal)) m r' p' be'))) :
    SpecH Try.prog 28 [avInts p, pt gN, pt gBe, pt gE, pt gG, pt gM, pt gT] (rfH gN gBe gE gG gM gT c n m nb goal be) (rfG gN gBe gE gG gM gT c n m nb goal (srch (stpR (enE c nb goal)) m r p be)) := by
  have hbl := hbe.1
  have hp100 : ∀ x ∈ p, 0 ≤ x ∧ x ≤ 100 := fun x hx => by have := hpm x hx; omega
  have hb100 : ∀ x ∈ be, 0 ≤ x ∧ x ≤ 100 := fun x hx => by have := hbe.2 x hx; omega
  refine SpecH.of_VC Try.func28 rfl Try.ntmps28 (Nle rfl) fun w A hB => ?_
  have hnew : True := trivial
  refine VC.seq ?_
  refine VC.sr ?_
  refine VO.mv rfl rfl rfl rfl ?_
  refine VO.val rfl rfl (OpV.len_im rfl Try.underlying22 rfl) ?_
  refine VO.val rfl rfl (OpV.load_own (i := 0) rfl hB Try.isAgg3 rfl rfl rfl (fun h => h)) ?_
  refine VO.val rfl rfl (OpV.eql rfl rfl rfl) ?_
  refine VO.nil ?_
  refine VC.cond rfl (fun h0b => ?_) (fun h0b => ?_)
  · have h0 := h0b
    try simp only [qqT, qqF, qqN, qqM, qqL, qqE] at h0
    obtain rfl : r = 0 := by omega
    have hrl := right_small hf (bf := p) (by omega) (fun x hx => (hpm x hx).1)
    refine VC.seq ?_
    refine VC.seq ?_
    refine VC.draw (fun _ => NoB) hB (by kernel_rfl) ?_
    refine VA.take (i := 0) rfl (by kernel_rfl) (by kernel_rfl) (by kernel_rfl) rfl rfl (OpV.move (.inl rfl) rfl) ?_
    refine VA.take (i := 2) rfl (by kernel_rfl) (by kernel_rfl) (by kernel_rfl) rfl rfl (OpV.load_own (i := 1) rfl hB Try.isAgg22 rfl rfl rfl Wi.not0) ?_
    refine VA.all (rs := [1]) (by kernel_rfl) (by decide) ?_
    refine ⟨⟨_, rfl, .inl rfl, ?_⟩, trivial⟩
    refine OpE.call rfl hB rfl Try.call29 rfl (SpecN.spec (rf_sum (by omega) hp100)) ?_
    rintro _ rfl
    refine VA.all (rs := [3]) (by kernel_rfl) (by decide) ?_
    refine ⟨⟨_, rfl, .inl rfl, ?_⟩, trivial⟩
    refine OpE.call rfl hB rfl Try.call29 rfl (SpecN.spec (rf_sum (by omega) hb100)) ?_
    rintro _ rfl
    refine VA.take (i := 4) rfl (by kernel_rfl) (by kernel_rfl) (by kernel_rfl) rfl rfl (OpV.move (.inr rfl) rfl) ?_
    refine VA.take (i := 5) rfl (by kernel_rfl) (by kernel_rfl) (by kernel_rfl) rfl rfl (OpV.move (.inr rfl) rfl) ?_
    refine VA.done (by kernel_rfl) ?_
    refine VC.seq ?_
    refine VC.draw (fun _ => NoB) hB (by kernel_rfl) ?_
    refine VA.take (i := 0) rfl (by kernel_rfl) (by kernel_rfl) (by kernel_rfl) rfl rfl (OpV.load_own (i := 2) rfl hB Try.isAgg50 rfl rfl rfl Wi.not0) ?_
    refine VA.take (i := 1) rfl (by kernel_rfl) (by kernel_rfl) (by kernel_rfl) rfl rfl (OpV.move (.inl rfl) rfl) ?_
    refine VA.take (i := 3) rfl (by kernel_rfl) (by kernel_rfl) (by kernel_rfl) rfl rfl (OpV.load_own (i := 3) rfl hB Try.isAgg3 rfl rfl rfl Wi.not0) ?_
    refine VA.all (rs := [2]) (by kernel_rfl) (by decide) ?_
    refine ⟨⟨_, rfl, .inl rfl, ?_⟩, trivial⟩
    refine OpE.callF rfl hB rfl Try.call25 rfl rfl (rf_end hrl hnb).spec ?_
    rintro _ rfl
    refine VA.take (i := 4) rfl (by kernel_rfl) (by kernel_rfl) (by kernel_rfl) rfl rfl (OpV.eql rfl rfl rfl) ?_
    refine VA.take (i := 5) rfl (by kernel_rfl) (by kernel_rfl) (by kernel_rfl) rfl rfl (OpV.move (.inl rfl) rfl) ?_
    refine VA.split (t := 24) rfl (fun aK1b => ?_) (fun aK1b => ?_)
    · have aK1 := aK1b
      try simp only [qqT, qqF, qqN, qqM, qqL, qqE] at aK1
      refine VA.takeY (i := 6) rfl (by kernel_rfl) (by kernel_rfl) (by kernel_rfl) rfl rfl rfl rfl aK1b (OpV.move (.inl rfl) rfl) ?_
      refine VA.takeY (i := 7) rfl (by kernel_rfl) (by kernel_rfl) (by kernel_rfl) rfl rfl rfl rfl aK1b (OpV.move (.inl rfl) rfl) ?_
      refine VA.takeY (i := 8) rfl (by kernel_rfl) (by kernel_rfl) (by kernel_rfl) rfl rfl rfl rfl aK1b (OpV.lss rfl rfl rfl) ?_
      refine VA.takeY (i := 9) rfl (by kernel_rfl) (by kernel_rfl) (by kernel_rfl) rfl rfl rfl rfl aK1b (OpV.move (.inl rfl) rfl) ?_
      refine VA.split (t := 28) rfl (fun aK2b => ?_) (fun aK2b => ?_)
      · have aK2 := aK2b
        try simp only [qqT, qqF, qqN, qqM, qqL, qqE] at aK2
        refine VA.takeX (i := 10) rfl (by kernel_rfl) (by kernel_rfl) (by kernel_rfl) rfl rfl rfl rfl aK2b ?_
        refine VA.takeX (i := 11) rfl (by kernel_rfl) (by kernel_rfl) (by kernel_rfl) rfl rfl rfl rfl aK2b ?_
        refine VA.takeX (i := 12) rfl (by kernel_rfl) (by kernel_rfl) (by kernel_rfl) rfl rfl rfl rfl aK2b ?_
        refine VA.takeX (i := 13) rfl (by kernel_rfl) (by kernel_rfl) (by kernel_rfl) rfl rfl rfl rfl aK2b ?_
        refine VA.takeU (i := 14) rfl (by kernel_rfl) (by kernel_rfl) (by kernel_rfl) rfl rfl rfl rfl ?_
        refine VA.takeU (i := 15) rfl (by kernel_rfl) (by kernel_rfl) (by kernel_rfl) rfl rfl rfl rfl ?_
        refine VA.takeU (i := 16) rfl (by kernel_rfl) (by kernel_rfl) (by kernel_rfl) rfl rfl rfl rfl ?_
        refine VA.takeU (i := 17) rfl (by kernel_rfl) (by kernel_rfl) (by kernel_rfl) rfl rfl rfl rfl ?_
        refine VA.takeX (i := 18) rfl (by kernel_rfl) (by kernel_rfl) (by kernel_rfl) rfl rfl rfl rfl aK2b ?_
        refine VA.takeY (i := 19) rfl (by kernel_rfl) (by kernel_rfl) (by kernel_rfl) rfl rfl rfl rfl aK1b (OpV.pickT rfl rfl rfl rfl aK2b) ?_
        refine VA.take (i := 20) rfl (by kernel_rfl) (by kernel_rfl) (by kernel_rfl) rfl rfl (OpV.pickT rfl rfl rfl rfl aK1b) ?_
        refine VA.done (by kernel_rfl) ?_
        refine VC.condT rfl rfl ?_
        refine VC.region ?_
        refine VO.mv rfl rfl rfl rfl ?_
        refine VO.op rfl (OpE.callR rfl hB rfl Try.call19 (slices_Clone_R (by omega)) (ArgsP.cons (ArgP.ev rfl) (ArgsP.nil)) ?_)
        intro u41
        refine VO.le _ (Le.rowI (t := 41) (i := 6) hB hnew rfl rfl (by first | rfl | simp)) ?_
        refine VO.op rfl (OpE.store (i := 1) rfl hB rfl Try.sizeOf22 rfl rfl rfl rfl rfl rfl (Nle rfl) trivial ?_)
        refine VO.nil ?_
        refine VC.ret ?_
        exact Exists.intro _ (And.intro (RetV.none Try.results28) (⟨rfl, by rw [srch, stpR, if_pos (by simp [enE]; omega)]; rfl⟩))
      · have aK2 := aK2b
        try simp only [qqT, qqF, qqN, qqM, qqL, qqE] at aK2
        refine VA.takeY (i := 10) rfl (by kernel_rfl) (by kernel_rfl) (by kernel_rfl) rfl rfl rfl rfl aK2b (OpV.move (.inl rfl) rfl) ?_
        refine VA.takeY (i := 11) rfl (by kernel_rfl) (by kernel_rfl) (by kernel_rfl) rfl rfl rfl rfl aK2b (OpV.move (.inl rfl) rfl) ?_
        refine VA.takeY (i := 12) rfl (by kernel_rfl) (by kernel_rfl) (by kernel_rfl) rfl rfl rfl rfl aK2b (OpV.eql rfl rfl rfl) ?_
        refine VA.takeY (i := 13) rfl (by kernel_rfl) (by kernel_rfl) (by kernel_rfl) rfl rfl rfl rfl aK2b (OpV.move (.inl rfl) rfl) ?_
        refine VA.split (t := 32) rfl (fun aK3b => ?_) (fun aK3b => ?_)
        · have aK3 := aK3b
          try simp only [qqT, qqF, qqN, qqM, qqL, qqE] at aK3
          refine VA.takeY (i := 14) rfl (by kernel_rfl) (by kernel_rfl) (by kernel_rfl) rfl rfl rfl rfl aK3b (OpV.move (.inl rfl) rfl) ?_
          refine VA.takeY (i := 15) rfl (by kernel_rfl) (by kernel_rfl) (by kernel_rfl) rfl rfl rfl rfl aK3b (OpV.load_own (i := 1) rfl hB Try.isAgg22 rfl rfl rfl Wi.not0) ?_
          refine VA.all (rs := [16]) (by kernel_rfl) (by decide) ?_
          refine ⟨⟨_, rfl, .inr ⟨_, _, _, rfl, rfl, (look_k rfl aK3b)⟩, ?_⟩, trivial⟩
          refine OpE.call rfl hB rfl Try.call30 rfl (SpecN.spec (slices_Compare_int (by omega) (by omega))) ?_
          rintro _ rfl
          refine VA.takeY (i := 17) rfl (by kernel_rfl) (by kernel_rfl) (by kernel_rfl) rfl rfl rfl rfl aK3b (OpV.lss rfl rfl rfl) ?_
          refine VA.takeY (i := 18) rfl (by kernel_rfl) (by kernel_rfl) (by kernel_rfl) rfl rfl rfl rfl aK2b (OpV.pickT rfl rfl rfl rfl aK3b) ?_
          refine VA.takeY (i := 19) rfl (by kernel_rfl) (by kernel_rfl) (by kernel_rfl) rfl rfl rfl rfl aK1b (OpV.pickF rfl rfl rfl rfl aK2b) ?_
          refine VA.take (i := 20) rfl (by kernel_rfl) (by kernel_rfl) (by kernel_rfl) rfl rfl (OpV.pickT rfl rfl rfl rfl aK1b) ?_
          refine VA.done (by kernel_rfl) ?_
          refine VC.cond rfl (fun h1b => ?_) (fun h1b => ?_)
          · have h1 := h1b
            try simp only [qqT, qqF, qqN, qqM, qqL, qqE] at h1
            refine VC.region ?_
            refine VO.mv rfl rfl rfl rfl ?_
            refine VO.op rfl (OpE.callR rfl hB rfl Try.call19 (slices_Clone_R (by omega)) (ArgsP.cons (ArgP.ev rfl) (ArgsP.nil)) ?_)
            intro u41
            refine VO.le _ (Le.rowI (t := 41) (i := 6) hB hnew rfl rfl (by first | rfl | simp)) ?_
            refine VO.op rfl (OpE.store (i := 1) rfl hB rfl Try.sizeOf22 rfl rfl rfl rfl rfl rfl (Nle rfl) trivial ?_)
            refine VO.nil ?_
            refine VC.ret ?_
            exact Exists.intro _ (And.intro (RetV.none Try.results28) (⟨rfl, by rw [srch, stpR, if_pos (by simp [enE]; omega)]; rfl⟩))
          · have h1 := h1b
            try simp only [qqT, qqF, qqN, qqM, qqL, qqE] at h1
            refine VC.skip ?_
            refine VC.ret ?_
            exact Exists.intro _ (And.intro (RetV.none Try.results28) (⟨rfl, by rw [srch, stpR, if_neg (by simp [enE]; omega)]; rfl⟩))
        · have aK3 := aK3b
          try simp only [qqT, qqF, qqN, qqM, qqL, qqE] at aK3
          refine VA.takeX (i := 14) rfl (by kernel_rfl) (by kernel_rfl) (by kernel_rfl) rfl rfl rfl rfl aK3b ?_
          refine VA.takeX (i := 15) rfl (by kernel_rfl) (by kernel_rfl) (by kernel_rfl) rfl rfl rfl rfl aK3b ?_
          refine VA.takeX (i := 16) rfl (by kernel_rfl) (by kernel_rfl) (by kernel_rfl) rfl rfl rfl rfl aK3b ?_
          refine VA.takeX (i := 17) rfl (by kernel_rfl) (by kernel_rfl) (by kernel_rfl) rfl rfl rfl rfl aK3b ?_
          refine VA.takeY (i := 18) rfl (by kernel_rfl) (by kernel_rfl) (by kernel_rfl) rfl rfl rfl rfl aK2b (OpV.pickF rfl rfl rfl rfl aK3b) ?_
          refine VA.takeY (i := 19) rfl (by kernel_rfl) (by kernel_rfl) (by kernel_rfl) rfl rfl rfl rfl aK1b (OpV.pickF rfl rfl rfl rfl aK2b) ?_
          refine VA.take (i := 20) rfl (by kernel_rfl) (by kernel_rfl) (by kernel_rfl) rfl rfl (OpV.pickT rfl rfl rfl rfl aK1b) ?_
          refine VA.done (by kernel_rfl) ?_
          refine VC.condF rfl rfl ?_
          refine VC.skip ?_
          refine VC.ret ?_
          exact Exists.intro _ (And.intro (RetV.none Try.results28) (⟨rfl, by rw [srch, stpR, if_neg (by simp [enE]; omega)]; rfl⟩))
    · have aK1 := aK1b
      try simp only [qqT, qqF, qqN, qqM, qqL, qqE] at aK1
      refine VA.takeX (i := 6) rfl (by kernel_rfl) (by kernel_rfl) (by kernel_rfl) rfl rfl rfl rfl aK1b ?_
      refine VA.takeX (i := 7) rfl (by kernel_rfl) (by kernel_rfl) (by kernel_rfl) rfl rfl rfl rfl aK1b ?_
      refine VA.takeX (i := 8) rfl (by kernel_rfl) (by kernel_rfl) (by kernel_rfl) rfl rfl rfl rfl aK1b ?_
      refine VA.takeX (i := 9) rfl (by kernel_rfl) (by kernel_rfl) (by kernel_rfl) rfl rfl rfl rfl aK1b ?_
      refine VA.takeU (i := 10) rfl (by kernel_rfl) (by kernel_rfl) (by kernel_rfl) rfl rfl rfl rfl ?_
      refine VA.takeU (i := 11) rfl (by kernel_rfl) (by kernel_rfl) (by kernel_rfl) rfl rfl rfl rfl ?_
      refine VA.takeU (i := 12) rfl (by kernel_rfl) (by kernel_rfl) (by kernel_rfl) rfl rfl rfl rfl ?_
      refine VA.takeU (i := 13) rfl (by kernel_rfl) (by kernel_rfl) (by kernel_rfl) rfl rfl rfl rfl ?_
      refine VA.takeU (i := 14) rfl (by kernel_rfl) (by kernel_rfl) (by kernel_rfl) rfl rfl rfl rfl ?_
      refine VA.takeU (i := 15) rfl (by kernel_rfl) (by kernel_rfl) (by kernel_rfl) rfl rfl rfl rfl ?_
      refine VA.takeU (i := 16) rfl (by kernel_rfl) (by kernel_rfl) (by kernel_rfl) rfl rfl rfl rfl ?_
      refine VA.takeU (i := 17) rfl (by kernel_rfl) (by kernel_rfl) (by kernel_rfl) rfl rfl rfl rfl ?_
      refine VA.takeU (i := 18) rfl (by kernel_rfl) (by kernel_rfl) (by kernel_rfl) rfl rfl rfl rfl ?_
      refine VA.takeX (i := 19) rfl (by kernel_rfl) (by kernel_rfl) (by kernel_rfl) rfl rfl rfl rfl aK1b ?_
      refine VA.take (i := 20) rfl (by kernel_rfl) (by kernel_rfl) (by kernel_rfl) rfl rfl (OpV.pickF rfl rfl rfl rfl aK1b) ?_
      refine VA.done (by kernel_rfl) ?_
      refine VC.condF rfl rfl ?_
      refine VC.skip ?_
      refine VC.ret ?_
      exact Exists.intro _ (And.intro (RetV.none Try.results28) (⟨rfl, by rw [srch, stpR, if_neg (by simp [enE]; omega)]; rfl⟩))
  · have h0 := h0b
    try simp only [qqT, qqF, qqN, qqM, qqL, qqE] at h0
    obtain ⟨r', rfl⟩ : ∃ r', r = r' + 1 := ⟨r - 1, by omega⟩
    refine VC.skip ?_
    refine VC.sr ?_
    refine VO.val rfl rfl (OpV.load_own (i := 4) rfl hB Try.isAgg3 rfl rfl rfl (fun h => h)) ?_
    refine VO.val rfl rfl (OpV.add rfl rfl rfl (by unfold fits; omega)) ?_
    refine VO.mv rfl rfl rfl rfl ?_
    refine VO.nil ?_
    refine VC.block ?_
    refine VC.loopK [(0, _), (6, _), (43, _)] ⟨rfl, rfl, rfl, trivial⟩ ({x : Nat // x ≤ m + 1}) (fun (iZ : {x : Nat // x ≤ m + 1}) => match iZ with | ⟨x, hx⟩ => [(44, avI (x : Int))]) (fun (iZ : {x : Nat // x ≤ m + 1}) => match iZ with | ⟨x, hx⟩ => (rfH gN gBe gE gG gM gT c n m nb goal (srchTo (stpR (enE c nb goal)) m r' p be x))) (fun (iZ : {x : Nat // x ≤ m + 1}) => match iZ with | ⟨x, hx⟩ => 0) (fun (iZ : {x : Nat // x ≤ m + 1}) => match iZ with | ⟨x, hx⟩ => m + 1 - x) ⟨0, Nat.zero_le _⟩ (Le.mkP hB ⟨rfl, rfl, rfl, rfl, trivial⟩ (List.Sublist.refl _) (List.Perm.refl _) (Nat.le_refl _)) ?_
    rintro ⟨x, hx⟩
    show VC _ _ _ _ ⟨[(44, avI (x : Int))] ++ [(0, _), (6, _), (43, _)], (rfH gN gBe gE gG gM gT c n m nb goal (srchTo (stpR (enE c nb goal)) m r' p be x)), 0⟩
    refine VC.sr ?_
    refine VO.val rfl rfl (OpV.lss rfl rfl rfl) ?_
    refine VO.nil ?_
    refine VC.seq ?_
    refine VC.cond rfl (fun aH4b => ?_) (fun aH4b => ?_)
    · have aH4 := aH4b
      try simp only [qqT, qqF, qqN, qqM, qqL, qqE] at aH4
      refine VC.skip ?_
      refine VC.seq ?_
      refine VC.block ?_
      refine VC.sr ?_
      refine VO.mv rfl rfl rfl rfl ?_
      refine VO.ma rfl rfl rfl rfl ?_
      refine VO.nil ?_
      refine VC.draw (fun j b => (j = 6 ∧ True) ∨ (j = 5 ∧ b ≠ gT)) hB (by kernel_rfl) ?_
      refine VA.take (i := 0) rfl (by kernel_rfl) (by kernel_rfl) (by kernel_rfl) rfl rfl (OpV.load_own (i := 5) rfl hB Try.isAgg52 rfl rfl rfl (Wi.notN (by kernel_rfl))) ?_
      refine VA.take (i := 1) rfl (by kernel_rfl) (by kernel_rfl) (by kernel_rfl) rfl rfl (OpV.move (.inl rfl) rfl) ?_
      refine VA.take (i := 3) rfl (by kernel_rfl) (by kernel_rfl) (by kernel_rfl) rfl rfl (OpV.move (.inl rfl) rfl) ?_
      refine VA.all (rs := [2, 4]) (by kernel_rfl) (by decide) ?_
      refine ⟨⟨_, rfl, .inl rfl, ?_⟩, ⟨_, rfl, .inl rfl, ?_⟩, trivial⟩
      ·
        refine OpE.callR rfl hB rfl Try.call19 (slices_Clone_R (by omega)) (ArgsP.cons (ArgP.ev rfl) (ArgsP.nil)) ?_
        intro u49
        refine VA.all (rs := [4]) (by kernel_rfl) (by decide) ?_
        refine ⟨⟨_, rfl, .inl rfl, ?_⟩, trivial⟩
        refine OpE.buildSlice (zc := #[.int .i64 0]) rfl hB rfl Try.underlying22 Try.sizeOf3 Try.zeroValue3 (by decide) (by decide) (by kernel_rfl) rfl rfl ?_
        refine VA.all (rs := [5]) (by kernel_rfl) (by decide) ?_
        refine ⟨⟨_, rfl, .inl rfl, ?_⟩, trivial⟩
        refine OpE.hap (fun hap => ?_)
        refine OpE.append1 (i := 6) rfl hB rfl Try.underlying22 (infoOf Try.t3 1 (by kernel_rfl) rfl rfl) rfl (by decide) (by decide) rfl rfl rfl rfl (intsL_snoc _ _) (by omega) (fun g' hg => .inr ⟨rfl, apart_ne hap (i := 6) (j := 5) hg rfl (by decide)⟩) ?_
        intro u52
        refine VA.le _ (Le.rowI (t := 52) (i := 6) hB hnew rfl rfl (by first | rfl | simp)) ?_
        refine VA.all (rs := [6]) (by kernel_rfl) (by decide) ?_
        refine ⟨⟨_, rfl, .inl rfl, ?_⟩, trivial⟩
        refine OpE.callH (rest := []) rfl hB rfl Try.call28 rfl rfl (ih r' rfl (p ++ [(x : Int)]) _ (by simp; omega) (all_snoc hpm ⟨by omega, by omega⟩) (srchTo_good (stpR_or _) n m r' p be (by omega) hpm hbe x (by omega))) (List.Perm.refl _) (fun _ _ => .inl ⟨rfl, trivial⟩) ?_
        rintro _ _ ⟨rfl, rfl⟩
        refine VA.done (by kernel_rfl) ?_
        refine VC.region ?_
        refine VO.val rfl rfl (OpV.add rfl rfl rfl (by unfold fits; omega)) ?_
        refine VO.mv rfl rfl rfl rfl ?_
        refine VO.nil ?_
        exact Exists.intro (⟨x + 1, by show _ ≤ _; omega⟩) (And.intro (Le.mkP hB ⟨rfl, rfl, rfl, rfl, trivial⟩ (List.Sublist.refl _) (by first | exact List.Perm.refl _ | (dsimp only; rw [srchTo_succ]; exact List.Perm.refl _)) (Nat.le_refl _)) (by first | omega | (show _ < _; omega) | (simp only []; omega)))
      ·
        refine OpE.buildSlice (zc := #[.int .i64 0]) rfl hB rfl Try.underlying22 Try.sizeOf3 Try.zeroValue3 (by decide) (by decide) (by kernel_rfl) rfl rfl ?_
        refine VA.all (rs := [2]) (by kernel_rfl) (by decide) ?_
        refine ⟨⟨_, rfl, .inl rfl, ?_⟩, trivial⟩
        refine OpE.callR rfl hB rfl Try.call19 (slices_Clone_R (by omega)) (ArgsP.cons (ArgP.ev rfl) (ArgsP.nil)) ?_
        intro u49
        refine VA.all (rs := [5]) (by kernel_rfl) (by decide) ?_
        refine ⟨⟨_, rfl, .inl rfl, ?_⟩, trivial⟩
        refine OpE.hap (fun hap => ?_)
        refine OpE.append1 (i := 6) rfl hB rfl Try.underlying22 (infoOf Try.t3 1 (by kernel_rfl) rfl rfl) rfl (by decide) (by decide) rfl rfl rfl rfl (intsL_snoc _ _) (by omega) (fun g' hg => .inr ⟨rfl, apart_ne hap (i := 6) (j := 5) hg rfl (by decide)⟩) ?_
        intro u52
        refine VA.le _ (Le.rowI (t := 52) (i := 6) hB hnew rfl rfl (by first | rfl | simp)) ?_
        refine VA.all (rs := [6]) (by kernel_rfl) (by decide) ?_
        refine ⟨⟨_, rfl, .inl rfl, ?_⟩, trivial⟩
        refine OpE.callH (rest := []) rfl hB rfl Try.call28 rfl rfl (ih r' rfl (p ++ [(x : Int)]) _ (by simp; omega) (all_snoc hpm ⟨by omega, by omega⟩) (srchTo_good (stpR_or _) n m r' p be (by omega) hpm hbe x (by omega))) (List.Perm.refl _) (fun _ _ => .inl ⟨rfl, trivial⟩) ?_
        rintro _ _ ⟨rfl, rfl⟩
        refine VA.done (by kernel_rfl) ?_
        refine VC.region ?_
        refine VO.val rfl rfl (OpV.add rfl rfl rfl (by unfold fits; omega)) ?_
        refine VO.mv rfl rfl rfl rfl ?_
        refine VO.nil ?_
        exact Exists.intro (⟨x + 1, by show _ ≤ _; omega⟩) (And.intro (Le.mkP hB ⟨rfl, rfl, rfl, rfl, trivial⟩ (List.Sublist.refl _) (by first | exact List.Perm.refl _ | (dsimp only; rw [srchTo_succ]; exact List.Perm.refl _)) (Nat.le_refl _)) (by first | omega | (show _ < _; omega) | (simp only []; omega)))
    · have aH4 := aH4b
      try simp only [qqT, qqF, qqN, qqM, qqL, qqE] at aH4
      refine VC.exit ?_
      exact Exists.intro _ (And.intro (RetV.none Try.results28) (⟨rfl, by obtain rfl : x = m + 1 := (by omega); rfl⟩))
theorem rfTry_all {gN gBe gE gG gM gT : Nat} {c b0 : List Int} {n m nb : Nat} {goal : Int} (hf : flowF c b0 nb = 0) (hb0 : b0.length = n) (hn6 : n ≤ 6) (hm3 : m ≤ 3) (hnb : 1 ≤ nb ∧ nb ≤ 2000) :
  ∀ (r : Nat) (p be : List Int), p.length + r = n → (∀ x ∈ p, 0 ≤ x ∧ x ≤ (m : Int)) → Good n m be →
  SpecH Try.prog 28 ([avInts p] ++ rfArgs gN gBe gE gG gM gT) (rfH gN gBe gE gG gM gT c n m nb goal be) (rfG gN gBe gE gG gM gT c n m nb goal (srch (stpR (enE c nb goal)) m r p be)) := by
 intro r
 induction r with
 | zero => intro p be h1 h2 h3; exact rfTry hf hb0 h1 h2 h3 hn6 hm3 hnb (fun r' h => by omega)
 | succ r ih =>
  intro p be h1 h2 h3
  refine rfTry hf hb0 h1 h2 h3 hn6 hm3 hnb (fun r' h p' be' k1 k2 k3 => ?_)
  obtain rfl : r' = r := by omega
  exact ih p' be' k1 k2 k3
theorem OpV.makeFuncF2 {P : Program} {B : Bs} {W : Nat → Prop} {s : St'} {o : Oper} {F : FuncId} {c1 c2 : Operand} {x1 x2 : AV} (ho : o.op = .makeFunc (.func F) #[] #[c1, c2]) (h1 : evO s c1 = some x1) (h2 : evO s c2 = some x2) : OpV P B W s o (.fn F [x1, x2]) := fun a w hr => by
 refine ⟨.func (.func F) #[] #[a.eval c1, a.eval c2], fun w' _ => by simp [execOp, ho, Instr.makeFunc], .fn _ _ _ rfl fun j hj => ?_⟩
 simp at hj
 match j, hj with
 | 0, _ => exact hr.ev h1
 | 1, _ => exact hr.ev h2
theorem OpV.makeFunc6 {P : Program} {B : Bs} {W : Nat → Prop} {s : St'} {o : Oper} {fn : Fn} {c1 c2 c3 c4 c5 c6 : Operand} {u1 u2 u3 u4 u5 u6 : Value} (ho : o.op = .makeFunc fn #[] #[c1, c2, c3, c4, c5, c6]) (h1 : evO s c1 = some (.v u1)) (h2 : evO s c2 = some (.v u2)) (h3 : evO s c3 = some (.v u3)) (h4 : evO s c4 = some (.v u4)) (h5 : evO s c5 = some (.v u5)) (h6 : evO s c6 = some (.v u6)) : OpV P B W s o (.v (.func fn #[] #[u1, u2, u3, u4, u5, u6])) :=
 OpV.makeFunc ho fun a w hr => by simp [hr.evv h1, hr.evv h2, hr.evv h3, hr.evv h4, hr.evv h5, hr.evv h6]
end Go.Proofs.Ytmahammdnmmmoaa
namespace Go.Proofs.Ytmahammdnmmmoaa
open Go.RowKit
set_option linter.unusedVariables false
set_option linter.unusedSimpArgs false
def errsF (xs : List Int) : Int := match xs.find? (fun x => decide (x ≠ 0)) with | some x => x | none => 0
theorem errsF_at {xs : List Int} {q : Nat} (hq : q < xs.length) (hn : ∀ j, j < q → xs.getD j 0 = 0) (h : xs.getD q 0 ≠ 0) : errsF xs = xs.getD q 0 := by
 induction xs generalizing q with
 | nil => simp at hq
 | cons x r ih =>
  cases q with
  | zero => simp at h; simp [errsF, h]
  | succ q =>
   have h0 := hn 0 (by omega)
   simp at h0
   have := ih (q := q) (by simpa using hq) (fun j hj => by simpa using hn (j + 1) (by omega)) (by simpa using h)
   simpa [errsF, h0] using this
theorem errsF_none {xs : List Int} (hn : ∀ j, j < xs.length → xs.getD j 0 = 0) : errsF xs = 0 := by
 induction xs with
 | nil => rfl
 | cons x r ih =>
  have h0 := hn 0 (by simp)
  simp at h0
  have := ih (fun j hj => by simpa using hn (j + 1) (by simpa using hj))
  simpa [errsF, h0] using this
theorem Le.lits {B : Bs} {s : St'} {t n : Nat} {xs : List Int} (hn : n = xs.length) (ht : look s.sl t = some (.im n 1 fun j => (intsL xs).getD j .any)) : Le B s ⟨(t, avInts xs) :: s.sl, s.hp, s.k⟩ := Le.recast ht fun w Z u h => Rep.ints hn h
end Go.Proofs.Ytmahammdnmmmoaa
namespace Go.Proofs.Ytmahammdnmmmoaa
open Go.RowKit
set_option linter.unusedVariables false
set_option linter.unusedSimpArgs false
theorem SpecH.nil7 {P : Program} {F : FuncId} {x2 x3 x4 x5 x6 x7 : AV} {sz : Nat} {f : Nat → AV} {hp : List Ent} {G : AV → List Ent → Prop} (h : SpecH P F [.im 0 sz f, x2, x3, x4, x5, x6, x7] hp G) : SpecH P F [.v (.slice none 0 0), x2, x3, x4, x5, x6, x7] hp G := fun w A us ha hp1 hp2 hp3 => by
 refine h w A us ⟨ha.1, fun j hj => ?_⟩ hp1 hp2 hp3
 rcases j with _ | j
 ·have := (ha.2 0 (by simp)).eq_v
  show Rep w _ (.im 0 sz f) _
  rw [this]
  exact .nil _ _
 ·exact ha.2 (j + 1) (by simpa using hj)
theorem enL_R {c : List Int} {n m nb : Nat} (hn : c.length = n + 1) : srch (stpR (enE c nb (endT c (List.replicate n (m : Int)) nb))) m n [] (List.replicate n (m : Int)) = enoughL c nb m := by
 have h : c.length - 1 = n := by omega
 rw [srch_full, enoughL, h]
theorem rfTry0 {gN gBe gE gG gM gT : Nat} {c b0 : List Int} {n m nb : Nat} {goal : Int} {be R : List Int} (hf : flowF c b0 nb = 0) (hb0 : b0.length = n) (hn6 : n ≤ 6) (hm3 : m ≤ 3) (hnb : 1 ≤ nb ∧ nb ≤ 2000) (hbe : be = List.replicate n (m : Int)) (hR : R = srch (stpR (enE c nb goal)) m n [] be) :
  SpecH Try.prog 28 [.v (.slice none 0 0), pt gN, pt gBe, pt gE, pt gG, pt gM, pt gT] (rfH gN gBe gE gG gM gT c n m nb goal be) (rfG gN gBe gE gG gM gT c n m nb goal R) := by
 subst hR
 exact SpecH.nil7 (rfTry_all (b0 := b0) hf hb0 hn6 hm3 hnb n [] be (by simp) (by simp) (by rw [hbe]; exact good_rep n m))
set_option maxRecDepth 100000 in
set_option maxHeartbeats 4000000 in
theorem rf_EnoughOfX {c be R : List Int} {m nb n : Nat} {goal : Int} (hcy : cycF c = 0) (hn : c.length = n + 1) (hnb : 1 ≤ nb ∧ nb ≤ 2000) (hm3 : m ≤ 3) (hbe : be = List.replicate n (m : Int)) (hgoal : goal = endT c be nb) (hR : R = srch (stpR (enE c nb goal)) m n [] be) :
  Spec Try.prog 10 [avInts c, avI (nb : Int), avI (m : Int)] (fun y => y = avInts R) := by
 have hcl := cyc0_len hcy
 have hff := flow_of (n := (nb : Int)) hcy (by unfold outB; simp; omega)
 refine Spec.of_VC Try.func10 rfl Try.ntmps10 (Nle rfl) fun w A hB => ?_
 have hnew : True := trivial
 refine VC.sr ?_
 refine VO.op rfl (OpE.box rfl hB rfl rfl rfl ?_)
 intro gC
 refine VO.op rfl (OpE.box rfl hB rfl rfl rfl ?_)
 intro gBo
 refine VO.op rfl (OpE.box rfl hB rfl rfl rfl ?_)
 intro gM
 refine VO.ma rfl rfl rfl rfl ?_
 refine VO.nil ?_
 refine VC.seq ?_
 refine VC.le _ (Le.freezeAt (t := 3) (m := 1) (f := fun _ => avInts c) (i := 0) rfl rfl (Nat.le_refl _) (fun w Z u h => h.at_congr (g := fun _ => avInts c) (fun j hj => by rcases j with _ | j <;> first | rfl | omega)) hnew hB) ?_
 refine VC.le _ (Le.freezeAt (t := 4) (m := 1) (f := fun _ => avI (nb : Int)) (i := 0) rfl rfl (Nat.le_refl _) (fun w Z u h => h.at_congr (g := fun _ => avI (nb : Int)) (fun j hj => by rcases j with _ | j <;> first | rfl | omega)) hnew hB) ?_
 refine VC.region ?_
 refine VO.val rfl rfl (OpV.makeFuncF2 rfl rfl rfl) ?_
 refine VO.op rfl (OpE.alloc rfl hB rfl Try.zeroValue50 rfl ?_)
 intro gE
 refine VO.op rfl (OpE.store (i := 1) rfl hB rfl Try.sizeOf50 rfl rfl rfl rfl rfl rfl (Nle rfl) trivial ?_)
 refine VO.nil ?_
 refine VC.sr ?_
 refine VO.val rfl rfl (OpV.load_at rfl hB OutW.no Try.isAgg22 rfl rfl) ?_
 refine VO.val rfl rfl (OpV.len_im rfl Try.underlying22 rfl) ?_
 refine VO.val rfl rfl (OpV.sub rfl rfl rfl (by unfold fits; omega)) ?_
 refine VO.le _ (Le.recast (t := 16) (y := avI (n : Int)) rfl (fun w Z u h => by rw [show (n : Int) = (c.length : Int) - 1 by omega]; exact h)) ?_
 refine VO.op rfl (OpE.alloc rfl hB rfl Try.zeroValue3 rfl ?_)
 intro gN
 refine VO.op rfl (OpE.store (i := 2) rfl hB rfl Try.sizeOf3 rfl rfl rfl rfl rfl rfl (Nle rfl) trivial ?_)
 refine VO.nil ?_
 refine VC.sr ?_
 refine VO.val rfl rfl (OpV.load_own (i := 0) rfl hB Try.isAgg3 rfl rfl rfl (fun h => h)) ?_
 refine VO.op rfl (OpE.buildSlice (zc := #[.int .i64 0]) rfl hB rfl Try.underlying22 Try.sizeOf3 Try.zeroValue3 (by decide) (by decide) (by kernel_rfl) rfl rfl ?_)
 refine VO.le _ (Le.lits (t := 18) (xs := [(m : Int)]) rfl rfl) ?_
 refine VO.val rfl rfl (OpV.load_own (i := 2) rfl hB Try.isAgg3 rfl rfl rfl (fun h => h)) ?_
 refine VO.op rfl (OpE.call rfl hB rfl Try.call27 rfl (slices_Repeat_int (x := (m : Int)) (n := n) (by omega)) ?_)
 rintro _ rfl
 refine VO.le _ (Le.recast (t := 20) (y := avInts be) rfl (fun w Z u h => by rw [hbe]; exact h)) ?_
 refine VO.ma rfl rfl rfl rfl ?_
 refine VO.nil ?_
 refine VC.seq ?_
 refine VC.le ⟨[(3, _), (4, _), (5, _), (7, _), (8, _), (9, _)], [.box _ ⟨[_], _, _⟩, .box _ ⟨[_], _, _⟩, .box _ ⟨[_], _, _⟩], _⟩ (Le.mk hB [0, 1, 2] ⟨rfl, rfl, rfl, rfl, rfl, rfl, trivial⟩ rfl rfl (Nat.le_refl _)) ?_
 refine VC.region ?_
 refine VO.mv rfl rfl rfl rfl ?_
 refine VO.op rfl (OpE.alloc rfl hB rfl Try.zeroValue22 rfl ?_)
 intro gBe
 refine VO.op rfl (OpE.store (i := 3) rfl hB rfl Try.sizeOf22 rfl rfl rfl rfl rfl rfl (Nle rfl) trivial ?_)
 refine VO.nil ?_
 refine VC.sr ?_
 refine VO.val rfl rfl (OpV.load_own (i := 1) rfl hB Try.isAgg50 rfl rfl rfl (fun h => h)) ?_
 refine VO.mv rfl rfl rfl rfl ?_
 refine VO.op rfl (OpE.callF rfl hB rfl Try.call25 rfl rfl (rf_end (right_small hff (bf := be) (by rw [hbe]; simp; omega) (fun x hx => by rw [hbe] at hx; rw [List.eq_of_mem_replicate hx]; omega)) hnb).spec ?_)
 rintro _ rfl
 refine VO.le _ (Le.recast (t := 24) (y := avI goal) rfl (fun w Z u h => by rw [hgoal]; exact h)) ?_
 refine VO.op rfl (OpE.alloc rfl hB rfl Try.zeroValue3 rfl ?_)
 intro gG
 refine VO.op rfl (OpE.store (i := 4) rfl hB rfl Try.sizeOf3 rfl rfl rfl rfl rfl rfl (Nle rfl) trivial ?_)
 refine VO.nil ?_
 refine VC.seq ?_
 refine VC.le ⟨[(3, _), (4, _), (5, _), (7, _), (8, _), (9, _), (10, _), (11, _)], [.box _ ⟨[_], _, _⟩, .box _ ⟨[_], _, _⟩, .box _ ⟨[_], _, _⟩, .box _ ⟨[_], _, _⟩, .box _ ⟨[_], _, _⟩], _⟩ (Le.mk hB [0, 1, 2, 3, 4] ⟨rfl, rfl, rfl, rfl, rfl, rfl, rfl, rfl, trivial⟩ rfl rfl (Nat.le_refl _)) ?_
 refine VC.region ?_
 refine VO.op rfl (OpE.alloc rfl hB rfl Try.zeroValue52 rfl ?_)
 intro gT
 refine VO.nil ?_
 refine VC.sr ?_
 refine VO.val rfl rfl (OpV.makeFunc6 rfl rfl rfl rfl rfl rfl rfl) ?_
 refine VO.op rfl (OpE.store (i := 5) rfl hB rfl Try.sizeOf52 rfl rfl rfl rfl rfl rfl (Nle rfl) trivial ?_)
 refine VO.nil ?_
 refine VC.seq ?_
 refine VC.le _ (Le.pickH (hp := rfH gN gBe gE gG gM gT c n m nb goal be) [2, 3, 1, 4, 0, 5] rfl rfl) ?_
 refine VC.region ?_
 refine VO.val rfl rfl (OpV.load_own (i := 5) rfl hB Try.isAgg52 rfl rfl rfl (fun h => h)) ?_
 refine VO.op rfl (OpE.callH0 rfl hB rfl Try.call28 rfl rfl (rfTry0 (b0 := List.replicate (c.length - 1) 0) hff (by simp; omega) (by omega) hm3 hnb hbe hR) (List.Perm.refl _) (fun _ _ => trivial) ?_)
 rintro _ _ ⟨rfl, rfl⟩
 refine VO.nil ?_
 refine VC.sr ?_
 refine VO.val rfl rfl (OpV.load_own (i := 1) rfl hB Try.isAgg22 rfl rfl rfl (fun h => h)) ?_
 refine VO.ma rfl rfl rfl rfl ?_
 refine VO.nil ?_
 refine VC.ret ?_
 exact Exists.intro _ (And.intro (RetV.one Try.results10 (ResV.tmp rfl)) (rfl))
theorem rf_EnoughOf {c : List Int} {m nb n : Nat} (hcy : cycF c = 0) (hn : c.length = n + 1) (hnb : 1 ≤ nb ∧ nb ≤ 2000) (hm3 : m ≤ 3) : Spec Try.prog 10 [avInts c, avI (nb : Int), avI (m : Int)] (fun y => y = avInts (enoughL c nb m)) := by
 rw [← enL_R hn]
 exact rf_EnoughOfX hcy hn hnb hm3 rfl rfl rfl
end Go.Proofs.Ytmahammdnmmmoaa
namespace Go.Proofs.Ytmahammdnmmmoaa
open Go.RowKit
set_option linter.unusedVariables false
set_option linter.unusedSimpArgs false

theorem lined_S : SpecN Try.prog 12 [] (fun y => y = avB true) := by
 intro w us ha
 have : us = #[] := Array.eq_empty_of_size_eq_zero (by simpa using ha.1)
 subst this
 refine (lined_any w).mono ?_
 rintro e w' ⟨rfl, h⟩
 exact ⟨_, _, rfl, rfl, .v _, h, trivial⟩

end Go.Proofs.Ytmahammdnmmmoaa
namespace Go.Proofs.Ytmahammdnmmmoaa
open Go.RowKit
set_option linter.unusedVariables false
set_option linter.unusedSimpArgs false
set_option maxRecDepth 100000 in
theorem rl_errsB {xs : List Int} (hl : xs.length ≤ 1000000000) :
  SpecN Try.prog 8 [avInts xs] (fun y => y = avI (errsF xs)) := by
 refine SpecN.of_VCN Try.func8 rfl Try.ntmps8 (Nle rfl) fun w A hB => ?_
 have hnew : True := trivial
 refine VC.sr ?_
 refine VO.ma rfl rfl rfl rfl ?_
 refine VO.nil ?_
 refine VC.seq ?_
 refine VC.sr ?_
 refine VO.mv rfl rfl rfl rfl ?_
 refine VO.val rfl rfl (OpV.len_im rfl Try.underlying48 rfl) ?_
 refine VO.mv rfl rfl rfl rfl ?_
 refine VO.nil ?_
 refine VC.block ?_
 refine VC.loopK [(5, _), (6, _)] ⟨rfl, rfl, trivial⟩ ({q : Nat // q ≤ xs.length ∧ ∀ j, j < q → xs.getD j 0 = 0}) (fun (iZ : {q : Nat // q ≤ xs.length ∧ ∀ j, j < q → xs.getD j 0 = 0}) => match iZ with | ⟨q, hq, hn⟩ => [(7, avI (q : Int))]) (fun (iZ : {q : Nat // q ≤ xs.length ∧ ∀ j, j < q → xs.getD j 0 = 0}) => match iZ with | ⟨q, hq, hn⟩ => []) (fun (iZ : {q : Nat // q ≤ xs.length ∧ ∀ j, j < q → xs.getD j 0 = 0}) => match iZ with | ⟨q, hq, hn⟩ => 0) (fun (iZ : {q : Nat // q ≤ xs.length ∧ ∀ j, j < q → xs.getD j 0 = 0}) => match iZ with | ⟨q, hq, hn⟩ => xs.length - q) ⟨0, Nat.zero_le _, fun j hj => absurd hj (Nat.not_lt_zero j)⟩ (Le.mk hB [] ⟨rfl, rfl, rfl, trivial⟩ rfl rfl (Nat.le_refl _)) ?_
 rintro ⟨q, hq, hn⟩
 show VC _ _ _ _ ⟨[(7, avI (q : Int))] ++ [(5, _), (6, _)], [], 0⟩
 refine VC.sr ?_
 refine VO.val rfl rfl (OpV.lss rfl rfl rfl) ?_
 refine VO.nil ?_
 refine VC.seq ?_
 refine VC.cond rfl (fun aH1b => ?_) (fun aH1b => ?_)
 ·have aH1 := aH1b
  try simp only [qqT, qqF, qqN, qqM, qqL, qqE] at aH1
  refine VC.skip ?_
  refine VC.seq ?_
  refine VC.block ?_
  refine VC.sr ?_
  refine VO.val rfl rfl (OpV.indexAddr_1 rfl Try.underlying48 Try.sizeOf29 rfl rfl rfl (by omega)) ?_
  refine VO.val rfl rfl (OpV.load_at rfl hB OutW.no Try.isAgg29 rfl rfl) ?_
  refine VO.ma rfl rfl rfl rfl ?_
  refine VO.nil ?_
  refine VC.sr ?_
  refine VO.mv rfl rfl rfl rfl ?_
  refine VO.val rfl rfl (OpV.neq rfl rfl rfl) ?_
  refine VO.nil ?_
  refine VC.cond rfl (fun h1b => ?_) (fun h1b => ?_)
  ·have h1 := h1b
   try simp only [qqT, qqF, qqN, qqM, qqL, qqE] at h1
   refine VC.sr ?_
   refine VO.mv rfl rfl rfl rfl ?_
   refine VO.ma rfl rfl rfl rfl ?_
   refine VO.nil ?_
   refine VC.ret ?_
   exact Exists.intro _ (And.intro (RetN.one Try.results8 (ResN.v rfl)) (by rw [errsF_at (q := q) (by omega) hn h1]))
  ·have h1 := h1b
   try simp only [qqT, qqF, qqN, qqM, qqL, qqE] at h1
   refine VC.skip ?_
   refine VC.region ?_
   refine VO.val rfl rfl (OpV.add rfl rfl rfl (by unfold fits; omega)) ?_
   refine VO.mv rfl rfl rfl rfl ?_
   refine VO.nil ?_
   exact Exists.intro (⟨q + 1, by omega, lt_succ_cases hn ((by omega))⟩) (And.intro (Le.mk hB [] ⟨rfl, rfl, rfl, trivial⟩ rfl rfl (Nat.le_refl _)) (by first | omega | (show _ < _; omega) | (simp only []; omega)))
 ·have aH1 := aH1b
  try simp only [qqT, qqF, qqN, qqM, qqL, qqE] at aH1
  refine VC.exit ?_
  refine VC.sr ?_
  refine VO.ma rfl rfl rfl rfl ?_
  refine VO.nil ?_
  refine VC.ret ?_
  exact Exists.intro _ (And.intro (RetN.one Try.results8 (ResN.v rfl)) (by rw [errsF_none (fun j hj => hn j (by omega))]))
set_option maxRecDepth 100000 in
theorem rl_whenB {b : Bool} {e : Int}  :
  SpecN Try.prog 9 [avB b, avI e] (fun y => y = avI (if b = true then e else 0)) := by
 refine SpecN.of_VCN Try.func9 rfl Try.ntmps9 (Nle rfl) fun w A hB => ?_
 have hnew : True := trivial
 refine VC.sr ?_
 refine VO.ma rfl rfl rfl rfl ?_
 refine VO.nil ?_
 refine VC.seq ?_
 refine VC.sr ?_
 refine VO.mv rfl rfl rfl rfl ?_
 refine VO.nil ?_
 refine VC.cond rfl (fun aH1b => ?_) (fun aH1b => ?_)
 ·have aH1 := aH1b
  try simp only [qqT, qqF, qqN, qqM, qqL, qqE] at aH1
  refine VC.sr ?_
  refine VO.mv rfl rfl rfl rfl ?_
  refine VO.ma rfl rfl rfl rfl ?_
  refine VO.nil ?_
  refine VC.ret ?_
  exact Exists.intro _ (And.intro (RetN.one Try.results9 (ResN.v rfl)) (by simp_all))
 ·have aH1 := aH1b
  try simp only [qqT, qqF, qqN, qqM, qqL, qqE] at aH1
  refine VC.skip ?_
  refine VC.sr ?_
  refine VO.ma rfl rfl rfl rfl ?_
  refine VO.nil ?_
  refine VC.ret ?_
  exact Exists.intro _ (And.intro (RetN.one Try.results9 (ResN.v rfl)) (by simp_all))
theorem rf_EnoughOfI {c : List Int} {N M : Int} (h : enoughF c N M = 0) : Spec Try.prog 10 [avInts c, avI N, avI M] (fun y => y = avInts (enoughR c N M)) := by
 rw [enoughR, if_pos h]
 have hcy : cycF c = 0 := by
  by_cases h' : cycF c = 0
  ·exact h'
  ·rw [enoughF_1 h'] at h; exact h
 have hrng : (outB 1 2000 N || outB 0 3 M) = false := by
  cases h' : (outB 1 2000 N || outB 0 3 M) with
  | false => rfl
  | true => rw [enoughF_2 hcy h'] at h; cases h
 have hrng' : (1 ≤ N ∧ N ≤ 2000) ∧ 0 ≤ M ∧ M ≤ 3 := by
  unfold outB at hrng
  simp at hrng
  omega
 obtain ⟨nb, rfl⟩ : ∃ n : Nat, N = n := ⟨N.toNat, by omega⟩
 obtain ⟨m, rfl⟩ : ∃ n : Nat, M = n := ⟨M.toNat, by omega⟩
 have hcl := cyc0_len hcy
 rw [Int.toNat_natCast, Int.toNat_natCast]
 exact rf_EnoughOf (n := c.length - 1) hcy (by omega) (by omega) (by omega)

theorem enR_len (c : List Int) (N M : Int) : (enoughR c N M).length ≤ 6 := by
 unfold enoughR
 split
 ·rename_i h
  have hcy : cycF c = 0 := by
   by_cases h' : cycF c = 0
   ·exact h'
   ·rw [enoughF_1 h'] at h; exact h
  have hcl := cyc0_len hcy
  have : Good (c.length - 1) M.toNat (enoughL c N.toNat M.toNat) := srch_good (stpP_or _) _ _ _ _ _ (by simp) (fun x hx => by simp at hx) (good_rep _ _)
  rw [this.1]; omega
 ·simp
theorem en_errs {c : List Int} {N M : Int} {x : Int} (hx : x = if M < 0 ∨ 3 < M then 1 else 0) : errsF [flowF c (List.replicate (max 0 ((c.length : Int) - 1)).toNat 0) N, x] = enoughF c N M := by
 have e2 : ∀ a b : Int, errsF [a, b] = if a ≠ 0 then a else b := fun a b => by
  by_cases h1 : a = 0 <;> by_cases h2 : b = 0 <;> simp [errsF, h1, h2]
 rw [e2]
 by_cases h : cycF c = 0
 ·have hl := cyc0_len h
  have hz : (List.replicate (max 0 ((c.length : Int) - 1)).toNat (0 : Int)).any (outB 0 2000) = false := by
   rw [List.any_eq_false]
   intro x hx
   rw [List.eq_of_mem_replicate hx]; decide
  have hlen : ¬ (((List.replicate (max 0 ((c.length : Int) - 1)).toNat (0 : Int)).length : Int) ≠ (c.length : Int) - 1) := by
   rw [List.length_replicate]; omega
  have hf : flowF c (List.replicate (max 0 ((c.length : Int) - 1)).toNat 0) N = if outB 1 2000 N = true then 1 else 0 := by
   unfold flowF
   rw [if_neg (by omega : ¬ cycF c ≠ 0), if_neg hlen, hz, Bool.false_or]
  have he : enoughF c N M = if (outB 1 2000 N || outB 0 3 M) = true then 1 else 0 := by
   unfold enoughF
   rw [if_neg (by omega : ¬ cycF c ≠ 0)]
  have ho : outB 0 3 M = decide (M < 0 ∨ 3 < M) := by unfold outB; simp
  rw [hf, he, ho, hx]
  cases outB 1 2000 N <;> by_cases hm : M < 0 ∨ 3 < M <;> simp [hm]
 ·rw [flowF, if_pos h, enoughF, if_pos h, if_pos h]
theorem buf_neg {r : Int} (h : r < 0) : (if true = true then (1 : Int) else 0) = if r < 0 ∨ 3 < r then 1 else 0 := by simp [h]
set_option maxRecDepth 100000 in
set_option maxHeartbeats 40000000 in
theorem buffers_any (a0 : Option Addr) (cap0 : Nat) (L : List Int) (w : World) (hin : Inp w a0 L) :
  Calls Try.prog 3 #[.slice a0 L.length cap0] w fun e w' => e = .returned (.bool true) ∧ Chg NoB w w' := by
 refine law_calls Try.func3 rfl Try.ntmps3 (Nle rfl) Try.results3 ?_
 have hB := B0.ok w (fun _ => True) 68
 have hnew : True := trivial
 refine VC.sr ?_
 refine VO.ma rfl rfl rfl rfl ?_
 refine VO.nil ?_
 refine VC.sr ?_
 refine VO.mv rfl rfl rfl rfl ?_
 refine VO.val rfl rfl (OpV.build (pls := #[(0, 1), (1, 1)]) rfl Try.zeroValue25 Try.underlying25 (fun w => by kernel_rfl) rfl rfl) ?_
 refine VO.op rfl (OpE.box rfl hB rfl rfl rfl ?_)
 intro g
 refine VO.ma rfl rfl rfl rfl ?_
 refine VO.nil ?_
 refine VC.stream (i := 0) (sl := [(3, sp g)]) (by exact rfl) (by exact rfl) hin (by exact ⟨rfl, trivial⟩) (fun p hp => by simp at hp; subst hp; exact ⟨_, rfl⟩) (fun w1 hge hB => ?_)
 refine VC.sr ?_
 refine VO.mv rfl rfl rfl rfl ?_
 refine VO.op rfl (OpE.callT' (0) rfl rfl hB rfl Try.call4 rfl (line_T) (by omega) ?_)
 rintro _ ⟨c, b0, hcb, rfl⟩
 refine VO.mv rfl rfl rfl rfl ?_
 refine VO.val rfl rfl (OpV.extract rfl rfl rfl) ?_
 refine VO.val rfl rfl (OpV.extract rfl rfl rfl) ?_
 refine VO.ma rfl rfl rfl rfl ?_
 refine VO.ma rfl rfl rfl rfl ?_
 refine VO.nil ?_
 refine VC.sr ?_
 refine VO.mv rfl rfl rfl rfl ?_
 refine VO.op rfl (OpE.buildSlice (zc := #[.int .i64 0, .int .i64 0, .int .i64 0, .int .i64 0, .int .i64 0]) rfl hB rfl Try.underlying22 Try.sizeOf3 Try.zeroValue3 (by decide) (by decide) (by kernel_rfl) rfl rfl ?_)
 refine VO.op rfl (OpE.callT' (0 + 100020) rfl rfl hB rfl Try.call5 rfl (pick_X (by rfl) (by decide) (by decide) (by repeat (first | exact AllX.nil | refine AllX.cons ?_))) (by omega) ?_)
 rintro _ ⟨r22, rfl⟩
 refine VO.mv rfl rfl rfl rfl ?_
 refine VO.op rfl (OpE.buildSlice (zc := #[.int .i64 0, .int .i64 0, .int .i64 0, .int .i64 0, .int .i64 0, .int .i64 0]) rfl hB rfl Try.underlying22 Try.sizeOf3 Try.zeroValue3 (by decide) (by decide) (by kernel_rfl) rfl rfl ?_)
 refine VO.op rfl (OpE.callT' (0 + 100020 + 1) rfl rfl hB rfl Try.call5 rfl (pick_X (by rfl) (by decide) (by decide) (by repeat (first | exact AllX.nil | refine AllX.cons ?_))) (by omega) ?_)
 rintro _ ⟨r25, rfl⟩
 refine VO.ma rfl rfl rfl rfl ?_
 refine VO.ma rfl rfl rfl rfl ?_
 refine VO.nil ?_
 refine VC.seq ?_
 have hcl := hcb.1.1
 have hEn := line_Enough (c := c) (nb := r22) (m := r25) (by omega)
 have hbl := enR_len c r22 r25
 refine VC.region ?_
 refine VO.mv rfl rfl rfl rfl ?_
 refine VO.mv rfl rfl rfl rfl ?_
 refine VO.mv rfl rfl rfl rfl ?_
 refine VO.op rfl (OpE.callH (hp := []) (rest := _) rfl hB rfl Try.call6 rfl rfl (hEn) (List.Perm.refl _) (fun _ h => by obtain ⟨e, he, _⟩ := h; cases he) ?_)
 rintro _ _ ⟨u30, rfl, rfl⟩
 refine VO.mv rfl rfl rfl rfl ?_
 refine VO.val rfl rfl (OpV.extract rfl rfl rfl) ?_
 refine VO.le _ (Le.rowI (t := 31) (i := 0) hB hnew rfl rfl (by first | rfl | simp)) ?_
 refine VO.val rfl rfl (OpV.extract rfl rfl rfl) ?_
 refine VO.ma rfl rfl rfl rfl ?_
 refine VO.ma rfl rfl rfl rfl ?_
 refine VO.nil ?_
 refine VC.sr ?_
 refine VO.mv rfl rfl rfl rfl ?_
 refine VO.mv rfl rfl rfl rfl ?_
 refine VO.val rfl rfl (OpV.len_im rfl Try.underlying22 rfl) ?_
 refine VO.val rfl rfl (OpV.sub rfl rfl rfl (by unfold fits; omega)) ?_
 refine VO.val rfl rfl (OpV.max2 rfl rfl rfl) ?_
 refine VO.op rfl (OpE.make rfl hB rfl Try.underlying22 (infoOf Try.t3 1 (by kernel_rfl) rfl rfl) (by decide) rfl rfl (n := (max 0 ((c.length : Int) - 1)).toNat) (by omega) (by omega) (by omega) (made_ints _) ?_)
 intro g38
 refine VO.mv rfl rfl rfl rfl ?_
 refine VO.op rfl (OpE.callL rfl hB rfl Try.call7 (rf_BoardsFault_S (b := List.replicate (max 0 ((c.length : Int) - 1)).toNat 0)) (ArgsP.cons (ArgP.ev rfl) (ArgsP.cons (ArgP.boxI (i := 0) rfl rfl (by simp) (Nat.le_refl _) (capM (by omega))) (ArgsP.cons (ArgP.ev rfl) (ArgsP.nil)))) ?_)
 rintro _ rfl
 refine VO.ma rfl rfl rfl rfl ?_
 refine VO.nil ?_
 refine VC.sr ?_
 refine VO.mv rfl rfl rfl rfl ?_
 refine VO.mv rfl rfl rfl rfl ?_
 refine VO.val rfl rfl (OpV.lss rfl rfl rfl) ?_
 refine VO.mv rfl rfl rfl rfl ?_
 refine VO.opG rfl rfl rfl rfl (fun aK1b => ?_) (fun aK1b => ?_)
 ·replace aK1b : _ = false := aK1b
  have aK1 := aK1b
  try simp only [qqT, qqF, qqN, qqM, qqL, qqE] at aK1
  refine OpE.val (W := NoB) (OpV.move (.inl rfl) rfl) rfl ?_
  refine VO.opY rfl rfl rfl rfl aK1b ?_
  refine OpE.val (W := NoB) (OpV.gtr rfl rfl rfl) rfl ?_
  refine VO.val rfl rfl (OpV.pickF rfl rfl rfl rfl aK1b) ?_
  refine VO.op rfl (OpE.call rfl hB rfl Try.call9 rfl (SpecN.spec (rl_whenB)) ?_)
  rintro _ rfl
  refine VO.op rfl (OpE.buildSlice (zc := #[.int .i64 0, .int .i64 0]) rfl hB rfl Try.underlying48 Try.sizeOf29 Try.zeroValue29 (by decide) (by decide) (by kernel_rfl) rfl rfl ?_)
  refine VO.le _ (Le.lits (t := 49) (xs := [flowF c (List.replicate (max 0 ((c.length : Int) - 1)).toNat 0) r22, if decide (3 < r25) = true then 1 else 0]) rfl rfl) ?_
  refine VO.op rfl (OpE.call rfl hB rfl Try.call8 rfl (SpecN.spec (rl_errsB (by simp))) ?_)
  rintro _ rfl
  refine VO.le _ (Le.recast (t := 50) (y := avI (enoughF c r22 r25)) rfl (fun w Z u h => by rw [← en_errs (N := r22) (M := r25) (x := if decide (3 < r25) = true then 1 else 0) (by by_cases h3 : 3 < r25 <;> simp [h3]; omega)]; exact h)) ?_
  refine VO.ma rfl rfl rfl rfl ?_
  refine VO.nil ?_
  refine VC.sr ?_
  refine VO.ma rfl rfl rfl rfl ?_
  refine VO.nil ?_
  refine VC.seq ?_
  refine VC.sr ?_
  refine VO.mv rfl rfl rfl rfl ?_
  refine VO.val rfl rfl (OpV.eql rfl rfl rfl) ?_
  refine VO.nil ?_
  refine VC.cond rfl (fun h0b => ?_) (fun h0b => ?_)
  ·have h0 := h0b
   try simp only [qqT, qqF, qqN, qqM, qqL, qqE] at h0
   refine VC.region ?_
   refine VO.mv rfl rfl rfl rfl ?_
   refine VO.mv rfl rfl rfl rfl ?_
   refine VO.mv rfl rfl rfl rfl ?_
   refine VO.op rfl (OpE.call rfl hB rfl Try.call10 rfl (rf_EnoughOfI h0) ?_)
   rintro _ rfl
   refine VO.ma rfl rfl rfl rfl ?_
   refine VO.nil ?_
   refine VC.sr ?_
   refine VO.mv rfl rfl rfl rfl ?_
   refine VO.mv rfl rfl rfl rfl ?_
   refine VO.val rfl rfl (OpV.eql rfl rfl rfl) ?_
   refine VO.le _ (Le.boolT (t := 59) rfl (decide_eq_true rfl)) ?_
   refine VO.mv rfl rfl rfl rfl ?_
   refine VO.opY rfl rfl rfl rfl rfl ?_
   refine OpE.val (W := NoB) (OpV.move (.inl rfl) rfl) rfl ?_
   refine VO.opY rfl rfl rfl rfl rfl ?_
   refine OpE.val (W := NoB) (OpV.move (.inl rfl) rfl) rfl ?_
   first | refine VO.le _ (Le.recast (t := 62) (y := avInts []) rfl (fun w Z u h => by rw [h.eq_v]; exact .nil _ _)) ?_ | skip
   refine VO.opY rfl rfl rfl rfl rfl ?_
   refine OpE.call rfl hB rfl Try.call11 rfl (SpecN.spec (slices_Equal_int (by omega) (by first | omega | decide))) ?_
   rintro _ rfl
   refine VO.le _ (Le.boolT (t := 63) rfl (decide_eq_true rfl)) ?_
   refine VO.val rfl rfl (OpV.pickT rfl rfl rfl rfl rfl) ?_
   refine VO.mv rfl rfl rfl rfl ?_
   refine VO.opY rfl rfl rfl rfl rfl ?_
   refine OpE.call rfl hB rfl Try.call12 rfl (SpecN.spec (lined_S)) ?_
   rintro _ rfl
   refine VO.val rfl rfl (OpV.pickT rfl rfl rfl rfl rfl) ?_
   refine VO.ma rfl rfl rfl rfl ?_
   refine VO.nil ?_
   refine VC.ret ?_
   exact And.intro rfl rfl
  ·have h0 := h0b
   try simp only [qqT, qqF, qqN, qqM, qqL, qqE] at h0
   refine VC.skip ?_
   refine VC.sr ?_
   refine VO.mv rfl rfl rfl rfl ?_
   refine VO.mv rfl rfl rfl rfl ?_
   refine VO.val rfl rfl (OpV.eql rfl rfl rfl) ?_
   refine VO.le _ (Le.boolT (t := 59) rfl (decide_eq_true rfl)) ?_
   refine VO.mv rfl rfl rfl rfl ?_
   refine VO.opY rfl rfl rfl rfl rfl ?_
   refine OpE.val (W := NoB) (OpV.move (.inl rfl) rfl) rfl ?_
   refine VO.opY rfl rfl rfl rfl rfl ?_
   refine OpE.val (W := NoB) (OpV.move (.inl rfl) rfl) rfl ?_
   first | refine VO.le _ (Le.recast (t := 62) (y := avInts []) rfl (fun w Z u h => by rw [h.eq_v]; exact .nil _ _)) ?_ | skip
   refine VO.opY rfl rfl rfl rfl rfl ?_
   refine OpE.call rfl hB rfl Try.call11 rfl (SpecN.spec (slices_Equal_int (by omega) (by first | omega | decide))) ?_
   rintro _ rfl
   refine VO.le _ (Le.boolT (t := 63) rfl (decide_eq_true (by rw [enoughR, if_neg h0]))) ?_
   refine VO.val rfl rfl (OpV.pickT rfl rfl rfl rfl rfl) ?_
   refine VO.mv rfl rfl rfl rfl ?_
   refine VO.opY rfl rfl rfl rfl rfl ?_
   refine OpE.call rfl hB rfl Try.call12 rfl (SpecN.spec (lined_S)) ?_
   rintro _ rfl
   refine VO.val rfl rfl (OpV.pickT rfl rfl rfl rfl rfl) ?_
   refine VO.ma rfl rfl rfl rfl ?_
   refine VO.nil ?_
   refine VC.ret ?_
   exact And.intro rfl rfl
 ·replace aK1b : _ = true := aK1b
  have aK1 := aK1b
  try simp only [qqT, qqF, qqN, qqM, qqL, qqE] at aK1
  refine VO.opX rfl rfl rfl rfl aK1b ?_
  refine VO.val rfl rfl (OpV.pickT rfl rfl rfl rfl aK1b) ?_
  refine VO.op rfl (OpE.call rfl hB rfl Try.call9 rfl (SpecN.spec (rl_whenB)) ?_)
  rintro _ rfl
  refine VO.op rfl (OpE.buildSlice (zc := #[.int .i64 0, .int .i64 0]) rfl hB rfl Try.underlying48 Try.sizeOf29 Try.zeroValue29 (by decide) (by decide) (by kernel_rfl) rfl rfl ?_)
  refine VO.le _ (Le.lits (t := 49) (xs := [flowF c (List.replicate (max 0 ((c.length : Int) - 1)).toNat 0) r22, if true = true then 1 else 0]) rfl rfl) ?_
  refine VO.op rfl (OpE.call rfl hB rfl Try.call8 rfl (SpecN.spec (rl_errsB (by simp))) ?_)
  rintro _ rfl
  refine VO.le _ (Le.recast (t := 50) (y := avI (enoughF c r22 r25)) rfl (fun w Z u h => by rw [← en_errs (N := r22) (M := r25) (x := if true = true then 1 else 0) (buf_neg (by assumption))]; exact h)) ?_
  refine VO.ma rfl rfl rfl rfl ?_
  refine VO.nil ?_
  refine VC.sr ?_
  refine VO.ma rfl rfl rfl rfl ?_
  refine VO.nil ?_
  refine VC.seq ?_
  refine VC.sr ?_
  refine VO.mv rfl rfl rfl rfl ?_
  refine VO.val rfl rfl (OpV.eql rfl rfl rfl) ?_
  refine VO.nil ?_
  refine VC.cond rfl (fun h0b => ?_) (fun h0b => ?_)
  ·have h0 := h0b
   try simp only [qqT, qqF, qqN, qqM, qqL, qqE] at h0
   refine VC.region ?_
   refine VO.mv rfl rfl rfl rfl ?_
   refine VO.mv rfl rfl rfl rfl ?_
   refine VO.mv rfl rfl rfl rfl ?_
   refine VO.op rfl (OpE.call rfl hB rfl Try.call10 rfl (rf_EnoughOfI h0) ?_)
   rintro _ rfl
   refine VO.ma rfl rfl rfl rfl ?_
   refine VO.nil ?_
   refine VC.sr ?_
   refine VO.mv rfl rfl rfl rfl ?_
   refine VO.mv rfl rfl rfl rfl ?_
   refine VO.val rfl rfl (OpV.eql rfl rfl rfl) ?_
   refine VO.le _ (Le.boolT (t := 59) rfl (decide_eq_true rfl)) ?_
   refine VO.mv rfl rfl rfl rfl ?_
   refine VO.opY rfl rfl rfl rfl rfl ?_
   refine OpE.val (W := NoB) (OpV.move (.inl rfl) rfl) rfl ?_
   refine VO.opY rfl rfl rfl rfl rfl ?_
   refine OpE.val (W := NoB) (OpV.move (.inl rfl) rfl) rfl ?_
   first | refine VO.le _ (Le.recast (t := 62) (y := avInts []) rfl (fun w Z u h => by rw [h.eq_v]; exact .nil _ _)) ?_ | skip
   refine VO.opY rfl rfl rfl rfl rfl ?_
   refine OpE.call rfl hB rfl Try.call11 rfl (SpecN.spec (slices_Equal_int (by omega) (by first | omega | decide))) ?_
   rintro _ rfl
   refine VO.le _ (Le.boolT (t := 63) rfl (decide_eq_true rfl)) ?_
   refine VO.val rfl rfl (OpV.pickT rfl rfl rfl rfl rfl) ?_
   refine VO.mv rfl rfl rfl rfl ?_
   refine VO.opY rfl rfl rfl rfl rfl ?_
   refine OpE.call rfl hB rfl Try.call12 rfl (SpecN.spec (lined_S)) ?_
   rintro _ rfl
   refine VO.val rfl rfl (OpV.pickT rfl rfl rfl rfl rfl) ?_
   refine VO.ma rfl rfl rfl rfl ?_
   refine VO.nil ?_
   refine VC.ret ?_
   exact And.intro rfl rfl
  ·have h0 := h0b
   try simp only [qqT, qqF, qqN, qqM, qqL, qqE] at h0
   refine VC.skip ?_
   refine VC.sr ?_
   refine VO.mv rfl rfl rfl rfl ?_
   refine VO.mv rfl rfl rfl rfl ?_
   refine VO.val rfl rfl (OpV.eql rfl rfl rfl) ?_
   refine VO.le _ (Le.boolT (t := 59) rfl (decide_eq_true rfl)) ?_
   refine VO.mv rfl rfl rfl rfl ?_
   refine VO.opY rfl rfl rfl rfl rfl ?_
   refine OpE.val (W := NoB) (OpV.move (.inl rfl) rfl) rfl ?_
   refine VO.opY rfl rfl rfl rfl rfl ?_
   refine OpE.val (W := NoB) (OpV.move (.inl rfl) rfl) rfl ?_
   first | refine VO.le _ (Le.recast (t := 62) (y := avInts []) rfl (fun w Z u h => by rw [h.eq_v]; exact .nil _ _)) ?_ | skip
   refine VO.opY rfl rfl rfl rfl rfl ?_
   refine OpE.call rfl hB rfl Try.call11 rfl (SpecN.spec (slices_Equal_int (by omega) (by first | omega | decide))) ?_
   rintro _ rfl
   refine VO.le _ (Le.boolT (t := 63) rfl (decide_eq_true (by rw [enoughR, if_neg h0]))) ?_
   refine VO.val rfl rfl (OpV.pickT rfl rfl rfl rfl rfl) ?_
   refine VO.mv rfl rfl rfl rfl ?_
   refine VO.opY rfl rfl rfl rfl rfl ?_
   refine OpE.call rfl hB rfl Try.call12 rfl (SpecN.spec (lined_S)) ?_
   rintro _ rfl
   refine VO.val rfl rfl (OpV.pickT rfl rfl rfl rfl rfl) ?_
   refine VO.ma rfl rfl rfl rfl ?_
   refine VO.nil ?_
   refine VC.ret ?_
   exact And.intro rfl rfl
end Go.Proofs.Ytmahammdnmmmoaa
