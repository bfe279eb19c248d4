/- Part 5 of a proof: the walks and laws that it needs. -/
import Derived.LaidMore
import Derived.Test.YtdnlhdilpdeecaaGreatDoorZD4
namespace Go.Proofs.YtdnlhdilpdeecaaGreatDoor
open Go.RowKit
set_option linter.unusedVariables false
set_option linter.unusedSimpArgs false
structure StabX (TX : List Ent → World → Prop) : Prop where
 keep : ∀ {hp hp' : List Ent} {w w' : World}, TX hp w → Chg (BlkL hp) w w' → (∀ b, BlkL hp' b → b < w.heap.size → BlkL hp b) → TX hp' w'
def TXt : List Ent → World → Prop := fun _ _ => True
theorem TXt.stab : StabX TXt := ⟨fun _ _ _ => trivial⟩
def SpecHX (TX : List Ent → World → Prop) (P : Program) (F : FuncId) (xs : List AV) (hp : List Ent) (G : AV → List Ent → Prop) : Prop :=
 ∀ (w : World) (A : Nat → Prop) (us : Array Value), TX hp w → Args w A xs us → Apart hp → (∀ b, BlkL hp b → ¬ A b) → (∀ e ∈ hp, EntR w (fun b => b < w.heap.size ∧ A b) e) →
  Calls P F us w fun e w' => ∃ y v hp', G y hp' ∧ e = .returned v ∧ Apart hp' ∧ Rep w' (Zh w A hp hp' w') y v ∧ (∀ e ∈ hp', EntR w' (Zh w A hp hp' w') e) ∧
   (∀ b, BlkL hp' b → b < w.heap.size → BlkL hp b) ∧ Chg (BlkL hp) w w'
theorem SpecHX.of_VC {TX : List Ent → World → Prop} (hst : StabX TX) {P : Program} {F : FuncId} {fn : Func} {c : Code} (hf : P.funcs[F]? = some fn) (hb : fn.body = some c) {xs : List AV} {hp : List Ent} {G : AV → List Ent → Prop} {nt : Nat} (hn : fn.ntmps = nt) (hle : xs.length ≤ nt)
  (h : ∀ w A, (Bh w A nt hp).Ok → (∀ s a w', R (Bh w A nt hp) s a w' → TX s.hp w') → VC P (Bh w A nt hp) c (retS P fn fun y s => G y s.hp) ⟨slots0 0 xs, hp, 0⟩) : SpecHX TX P F xs hp G := fun w A us hx ha h1 h2 h3 => by
 have hus : us.size ≤ fn.ntmps := by rw [ha.1, hn]; exact hle
 refine calls_of_wp hf hb (Code.wp_mono (fun e a w' hq => ?_) (h w A (Bh.ok _ _ _ _) (fun s a w' hr => hst.keep hx hr.chg fun b ⟨p, hp1, hpb⟩ hl => (hr.own p hp1 b hpb).2 hl) _ w (by
  have := R.startH (nt := nt) ha h1 h2 h3 (by omega)
  rwa [hn])))
 obtain ⟨s, hq, hr⟩ := hq
 have key : ∀ y v, G y s.hp → Rep w' (Zn (Bh w A nt hp) s.hp w') y v → ∃ y v' hp', G y hp' ∧ Ending.returned v = .returned v' ∧ Apart hp' ∧ Rep w' (Zh w A hp hp' w') y v' ∧ (∀ e ∈ hp', EntR w' (Zh w A hp hp' w') e) ∧
   (∀ b, BlkL hp' b → b < w.heap.size → BlkL hp b) ∧ Chg (BlkL hp) w w' := fun y v hG hv => by
  have hZ : ∀ b, Zn (Bh w A nt hp) s.hp w' b → Zh w A hp s.hp w' b := fun b hb => ⟨hb.1, fun ⟨p, hp1, hp2⟩ => hb.2.1 p hp1 hp2, fun hl => (hb.2.2 hl).1⟩
  exact ⟨y, v, s.hp, hG, rfl, hr.nodup, hv.keep fun b hb _ => ⟨rfl, hZ b hb⟩, fun p hp' => (hr.blocks p hp').keep (fun b hb _ => ⟨rfl, hZ b hb⟩) fun g _ => rfl, fun b ⟨p, hp1, hp2⟩ hl => (hr.own p hp1 b hp2).2 hl, hr.chg⟩
 cases e with
 | normal =>
  obtain ⟨y, k1, k2⟩ := hq
  obtain ⟨v, k3, k4⟩ := k1 _ a w' hr
  exact ⟨hr.defs, v, k3, key y v k2 k4⟩
 | ret =>
  obtain ⟨y, k1, k2⟩ := hq
  obtain ⟨v, k3, k4⟩ := k1 _ a w' hr
  exact ⟨hr.defs, v, k3, key y v k2 k4⟩
 | exit id => exact hq.elim
 | goto l => exact hq.elim
 | panic c => exact hq.elim
 | outgrown => exact hq.elim
section
variable {P : Program} {B : Bs} {W : Nat → Prop} {s : St'} {o : Oper} {K : St' → Prop}
theorem OpE.callHX {TX : List Ent → World → Prop} (hst : StabX TX) (hG : ∀ s a w, R B s a w → TX s.hp w) {f : Operand} {F : FuncId} {caps : Array Value} {args : Array Operand} {ts : Array TypeId} {xs : List AV} {hp rest : List Ent} {G : AV → List Ent → Prop} (ho : o.op = .call { callee := .value f, args := args, argTypes := ts }) (hB : B.Ok) (hd : okd B.nt o.dst = true)
  (hcall : ∀ us w, (callFunc F us).run P w = .ok (.enter F us) w) (hf : evO s f = some (.v (.func (.func F) #[] caps))) (hxs : evL s args.toList = some xs) (hspec : SpecHX TX P F (xs ++ caps.toList.map .v) hp G) (hsp : s.hp.Perm (hp ++ rest)) (hW : ∀ b, BlkL hp b → W b)
  (hK : ∀ y hp', G y hp' → K ((St'.mk s.sl (hp' ++ rest) s.k).put o.dst y)) : OpE P B W s o K := by
 intro a w hr next Qx hn
 have hr1 := hr.perm hsp
 have hA : Args w (Zo B (hp ++ rest)) (xs ++ caps.toList.map .v) (args.map a.eval ++ caps) := by
  have ha := evL_args hr hxs
  have hZo : ∀ b, Zo B s.hp b → Zo B (hp ++ rest) b := fun b hb => ⟨fun p hp1 => hb.1 p (hsp.mem_iff.2 hp1), hb.2⟩
  refine ⟨by simp [ha.1], fun j hj => ?_⟩
  by_cases hjx : j < xs.length
  ·rw [List.getElem_append_left hjx]
   have hlt : j < (args.map a.eval).size := by rw [ha.1]; exact hjx
   have : (args.map a.eval ++ caps).getD j undef = (args.map a.eval).getD j undef := by
    rw [Array.getD_eq_getD_getElem?, Array.getD_eq_getD_getElem?, Array.getElem?_append_left hlt]
   rw [this]
   exact (ha.2 j hjx).keep fun b hb _ => ⟨rfl, hb.1, hZo b hb.2⟩
  ·rw [List.getElem_append_right (by omega)]
   have hj' : j - xs.length < caps.size := by rw [List.length_append] at hj; simp at hj; omega
   have : (args.map a.eval ++ caps).getD j undef = caps.getD (j - xs.length) undef := by
    rw [Array.getD_eq_getD_getElem?, Array.getD_eq_getD_getElem?, Array.getElem?_append_right (by rw [ha.1]; omega), ha.1]
   rw [this, Array.getD_eq_getD_getElem?, Array.getElem?_eq_getElem hj']
   simp
   exact .v _
 have hap := hr1.nodup
 unfold Apart at hap
 rw [List.pairwise_append] at hap
 have hx : TX hp w := hst.keep (hG _ _ _ hr) (Chg.refl _ _) fun b ⟨p, hp1, hpb⟩ _ => ⟨p, hsp.mem_iff.2 (List.mem_append_left _ hp1), hpb⟩
 have h1 := hspec w (Zo B (hp ++ rest)) _ hx hA hap.1 (fun b ⟨p, hp1, hpb⟩ h => h.1 p (List.mem_append_left _ hp1) hpb) fun e he => (hr1.blocks e (List.mem_append_left _ he)).keep (fun b hb _ => ⟨rfl, hb.1, hb.2⟩) fun g _ => rfl
 unfold Oper.wp
 simp only [execOp, ho, resolve, hr.evv hf, Deferred.ofValue, Sem.run_bind, Sem.run_pure, Result.andThen_ok, invoke, hcall, Array.empty_append]
 simp only [Oper.upon]
 refine h1.mono fun e w' hret => ?_
 obtain ⟨y, v, hp', k1, rfl, k2, k3, k4, k5, k6⟩ := hret
 obtain ⟨hr', hz⟩ := hr1.afterH hB k2 k4 k5 k6
 exact hn _ _ _ (hK y hp' k1) (hr'.put _ hd _ _ (k3.keep fun b hb _ => ⟨rfl, hz b hb⟩)) (k6.mono fun b _ h => .inr (hW b h))
theorem OpE.callHX0 {TX : List Ent → World → Prop} (hst : StabX TX) (hG : ∀ s a w, R B s a w → TX s.hp w) {f : Operand} {F : FuncId} {caps : Array Value} {args : Array Operand} {ts : Array TypeId} {xs : List AV} {hp : List Ent} {G : AV → List Ent → Prop} (ho : o.op = .call { callee := .value f, args := args, argTypes := ts }) (hB : B.Ok) (hd : okd B.nt o.dst = true)
  (hcall : ∀ us w, (callFunc F us).run P w = .ok (.enter F us) w) (hf : evO s f = some (.v (.func (.func F) #[] caps))) (hxs : evL s args.toList = some xs) (hspec : SpecHX TX P F (xs ++ caps.toList.map .v) hp G) (hsp : s.hp.Perm hp) (hW : ∀ b, BlkL hp b → W b)
  (hK : ∀ y hp', G y hp' → K ((St'.mk s.sl hp' s.k).put o.dst y)) : OpE P B W s o K :=
 OpE.callHX (rest := []) hst hG ho hB hd hcall hf hxs hspec (by rw [List.append_nil]; exact hsp) hW fun y hp' h => by rw [List.append_nil]; exact hK y hp' h
end
def TabX (P : Program) (hp : List Ent) (w : World) : Prop := TabW P w ∧ ∀ b, BlkL hp b → P.globalNamed "internal/strconv.uint64pow10" ≠ some b
theorem TabW.lt {P : Program} {w : World} {g : Nat} (hg : P.globalNamed "internal/strconv.uint64pow10" = some g) (h : TabW P w) : g < w.heap.size := by
 unfold TabW Lib.TabIs World.var? at h
 rw [hg] at h
 simp only [Option.bind_some] at h
 by_cases hl : g < w.heap.size
 ·exact hl
 ·rw [Array.getElem?_eq_none (by omega)] at h; cases h
theorem TabX.stab {P : Program} {g : Nat} (hg : P.globalNamed "internal/strconv.uint64pow10" = some g) : StabX (TabX P) := ⟨fun {hp hp' w w'} h c hb => by
 have hlt := h.1.lt hg
 have hno : ∀ b, BlkL hp' b → P.globalNamed "internal/strconv.uint64pow10" ≠ some b := fun b hbb e => by
  obtain rfl : g = b := Option.some.inj (hg.symm.trans e)
  exact h.2 g (hb g hbb hlt) hg
 exact ⟨h.1.keep hg c fun h2 => h.2 g h2 hg, hno⟩⟩
theorem TabX.base {P : Program} {w : World} {A : Nat → Prop} {nt g : Nat} (hg : P.globalNamed "internal/strconv.uint64pow10" = some g) (h : TabW P w) : ∀ s a w', R (B0 w A nt) s a w' → TabX P s.hp w' := fun s a w' hr => by
 refine ⟨h.base hg hr, fun b ⟨p, hp1, hpb⟩ e => ?_⟩
 obtain rfl : g = b := Option.some.inj (hg.symm.trans e)
 exact (hr.own p hp1 g hpb).2 (h.lt hg)
end Go.Proofs.YtdnlhdilpdeecaaGreatDoor
namespace Go.Proofs.YtdnlhdilpdeecaaGreatDoor
open Go.RowKit
set_option linter.unusedVariables false
set_option linter.unusedSimpArgs false
def TabP (p : Nat) (w : World) : Prop := TabW Tryz.prog w ∧ ∀ g, Tryz.prog.globalNamed "internal/strconv.uint64pow10" = some g → g < p
theorem TabP.keep {S : Nat → Prop} {w w' : World} {p : Nat} (h : TabP p w) (c : Chg S w w') (hS : ∀ j, j < p → ¬ S j) : TabP p w' := by
 obtain ⟨g, hg⟩ := tab_named
 exact ⟨h.1.keep hg c (hS g (h.2 g hg)), h.2⟩
def TTW (p : Nat) (L : List Int) (w : World) (k : Nat) : Prop := TT p L w k ∧ TabP p w
theorem TTW.ok {p : Nat} {L : List Int} {w : World} {A : Nat → Prop} {nt k : Nat} (h : TTW p L w k) : (B1 w A nt (fun b => b = p) (fun b => b ≤ p) (TTW p L)).Ok := by
 obtain ⟨⟨k', hk, hs⟩, hb⟩ := h
 exact {
  keep := fun {S w w' k} ⟨⟨k', hk, hs⟩, hb⟩ hc hS => ⟨⟨k', hk, hs.keep hc hS⟩, hb.keep hc fun j hj => hS j (Nat.le_of_lt hj)⟩
  low := fun j hj => Nat.lt_of_le_of_lt hj hs.lt
  str := fun j hj => by cases hj; exact ⟨Nat.le_refl _, rfl⟩
  up := fun {w k k2} ⟨⟨k', h1, h2⟩, hb⟩ h3 => ⟨⟨k', Nat.le_trans h1 h3, h2⟩, hb⟩ }
theorem SpecT.liftW {P : Program} {p : Nat} {L : List Int} {F : FuncId} {xs : List AV} {c : Nat} {G : AV → Prop} (h : SpecT P (TT p L) (fun b => b = p) F xs c G) : SpecT P (TTW p L) (fun b => b = p) F xs c G := fun w A us k ha ht hd hk =>
 (h w A us k ha ht.1 hd hk).mono fun e w' ⟨y, v, h1, h2, h3, h4, h5⟩ => ⟨y, v, h1, h2, h3, h4, h5, ht.2.keep h4 fun j hj e => by
  have e' : j = p := e
  omega⟩
theorem tabT {p : Nat} {L : List Int} {w : World} {A : Nat → Prop} {nt : Nat} {str low : Nat → Prop} : ∀ {s a w'}, R (B1 w A nt str low (TTW p L)) s a w' → TabW Tryz.prog w' := fun hr => hr.res.2.1
section
variable {w : World} {A : Nat → Prop} {nt t : Nat} {x : Value} {c : Code} {s : St'}
theorem VC.streamT {a0 : Option Addr} {cap0 g tot i : Nat} {L : List Int} {sl : List (Nat × AV)} (hi : s.hp[i]? = some (.box g ⟨[.v (.slice a0 L.length cap0), .v (.int .i64 0)], 25, tot⟩)) (htot : tot = 2) (hTab : TabW Tryz.prog w) (hin : Inp w a0 L) (hsl : LeL s.sl sl) (hf : ∀ p ∈ sl, ∃ v, p.2 = .v v)
  (h : ∀ w1, w.heap.size ≤ g → (B1 w1 (fun b => b ≠ g) nt (fun b => b = g) (fun b => b ≤ g) (TTW g L)).Ok → VC Tryz.prog (B1 w1 (fun b => b ≠ g) nt (fun b => b = g) (fun b => b ≤ g) (TTW g L)) c (lawQ t x) ⟨sl, [], 0⟩) : VC Tryz.prog (B0 w A nt) c (lawQ t x) s :=
 VC.rebase fun a w1 hr => by
  have hm := List.mem_of_getElem? hi
  obtain ⟨cc, k1, k2, k3, k4⟩ := hr.blocks _ hm
  have hnew : ¬ g < w.heap.size := hr.isNew (fun b h => h) hm rfl
  have hge : w.heap.size ≤ g := by omega
  have hcc : cc = #[.slice a0 L.length cap0, .int .i64 0] := by
   obtain ⟨u0, p0, q0⟩ := k4 0 (by simp)
   obtain ⟨u1, p1, q1⟩ := k4 1 (by simp)
   have e0 := q0.eq_v
   have e1 := q1.eq_v
   have hsz : cc.size = 2 := k2.trans htot
   apply Array.ext (by simpa using hsz)
   intro i hi hi'
   simp at hi'
   match i, hi' with
   | 0, _ => have := Array.getElem?_eq_some_iff.1 p0; simp; rw [this.2, e0]
   | 1, _ => have := Array.getElem?_eq_some_iff.1 p1; simp; rw [this.2, e1]
  subst hcc
  have hT : TT g L w1 0 := ⟨0, Nat.le_refl _, a0, cap0, k1, hin.1, fun i hi => by
   obtain ⟨b, o, e1, e2⟩ := hin.2 i hi
   have hb := World.block_lt_of_cell? w _ e2
   exact ⟨b, o, e1, Nat.lt_of_lt_of_le hb hge, hr.chg.cell e2 fun h => h⟩⟩
  have htp : TabP g w1 := by
   obtain ⟨g1, hg1⟩ := tab_named
   refine ⟨hTab.keep hg1 hr.chg fun h => h, fun g2 hg2 => ?_⟩
   obtain rfl := Option.some.inj (hg1.symm.trans hg2)
   have := hTab.lt hg1
   omega
  refine ⟨_, _, rfl, rfl, fun b hb => by rw [hb]; exact hge, ?_, h w1 hge (TTW.ok ⟨hT, htp⟩)⟩
  refine ⟨fun t' y hy => ?_, hr.size, hr.defs, fun p hp => by simp at hp, List.Pairwise.nil, Chg.refl _ _, fun p hp => by simp at hp, ⟨hT, htp⟩⟩
  have hs := hr.slots t' y (LeL.look hsl t' y hy)
  have : ∃ v, y = .v v := by
   have key : ∀ (l : List (Nat × AV)), (∀ p ∈ l, ∃ v, p.2 = .v v) → look l t' = some y → ∃ v, y = .v v := by
    intro l
    induction l with
    | nil => intro _ h; cases h
    | cons p r ih =>
     intro hp hl
     obtain ⟨k, z⟩ := p
     rw [look_put] at hl
     split at hl
     ·cases hl; exact hp (k, y) (by simp)
     ·exact ih (fun q hq => hp q (by simp [hq])) hl
   exact key sl hf hy
  exact hs.flat this
end
end Go.Proofs.YtdnlhdilpdeecaaGreatDoor
namespace Go.Proofs.YtdnlhdilpdeecaaGreatDoor
open Go.RowKit
set_option linter.unusedVariables false
set_option linter.unusedSimpArgs false
set_option maxRecDepth 100000 in
theorem strings_Repeat01 {s : ByteArray} {c : Int} (hc : c = 0 ∨ c = 1) :
  SpecN Tryz.prog 167 [avS s, avI c] (fun y => y = avS (if c = 0 then ⟨#[]⟩ else s)) := by
 refine SpecN.of_VCN Tryz.func167 rfl Tryz.ntmps167 (Nle rfl) fun w A hB => ?_
 have hnew : True := trivial
 refine VC.sr ?_
 refine VO.ma rfl rfl rfl rfl ?_
 refine VO.nil ?_
 refine VC.seq ?_
 refine VC.sr ?_
 refine VO.mv rfl rfl rfl rfl ?_
 refine VO.nil ?_
 refine VC.block ?_
 refine VC.sr ?_
 refine VO.val rfl rfl (OpV.eql rfl rfl rfl) ?_
 refine VO.ma rfl rfl rfl rfl ?_
 refine VO.nil ?_
 refine VC.cond rfl (fun h0b => ?_) (fun h0b => ?_)
 ·have h0 := h0b
  try simp only [qqT, qqF, qqN, qqM, qqL, qqE] at h0
  refine VC.sr ?_
  refine VO.ma rfl rfl rfl rfl ?_
  refine VO.nil ?_
  refine VC.ret ?_
  exact Exists.intro _ (And.intro (RetN.one Tryz.results167 (ResN.v rfl)) (by rw [if_pos h0]))
 ·have h0 := h0b
  try simp only [qqT, qqF, qqN, qqM, qqL, qqE] at h0
  refine VC.sr ?_
  refine VO.val rfl rfl (OpV.eql rfl rfl rfl) ?_
  refine VO.ma rfl rfl rfl rfl ?_
  refine VO.nil ?_
  refine VC.cond rfl (fun h1b => ?_) (fun h1b => ?_)
  ·have h1 := h1b
   try simp only [qqT, qqF, qqN, qqM, qqL, qqE] at h1
   refine VC.sr ?_
   refine VO.mv rfl rfl rfl rfl ?_
   refine VO.ma rfl rfl rfl rfl ?_
   refine VO.nil ?_
   refine VC.ret ?_
   exact Exists.intro _ (And.intro (RetN.one Tryz.results167 (ResN.v rfl)) (by rw [if_neg h0]))
  ·have h1 := h1b
   try simp only [qqT, qqF, qqN, qqM, qqL, qqE] at h1
   exact VC.absurd (by omega)
set_option maxRecDepth 100000 in
set_option maxHeartbeats 4000000 in
theorem orderText_T {p : Nat} {L : List Int}  :
  SpecT Tryz.prog (TTW p L) (fun b => b = p) 64 [sp p] 2020 (fun y => ∃ r : ByteArray, r.size ≤ 2000 ∧ y = avS r) := by
 refine SpecT.of_VC Tryz.func64 rfl Tryz.ntmps64 (Nle rfl) (low := (fun b => b ≤ p)) (fun w A k h => TTW.ok h) fun w A k hk hB => ?_
 have hnew : True := trivial
 refine VC.seq ?_
 have hG : ∀ {s a w'}, R (B1 w A 27 (fun b => b = p) (fun b => b ≤ p) (TTW p L)) s a w' → TabW Tryz.prog w' := tabT
 refine VC.region ?_
 refine VO.ma rfl rfl rfl rfl ?_
 refine VO.nil ?_
 refine VC.sr ?_
 refine VO.mv rfl rfl rfl rfl ?_
 refine VO.op rfl (OpE.callT' (k) rfl rfl hB rfl Tryz.call166 rfl (SpecT.liftW (rightOrders_T (m := 4) (by omega))) (by omega) ?_)
 rintro _ ⟨pc, o, ⟨hpc, hol, hoo, hb0⟩, rfl⟩
 have ho0 : ordrF o = 0 := (bothF_0 hb0).2.1
 have ht : ∀ j, j < o.length → OrT (o.getD j default) := fun j hj => OrT.of ho0 hj
 have hts := txO_size ht o.length (Nat.le_refl _)
 rw [List.take_length] at hts
 obtain ⟨tx, htx⟩ : ∃ tx, txO o = tx := ⟨_, rfl⟩
 rw [htx] at hts
 refine VO.mv rfl rfl rfl rfl ?_
 refine VO.val rfl rfl (OpV.extract rfl rfl rfl) ?_
 refine VO.val rfl rfl (OpV.extract rfl rfl rfl) ?_
 refine VO.ma rfl rfl rfl rfl ?_
 refine VO.ma rfl rfl rfl rfl ?_
 refine VO.nil ?_
 refine VC.sr ?_
 refine VO.mv rfl rfl rfl rfl ?_
 refine VO.op rfl (OpE.callW rfl hB rfl Tryz.call67 rfl (rf_OrderLines (by omega) ht) hG ?_)
 rintro _ rfl
 rw [htx]
 refine VO.ma rfl rfl rfl rfl ?_
 refine VO.nil ?_
 refine VC.seq ?_
 refine VC.sr ?_
 refine VO.mv rfl rfl rfl rfl ?_
 refine VO.op rfl (OpE.buildSlice (zc := #[.int .i64 0, .int .i64 0, .int .i64 0, .int .i64 0]) rfl hB rfl Tryz.underlying22 Tryz.sizeOf3 Tryz.zeroValue3 (by decide) (by decide) (by kernel_rfl) rfl rfl ?_)
 refine VO.op rfl (OpE.callT' (k + 2000) rfl rfl hB rfl Tryz.call14 rfl (SpecT.liftW (pick_T 0 2 (by rfl) (by decide) (by decide) (by repeat (first | exact AllI.nil | refine AllI.cons (by omega) ?_)))) (by omega) ?_)
 rintro _ ⟨r15, hr15, rfl⟩
 obtain ⟨c, rfl⟩ : ∃ c : Nat, r15 = c := ⟨r15.toNat, by omega⟩
 refine VO.mv rfl rfl rfl rfl ?_
 refine VO.nil ?_
 refine VC.block ?_
 refine VC.loopK [(0, _), (15, _)] ⟨rfl, rfl, trivial⟩ ({z : ByteArray × Nat // z.2 ≤ c ∧ z.1.size ≤ 640 + 100 * z.2}) (fun (iZ : {z : ByteArray × Nat // z.2 ≤ c ∧ z.1.size ≤ 640 + 100 * z.2}) => match iZ with | ⟨⟨t, q⟩, hq, htz⟩ => [(5, avS t), (16, avI (q : Int))]) (fun (iZ : {z : ByteArray × Nat // z.2 ≤ c ∧ z.1.size ≤ 640 + 100 * z.2}) => match iZ with | ⟨⟨t, q⟩, hq, htz⟩ => []) (fun (iZ : {z : ByteArray × Nat // z.2 ≤ c ∧ z.1.size ≤ 640 + 100 * z.2}) => match iZ with | ⟨⟨t, q⟩, hq, htz⟩ => k + 2001 + 4 * q) (fun (iZ : {z : ByteArray × Nat // z.2 ≤ c ∧ z.1.size ≤ 640 + 100 * z.2}) => match iZ with | ⟨⟨t, q⟩, hq, htz⟩ => c - q) ⟨(tx, 0), Nat.zero_le _, by show tx.size ≤ 640 + 100 * 0; omega⟩ (Le.mk hB [] ⟨rfl, rfl, rfl, rfl, trivial⟩ rfl rfl (show k + 2000 + 1 ≤ k + 2001 + 4 * 0 by omega)) ?_
 rintro ⟨⟨t, q⟩, hq, htz⟩
 show VC _ _ _ _ ⟨[(5, avS t), (16, avI (q : Int))] ++ [(0, _), (15, _)], [], k + 2001 + 4 * q⟩
 simp only at hq htz
 refine VC.sr ?_
 refine VO.val rfl rfl (OpV.lss rfl rfl rfl) ?_
 refine VO.nil ?_
 refine VC.seq ?_
 refine VC.cond rfl (fun aH1b => ?_) (fun aH1b => ?_)
 ·have aH1 := aH1b
  try simp only [qqT, qqF, qqN, qqM, qqL, qqE] at aH1
  refine VC.skip ?_
  refine VC.seq ?_
  refine VC.block ?_
  refine VC.region ?_
  refine VO.mv rfl rfl rfl rfl ?_
  refine VO.mv rfl rfl rfl rfl ?_
  refine VO.mv rfl rfl rfl rfl ?_
  refine VO.op rfl (OpE.callT' (k + 2001 + 4 * q) rfl rfl hB rfl Tryz.call80 rfl (SpecT.liftW (next_T (by omega))) (by omega) ?_)
  rintro _ ⟨r21, hr21, rfl⟩
  refine VO.op rfl (OpE.call rfl hB rfl Tryz.call167 rfl (SpecN.spec (strings_Repeat01 (by omega))) ?_)
  rintro _ rfl
  obtain ⟨rs, hrs, hrz⟩ : ∃ rs : ByteArray, (if r21 = 0 then ⟨#[]⟩ else ⟨#[49]⟩) = rs ∧ rs.size ≤ 1 := ⟨_, rfl, by split <;> decide⟩
  refine VO.le _ (Le.recast (t := 22) (y := avS rs) rfl (fun w Z u h => by rw [← hrs]; exact h)) ?_
  have hc7 : (⟨#[32, 10, 48, 45, 57, 111, 112]⟩ : ByteArray).size = 7 := rfl
  refine VO.val rfl rfl (OpV.sadd rfl rfl rfl (by omega)) ?_
  refine VO.op rfl (OpE.callT' (k + 2001 + 4 * q + 1) rfl rfl hB rfl Tryz.call84 rfl (SpecT.liftW (changed_T (by omega) ⟨by rw [lk_app]; omega, by rw [lk_app]; omega⟩)) (by omega) ?_)
  rintro _ ⟨r24, hr24, rfl⟩
  refine VO.ma rfl rfl rfl rfl ?_
  refine VO.nil ?_
  refine VC.region ?_
  refine VO.val rfl rfl (OpV.add rfl rfl rfl (by unfold fits; omega)) ?_
  refine VO.mv rfl rfl rfl rfl ?_
  refine VO.nil ?_
  exact Exists.intro (⟨(r24, q + 1), by show q + 1 ≤ c; omega, by show r24.size ≤ 640 + 100 * (q + 1); omega⟩) (And.intro (Le.mk hB [] ⟨rfl, rfl, rfl, rfl, trivial⟩ rfl rfl (show k + 2001 + 4 * q + 1 + 3 ≤ k + 2001 + 4 * (q + 1) by omega)) (by first | omega | (show _ < _; omega) | (simp only []; omega)))
 ·have aH1 := aH1b
  try simp only [qqT, qqF, qqN, qqM, qqL, qqE] at aH1
  refine VC.exit ?_
  refine VC.sr ?_
  refine VO.mv rfl rfl rfl rfl ?_
  refine VO.ma rfl rfl rfl rfl ?_
  refine VO.nil ?_
  refine VC.ret ?_
  exact Exists.intro _ (And.intro (RetV.one Tryz.results64 (ResV.tmp rfl)) (And.intro (⟨t, by omega, rfl⟩) ((show k + 2001 + 4 * q ≤ k + 2020 by omega))))
end Go.Proofs.YtdnlhdilpdeecaaGreatDoor
namespace Go.Proofs.YtdnlhdilpdeecaaGreatDoor
open Go.RowKit
set_option linter.unusedVariables false
set_option linter.unusedSimpArgs false
theorem splitL_none {c : UInt8} : ∀ {a : List UInt8}, (∀ x ∈ a, x ≠ c) → splitL c a = [a]
 | [], _ => rfl
 | b :: a, h => by rw [splitL, if_neg (h b (List.mem_cons_self ..)), splitL_none fun x hx => h x (List.mem_cons_of_mem _ hx)]
theorem splitL_cut {c : UInt8} {r : List UInt8} : ∀ {a : List UInt8}, (∀ x ∈ a, x ≠ c) → splitL c (a ++ c :: r) = a :: splitL c r
 | [], _ => by rw [List.nil_append, splitL, if_pos rfl]
 | b :: a, h => by rw [List.cons_append, splitL, if_neg (h b (List.mem_cons_self ..)), splitL_cut fun x hx => h x (List.mem_cons_of_mem _ hx)]
theorem index_cut {c : UInt8} : ∀ {l : List UInt8} {m : Nat}, Lib.indexByte l c = m → l = l.take m ++ c :: l.drop (m + 1) ∧ ∀ x ∈ l.take m, x ≠ c
 | [], m, h => by simp [Lib.indexByte] at h
 | b :: l, m, h => by
  unfold Lib.indexByte at h
  by_cases hb : b = c
  ·subst hb
   simp at h
   obtain rfl : m = 0 := by omega
   exact ⟨rfl, fun x hx => by simp at hx⟩
  ·have hb' : (b == c) = false := by simpa using hb
   rw [hb'] at h
   simp only [Bool.false_eq_true, if_false] at h
   split at h
   ·omega
   ·rename_i e
    have hge := Lib.indexByte_ge l c
    have e' : ¬ Lib.indexByte l c = -1 := by simpa using e
    obtain ⟨k, rfl⟩ : ∃ k, m = k + 1 := ⟨m - 1, by omega⟩
    obtain ⟨h1, h2⟩ := index_cut (c := c) (l := l) (m := k) (by omega)
    refine ⟨by rw [List.take_succ_cons, List.drop_succ_cons, List.cons_append, ← h1], fun x hx => ?_⟩
    rw [List.take_succ_cons] at hx
    rcases List.mem_cons.1 hx with rfl | hx
    ·exact hb
    ·exact h2 x hx
theorem index_no {c : UInt8} : ∀ {l : List UInt8}, Lib.indexByte l c < 0 → ∀ x ∈ l, x ≠ c
 | [], _ => fun x hx => by simp at hx
 | b :: l, h => by
  unfold Lib.indexByte at h
  by_cases hb : b = c
  ·subst hb; simp at h
  ·have hb' : (b == c) = false := by simpa using hb
   rw [hb'] at h
   simp only [Bool.false_eq_true, if_false] at h
   have h1 : Lib.indexByte l c < 0 := by
    have := Lib.indexByte_ge l c
    split at h
    ·rename_i e; have e' : Lib.indexByte l c = -1 := by simpa using e
     omega
    ·omega
   intro x hx
   rcases List.mem_cons.1 hx with rfl | hx
   ·exact hb
   ·exact index_no h1 x hx
theorem suff_iff {l : List UInt8} {c : UInt8} : Lib.hasSuffix l [c] = true ↔ l.getLast? = some c := by
 unfold Lib.hasSuffix
 rw [List.isSuffixOf_iff_suffix]
 constructor
 ·rintro ⟨t, rfl⟩; simp
 ·intro h
  obtain ⟨t, rfl⟩ := List.getLast?_eq_some_iff.1 h
  exact ⟨t, rfl⟩
def linesL (l : List UInt8) : List (List UInt8) := if l = [] then [] else splitL 10 (Lib.trimSuffix l [10])
def endL (l : List UInt8) : Bool := if l = [] then true else Lib.hasSuffix l [10]
theorem linesL_none {l : List UInt8} (h0 : l ≠ []) (h : Lib.indexByte l 10 < 0) : linesL l = [l] ∧ endL l = false := by
 have hn := index_no h
 have hs : Lib.hasSuffix l [10] = false := Bool.eq_false_iff.2 fun e => by
  obtain ⟨t, rfl⟩ := List.getLast?_eq_some_iff.1 (suff_iff.1 e)
  exact hn 10 (by simp) rfl
 refine ⟨?_, by rw [endL, if_neg h0, hs]⟩
 rw [linesL, if_neg h0, Lib.trimSuffix, hs, if_neg (by simp), splitL_none hn]
theorem linesL_some {l : List UInt8} {m : Nat} (h : Lib.indexByte l 10 = m) : linesL l = l.take m :: linesL (l.drop (m + 1)) ∧ endL l = endL (l.drop (m + 1)) := by
 obtain ⟨h1, h2⟩ := index_cut h
 generalize l.take m = a at h1 h2
 generalize l.drop (m + 1) = r at h1
 subst h1
 have hne : a ++ 10 :: r ≠ [] := by simp
 by_cases hr : r = []
 ·subst hr
  have hs : Lib.hasSuffix (a ++ [10]) [10] = true := suff_iff.2 (by simp)
  refine ⟨?_, by rw [endL, if_neg hne, hs, endL, if_pos rfl]⟩
  rw [linesL, if_neg hne, Lib.trimSuffix, hs, if_pos rfl, linesL, if_pos rfl]
  have : (a ++ [10]).take ((a ++ [10]).length - [(10 : UInt8)].length) = a := by simp
  rw [this, splitL_none h2]
 ·have hl : (a ++ 10 :: r).getLast? = r.getLast? := by
   rw [List.getLast?_append, List.getLast?_cons]
   cases hg : r.getLast? with
   | none => rw [List.getLast?_eq_none_iff] at hg; exact absurd hg hr
   | some x => simp
  have hs : Lib.hasSuffix (a ++ 10 :: r) [10] = Lib.hasSuffix r [10] := by
   rw [Bool.eq_iff_iff, suff_iff, suff_iff, hl]
  refine ⟨?_, by rw [endL, if_neg hne, hs, endL, if_neg hr]⟩
  rw [linesL, if_neg hne, linesL, if_neg hr, Lib.trimSuffix, hs, Lib.trimSuffix]
  split
  ·have hp : 0 < r.length := List.length_pos_iff.2 hr
   have : (a ++ 10 :: r).take ((a ++ 10 :: r).length - [(10 : UInt8)].length) = a ++ 10 :: r.take (r.length - [(10 : UInt8)].length) := by
    rw [List.take_append]
    congr 1
    ·rw [List.take_of_length_le (by simp)]
    ·have e : (a ++ 10 :: r).length - [(10 : UInt8)].length - a.length = (r.length - 1) + 1 := by simp; omega
     rw [e, List.take_succ_cons]; rfl
   rw [this, splitL_cut h2]
  ·rw [splitL_cut h2]
theorem byL_bytesOf (l : List UInt8) : byL (bytesOf l) = l := by simp [byL, bytesOf]
theorem byL_nil {s : ByteArray} : byL s = [] ↔ s = ⟨#[]⟩ := by
 constructor
 ·intro h; rw [← bytesOf_byL s, h]; rfl
 ·rintro rfl; rfl
theorem linesR_L (s : ByteArray) : linesR s = (linesL (byL s)).map bytesOf := by
 unfold linesR linesL
 by_cases h : byL s = []
 ·have := byL_nil.1 h
  subst this
  rw [if_pos (sEq_refl _), if_pos h]; rfl
 ·have hne : ¬ sEq s ⟨#[]⟩ = true := fun e => h (byL_nil.2 (sEq_eq.1 e))
  rw [if_neg hne, if_neg h, splitS, byL_bytesOf]
theorem linesE_L (s : ByteArray) : linesE s = endL (byL s) := by
 unfold linesE endL
 by_cases h : byL s = []
 ·have := byL_nil.1 h
  subst this
  rw [if_pos (sEq_refl _), if_pos h]
 ·have hne : ¬ sEq s ⟨#[]⟩ = true := fun e => h (byL_nil.2 (sEq_eq.1 e))
  rw [if_neg hne, if_neg h]; rfl
theorem lines_none {s : ByteArray} (h0 : sEq s ⟨#[]⟩ = false) (h : Lib.indexByte (byL s) 10 < 0) : linesR s = [s] ∧ linesE s = false := by
 have hne : byL s ≠ [] := fun e => by rw [byL_nil.1 e, sEq_refl] at h0; cases h0
 obtain ⟨h1, h2⟩ := linesL_none hne h
 rw [linesR_L, linesE_L, h1, h2]
 exact ⟨by simp [bytesOf_byL], rfl⟩
theorem lines_some {s : ByteArray} {m : Nat} (h : Lib.indexByte (byL s) 10 = m) : linesR s = s.extract 0 m :: linesR (s.extract (m + 1) s.size) ∧ linesE s = linesE (s.extract (m + 1) s.size) := by
 obtain ⟨h1, h2⟩ := linesL_some h
 have e1 : byL (s.extract (m + 1) s.size) = (byL s).drop (m + 1) := by
  rw [byL_extract, List.take_of_length_le (by rw [List.length_drop, byL_len]; omega)]
 have e2 : bytesOf ((byL s).take m) = s.extract 0 m := by
  rw [← bytesOf_byL (s.extract 0 m), byL_extract, List.drop_zero, Nat.sub_zero]
 rw [linesR_L, linesE_L, linesR_L, linesE_L, e1, h1, h2, List.map_cons, e2]
 exact ⟨rfl, rfl⟩
theorem lines_nil : linesR ⟨#[]⟩ = [] ∧ linesE ⟨#[]⟩ = true := ⟨by rw [linesR, if_pos (sEq_refl _)], by rw [linesE, if_pos (sEq_refl _)]⟩
def lnBad (ok : Nat → ByteArray → Bool) (ls : List ByteArray) (e : Bool) (i : Nat) : Bool := !ok i (ls.getD i ByteArray.empty) || (!e && decide (i + 1 = ls.length))
def lnF (ok : Nat → ByteArray → Bool) (ls : List ByteArray) (e : Bool) : Option Nat := (List.range ls.length).find? (lnBad ok ls e)
theorem lnF_none {ok : Nat → ByteArray → Bool} {ls : List ByteArray} {e : Bool} (h : ∀ j, j < ls.length → lnBad ok ls e j = false) : lnF ok ls e = none :=
 List.find?_eq_none.2 fun j hj => by rw [h j (List.mem_range.1 hj)]; simp
theorem lnF_some {ok : Nat → ByteArray → Bool} {ls : List ByteArray} {e : Bool} {i : Nat} (hi : i < ls.length) (h : lnBad ok ls e i = true) (hn : ∀ j, j < i → lnBad ok ls e j = false) : lnF ok ls e = some i := by
 unfold lnF
 rw [List.find?_range_eq_some]
 exact ⟨h, List.mem_range.2 hi, fun j hj => by rw [hn j hj]; rfl⟩
theorem lnF_zero {ok : Nat → ByteArray → Bool} {ls : List ByteArray} {e : Bool} (h : lnF ok ls e = none) : ∀ j, j < ls.length → ok j (ls.getD j ByteArray.empty) = true := fun j hj => by
 have := List.find?_eq_none.1 h j (List.mem_range.2 hj)
 unfold lnBad at this
 simp at this
 exact this.1
end Go.Proofs.YtdnlhdilpdeecaaGreatDoor
namespace Go.Proofs.YtdnlhdilpdeecaaGreatDoor
open Go.RowKit
set_option linter.unusedVariables false
set_option linter.unusedSimpArgs false
def cutF (c : UInt8) (s : ByteArray) : Bool := decide (0 ≤ Lib.indexByte (byL s) c)
def cutA (c : UInt8) (s : ByteArray) : ByteArray := if cutF c s = true then s.extract 0 (Lib.indexByte (byL s) c).toNat else s
def cutB (c : UInt8) (s : ByteArray) : ByteArray := if cutF c s = true then s.extract ((Lib.indexByte (byL s) c).toNat + 1) s.size else ⟨#[]⟩
theorem index_lt {c : UInt8} {l : List UInt8} {m : Nat} (h : Lib.indexByte l c = m) : m < l.length := by
 have h1 := congrArg List.length (index_cut h).1
 have h2 : (l.take m).length ≤ m := by rw [List.length_take]; omega
 rw [List.length_append, List.length_cons, List.length_take, List.length_drop] at h1
 omega
theorem cut_at {c : UInt8} {s : ByteArray} (h : cutF c s = true) : ∃ m : Nat, Lib.indexByte (byL s) c = m ∧ m < s.size ∧ cutA c s = s.extract 0 m ∧ cutB c s = s.extract (m + 1) s.size := by
 have h0 : 0 ≤ Lib.indexByte (byL s) c := of_decide_eq_true h
 refine ⟨(Lib.indexByte (byL s) c).toNat, by omega, ?_, by rw [cutA, if_pos h], by rw [cutB, if_pos h]⟩
 have := index_lt (l := byL s) (c := c) (m := (Lib.indexByte (byL s) c).toNat) (by omega)
 rwa [byL_len] at this
theorem cut_no {c : UInt8} {s : ByteArray} (h : cutF c s = false) : cutA c s = s ∧ cutB c s = ⟨#[]⟩ := ⟨by rw [cutA, if_neg (by rw [h]; simp)], by rw [cutB, if_neg (by rw [h]; simp)]⟩
theorem cutA_size (c : UInt8) (s : ByteArray) : (cutA c s).size ≤ s.size := by
 cases h : cutF c s with
 | true =>
  obtain ⟨m, h1, h2, h3, h4⟩ := cut_at h
  rw [h3, ByteArray.size_extract]; omega
 | false => rw [(cut_no h).1]; exact Nat.le_refl _
theorem cut_sizes {c : UInt8} {s : ByteArray} (h : cutF c s = true) : (cutA c s).size + 1 + (cutB c s).size = s.size := by
 obtain ⟨m, h1, h2, h3, h4⟩ := cut_at h
 rw [h3, h4, ByteArray.size_extract, ByteArray.size_extract]; omega
set_option maxRecDepth 100000 in
theorem stringslite_CutB {s : ByteArray} {c : UInt8} (hs : s.size ≤ 100000000) :
  SpecN Tryz.prog 259 [avS s, avS ⟨#[c]⟩] (fun y => y = .tup [avS (cutA c s), avS (cutB c s), avB (cutF c s)]) := by
 refine SpecN.of_VCN Tryz.func259 rfl Tryz.ntmps259 (Nle rfl) fun w A hB => ?_
 have hnew : True := trivial
 refine VC.seq ?_
 have hc1 : (⟨#[c]⟩ : ByteArray).size = 1 := rfl
 refine VC.region ?_
 refine VO.ma rfl rfl rfl rfl ?_
 refine VO.ma rfl rfl rfl rfl ?_
 refine VO.ma rfl rfl rfl rfl ?_
 refine VO.nil ?_
 refine VC.seq ?_
 refine VC.sr ?_
 refine VO.mv rfl rfl rfl rfl ?_
 refine VO.mv rfl rfl rfl rfl ?_
 refine VO.op rfl (OpE.call rfl hB rfl Tryz.call258 rfl (SpecN.spec (stringslite_Index_S)) ?_)
 rintro _ rfl
 obtain ⟨v, hv⟩ : ∃ v, Lib.indexByte (byL s) c = v := ⟨_, rfl⟩
 rw [hv]
 refine VO.ma rfl rfl rfl rfl ?_
 refine VO.nil ?_
 refine VC.sr ?_
 refine VO.mv rfl rfl rfl rfl ?_
 refine VO.val rfl rfl (OpV.geq rfl rfl rfl) ?_
 refine VO.nil ?_
 refine VC.cond rfl (fun h0b => ?_) (fun h0b => ?_)
 ·have h0 := h0b
  try simp only [qqT, qqF, qqN, qqM, qqL, qqE] at h0
  have hcf : cutF c s = true := by unfold cutF; rw [hv]; exact decide_eq_true h0
  obtain ⟨m, hm1, hm2, hm3, hm4⟩ := cut_at hcf
  obtain rfl : v = m := by rw [← hv, hm1]
  refine VC.seq ?_
  refine VC.draw (fun _ => NoB) hB (by kernel_rfl) ?_
  refine VA.take (i := 0) rfl (by kernel_rfl) (by kernel_rfl) (by kernel_rfl) rfl rfl (OpV.move (.inl rfl) rfl) ?_
  refine VA.take (i := 1) rfl (by kernel_rfl) (by kernel_rfl) (by kernel_rfl) rfl rfl (OpV.move (.inl rfl) rfl) ?_
  refine VA.take (i := 2) rfl (by kernel_rfl) (by kernel_rfl) (by kernel_rfl) rfl rfl (OpV.slice_s (h := m) rfl Tryz.underlying9 rfl rfl ⟨_, _, rfl, by omega⟩ (by omega) (by omega)) ?_
  refine VA.take (i := 3) rfl (by kernel_rfl) (by kernel_rfl) (by kernel_rfl) rfl rfl (OpV.move (.inl rfl) rfl) ?_
  refine VA.take (i := 4) rfl (by kernel_rfl) (by kernel_rfl) (by kernel_rfl) rfl rfl (OpV.move (.inl rfl) rfl) ?_
  refine VA.take (i := 5) rfl (by kernel_rfl) (by kernel_rfl) (by kernel_rfl) rfl rfl (OpV.move (.inl rfl) rfl) ?_
  refine VA.take (i := 6) rfl (by kernel_rfl) (by kernel_rfl) (by kernel_rfl) rfl rfl (OpV.len_s rfl Tryz.underlying9 rfl) ?_
  refine VA.take (i := 7) rfl (by kernel_rfl) (by kernel_rfl) (by kernel_rfl) rfl rfl (OpV.add rfl rfl rfl (by unfold fits; omega)) ?_
  refine VA.take (i := 8) rfl (by kernel_rfl) (by kernel_rfl) (by kernel_rfl) rfl rfl (OpV.slice_s (l := m + 1) rfl Tryz.underlying9 rfl ⟨_, _, rfl, by omega⟩ rfl (by omega) (by omega)) ?_
  refine VA.take (i := 9) rfl (by kernel_rfl) (by kernel_rfl) (by kernel_rfl) rfl rfl (OpV.move (.inr rfl) rfl) ?_
  refine VA.take (i := 10) rfl (by kernel_rfl) (by kernel_rfl) (by kernel_rfl) rfl rfl (OpV.move (.inr rfl) rfl) ?_
  refine VA.take (i := 11) rfl (by kernel_rfl) (by kernel_rfl) (by kernel_rfl) rfl rfl (OpV.move (.inr rfl) rfl) ?_
  refine VA.done (by kernel_rfl) ?_
  refine VC.ret ?_
  exact Exists.intro _ (And.intro (RetN.three Tryz.results259 (ResN.v rfl) (ResN.v rfl) (ResN.v rfl)) (by rw [hm3, hm4, hcf]))
 ·have h0 := h0b
  try simp only [qqT, qqF, qqN, qqM, qqL, qqE] at h0
  have hcf : cutF c s = false := by unfold cutF; rw [hv]; exact decide_eq_false (by omega)
  have hcn := cut_no hcf
  refine VC.skip ?_
  refine VC.sr ?_
  refine VO.mv rfl rfl rfl rfl ?_
  refine VO.ma rfl rfl rfl rfl ?_
  refine VO.ma rfl rfl rfl rfl ?_
  refine VO.ma rfl rfl rfl rfl ?_
  refine VO.nil ?_
  refine VC.ret ?_
  exact Exists.intro _ (And.intro (RetN.three Tryz.results259 (ResN.v rfl) (ResN.v rfl) (ResN.v rfl)) (by rw [hcn.1, hcn.2, hcf]))
set_option maxRecDepth 100000 in
theorem strings_CutB {s : ByteArray} {c : UInt8} (hs : s.size ≤ 100000000) :
  SpecN Tryz.prog 195 [avS s, avS ⟨#[c]⟩] (fun y => y = .tup [avS (cutA c s), avS (cutB c s), avB (cutF c s)]) := by
 refine SpecN.of_VCN Tryz.func195 rfl Tryz.ntmps195 (Nle rfl) fun w A hB => ?_
 have hnew : True := trivial
 refine VC.sr ?_
 refine VO.ma rfl rfl rfl rfl ?_
 refine VO.ma rfl rfl rfl rfl ?_
 refine VO.ma rfl rfl rfl rfl ?_
 refine VO.nil ?_
 refine VC.sr ?_
 refine VO.mv rfl rfl rfl rfl ?_
 refine VO.mv rfl rfl rfl rfl ?_
 refine VO.op rfl (OpE.call rfl hB rfl Tryz.call259 rfl (SpecN.spec (stringslite_CutB hs)) ?_)
 rintro _ rfl
 refine VO.val rfl rfl (OpV.extract rfl rfl rfl) ?_
 refine VO.val rfl rfl (OpV.extract rfl rfl rfl) ?_
 refine VO.val rfl rfl (OpV.extract rfl rfl rfl) ?_
 refine VO.ma rfl rfl rfl rfl ?_
 refine VO.ma rfl rfl rfl rfl ?_
 refine VO.ma rfl rfl rfl rfl ?_
 refine VO.nil ?_
 refine VC.ret ?_
 exact Exists.intro _ (And.intro (RetN.three Tryz.results195 (ResN.v rfl) (ResN.v rfl) (ResN.v rfl)) (rfl))
theorem lines_yes {s : ByteArray} (h : cutF 10 s = true) : linesR s = cutA 10 s :: linesR (cutB 10 s) ∧ linesE s = linesE (cutB 10 s) := by
 obtain ⟨m, h1, h2, h3, h4⟩ := cut_at h
 rw [h3, h4]; exact lines_some h1
theorem lines_no {s : ByteArray} (h0 : sEq s ⟨#[]⟩ = false) (h : cutF 10 s = false) : linesR s = [s] ∧ linesE s = false := lines_none h0 (by have := of_decide_eq_false h; omega)
theorem lines_last {s : ByteArray} (h : linesE s = false) : 0 < (linesR s).length := by
 cases h0 : sEq s ⟨#[]⟩ with
 | true => rw [sEq_eq.1 h0, lines_nil.2] at h; cases h
 | false =>
  cases hc : cutF 10 s with
  | true => rw [(lines_yes hc).1]; exact Nat.succ_pos _
  | false => rw [(lines_no h0 hc).1]; exact Nat.succ_pos _
abbrev okAt (ok : List ByteArray → ByteArray → Bool) (ls : List ByteArray) : Nat → ByteArray → Bool := fun i x => ok (ls.take i) x
structure LnI (ok : List ByteArray → ByteArray → Bool) (text : ByteArray) (pre : List ByteArray) (r : ByteArray) : Prop where
 eq : linesR text = pre ++ linesR r
 en : linesE text = linesE r
 good : ∀ j, j < pre.length → lnBad (okAt ok (linesR text)) (linesR text) (linesE text) j = false
 size : pre.length + r.size ≤ text.size
section
variable {ok : List ByteArray → ByteArray → Bool} {text r : ByteArray} {pre : List ByteArray}
theorem LnI.start (text : ByteArray) : LnI ok text [] text := ⟨rfl, rfl, fun j hj => absurd hj (Nat.not_lt_zero j), by simp⟩
theorem LnI.at_ (h : LnI ok text pre r) {x : ByteArray} {l : List ByteArray} (hl : linesR r = x :: l) : (linesR text).take pre.length = pre ∧ (linesR text).getD pre.length ByteArray.empty = x ∧ pre.length < (linesR text).length := by
 rw [h.eq, hl]
 refine ⟨by simp, by simp [List.getD_eq_getElem?_getD], by simp⟩
theorem LnI.step (h : LnI ok text pre r) (hc : cutF 10 r = true) (ho : ok pre (cutA 10 r) = true) : LnI ok text (pre ++ [cutA 10 r]) (cutB 10 r) := by
 obtain ⟨h1, h2⟩ := lines_yes hc
 obtain ⟨k1, k2, k3⟩ := h.at_ h1
 refine ⟨by rw [h.eq, h1, List.append_assoc]; rfl, h.en.trans h2, fun j hj => ?_, ?_⟩
 ·by_cases hj2 : j < pre.length
  ·exact h.good j hj2
  ·obtain rfl : j = pre.length := by rw [List.length_append] at hj; simp at hj; omega
   unfold lnBad okAt
   rw [k1, k2, ho]
   cases he : linesE text with
   | true => rfl
   | false =>
    have h3 := lines_last (h2.symm.trans (h.en.symm.trans he))
    have h4 : (linesR text).length = pre.length + (1 + (linesR (cutB 10 r)).length) := by rw [h.eq, h1, List.length_append, List.length_cons]; omega
    rw [decide_eq_false (by omega)]; rfl
 ·have := cut_sizes hc
  have := h.size
  rw [List.length_append]; simp; omega
theorem LnI.fin (h : LnI ok text pre r) (hr : sEq r ⟨#[]⟩ = true) : lnF (okAt ok (linesR text)) (linesR text) (linesE text) = none ∧ pre = linesR text := by
 have e := sEq_eq.1 hr
 subst e
 have h1 : linesR text = pre := by rw [h.eq, lines_nil.1, List.append_nil]
 exact ⟨lnF_none fun j hj => h.good j (by rw [h1] at hj; exact hj), h1.symm⟩
theorem LnI.bad1 (h : LnI ok text pre r) (hr : sEq r ⟨#[]⟩ = false) (hc : cutF 10 r = false) : lnF (okAt ok (linesR text)) (linesR text) (linesE text) = some pre.length := by
 obtain ⟨h1, h2⟩ := lines_no hr hc
 obtain ⟨k1, k2, k3⟩ := h.at_ h1
 refine lnF_some k3 ?_ h.good
 unfold lnBad
 rw [h.en, h2, decide_eq_true (by rw [h.eq, h1, List.length_append]; rfl)]
 simp
theorem LnI.bad2 (h : LnI ok text pre r) (hc : cutF 10 r = true) (ho : ok pre (cutA 10 r) = false) : lnF (okAt ok (linesR text)) (linesR text) (linesE text) = some pre.length := by
 obtain ⟨h1, h2⟩ := lines_yes hc
 obtain ⟨k1, k2, k3⟩ := h.at_ h1
 refine lnF_some k3 ?_ h.good
 unfold lnBad okAt
 rw [k1, k2, ho]; rfl
end
def lnY (f : Option Nat) : AV := match f with
 | none => .tup [avI 0, avB true]
 | some i => .tup [avI (i : Int), avB false]
end Go.Proofs.YtdnlhdilpdeecaaGreatDoor
namespace Go.Proofs.YtdnlhdilpdeecaaGreatDoor
open Go.RowKit
set_option linter.unusedVariables false
set_option linter.unusedSimpArgs false
section
variable {P : Program} {B : Bs} {s : St'} {o : Oper} {K : St' → Prop} {V : Nat → Nat → Prop} {ops : Array Oper} {Q : Exit → St' → Prop} {n N : Nat} {L : Array Bool}
def VN (P : Program) (B : Bs) (V : Nat → Nat → Prop) (ops : Array Oper) (Q : Exit → St' → Prop) (n : Nat) (L : Array Bool) (s : St') (N : Nat) : Prop :=
 ∀ a w, R B s a w → w.heap.size = N → wpAnyE P .any ops (fun a w => ∃ s, Q .normal s ∧ R B s a w) (fun j => Ew B (V j)) n L a w
def VM (P : Program) (B : Bs) (V : Nat → Nat → Prop) (ops : Array Oper) (Q : Exit → St' → Prop) (n : Nat) (L : Array Bool) (s : St') (N : Nat) : Prop :=
 ∀ a w, R B s a w → N ≤ w.heap.size → wpAnyE P .any ops (fun a w => ∃ s, Q .normal s ∧ R B s a w) (fun j => Ew B (V j)) n L a w
def OpVN (P : Program) (B : Bs) (W : Nat → Prop) (s : St') (o : Oper) (x : AV) (N : Nat) : Prop :=
 ∀ a w, R B s a w → w.heap.size = N → ∃ v, (∀ w', Chg (fun b => B.str b ∨ W b) w w' → (execOp a.eval o).run P w' = .ok (.value v) w') ∧ Rep w (Zn B s.hp w) x v
theorem OpVN.of {W : Nat → Prop} {x : AV} (h : OpV P B W s o x) : OpVN P B W s o x N := fun a w hr _ => h a w hr
theorem new_keep {W : Nat → Prop} (hB : B.Ok) {a : Act} {w w' : World} (hr : R B s a w) (hW : ∀ b, W b → w.heap.size ≤ b) (hc : Chg (fun b => B.str b ∨ W b) w w') {b : Nat} (hZ : Zn B s.hp w b) : w'.heap[b]? = w.heap[b]? := by
 refine hc.block b hZ.1 ?_
 rintro (h | h)
 ·obtain ⟨h1, h2⟩ := hB.str b h
  exact (hZ.2.2 (hB.low b h1)).2 h
 ·exact absurd hZ.1 (Nat.not_lt.2 (hW b h))
theorem OpVN.loadK_at {W : Nat → Prop} {x : Operand} {t m k : Nat} {F : Nat → AV} (ho : o.op = .load t x) (hB : B.Ok) (hW : ∀ b, W b → N ≤ b) (hag : ∀ w, (isAgg t).run P w = .ok true w) (hsz : ∀ w, (sizeOf t).run P w = .ok k w) (hx : evO s x = some (.at_ m F)) (hm : Nat.ble k m = true) : OpVN P B W s o (.agg (tab k F)) N := by
 intro a w hr hN
 have := hr.ev hx
 generalize hv : a.eval x = u at this
 have hm' := Nat.le_of_ble_eq_true hm
 cases this with
 | at_ m f' b off c e u hZ hb hc hr' =>
  refine ⟨.agg ((List.range k).map u).toArray, fun w' hcw => ?_, .agg _ _ (by simp [tab_len]) fun j hj => ?_⟩
  ·have hb' := (new_keep hB hr (fun b h => hN ▸ hW b h) hcw hZ).trans hb
   have hcell : ∀ j v, ((List.range k).map u)[j]? = some v → w'.cell? ((⟨b, off, none⟩ : Addr).add j) = some v := by
    intro j v hj
    simp only [List.getElem?_map, Option.map_eq_some_iff] at hj
    obtain ⟨q, hq, rfl⟩ := hj
    obtain ⟨hlt, hq'⟩ := List.getElem?_eq_some_iff.1 hq
    simp at hlt hq'
    subst hq'
    rw [Addr.add_lit]
    simpa [World.cell?, hb'] using hc j (by omega)
   have hl := run_loadCells_list (P := P) w' ⟨b, off, none⟩ _ hcell
   simp only [List.length_map, List.length_range] at hl
   simp only [execOp, ho, hv, Instr.loadAt, Instr.sureAddr, loadVar, hag, hsz, hl, Sem.run_bind, Sem.run_pure, Result.andThen_ok, if_true]
  ·rw [tab_len] at hj
   rw [tab_get]
   simp [hj]
   exact hr' j (by omega)
theorem VN.take {i : Nat} {x : AV} (hi : ops[i]? = some o) (hs : Region.noSelect ops = true) (hf : Region.free .any ops L i = true) (hr : (Region.ready .any ops L).contains i = true) (hg : o.guard = none) (hd : okd B.nt o.dst = true)
  (hv : OpVN P B (Wi V ops i) s o x N) (h : VN P B V ops Q n (L.setIfInBounds i true) (s.put o.dst x) N) : VN P B V ops Q (n + 1) L s N := fun a w hR hN => by
 obtain ⟨v, h1, h2⟩ := hv a w hR hN
 exact wpAnyE_first (F := Ew B (Wi V ops i)) Ew.tr Ew.rf (fun x => Ew.rf x) Wi.of hi (Region.noSelect_spec hs) n L a w (Region.free_spec hi hf) (by simpa using hr) (.inl ⟨by simp [Region.wanted, hg], h1⟩) (h _ _ (hR.put _ hd _ _ h2) hN)
theorem VM.take {i : Nat} {x : AV} (hi : ops[i]? = some o) (hs : Region.noSelect ops = true) (hf : Region.free .any ops L i = true) (hr : (Region.ready .any ops L).contains i = true) (hg : o.guard = none) (hd : okd B.nt o.dst = true)
  (hv : OpV P B (Wi V ops i) s o x) (h : VM P B V ops Q n (L.setIfInBounds i true) (s.put o.dst x) N) : VM P B V ops Q (n + 1) L s N := fun a w hR hN => by
 obtain ⟨v, h1, h2⟩ := hv a w hR
 exact wpAnyE_first (F := Ew B (Wi V ops i)) Ew.tr Ew.rf (fun x => Ew.rf x) Wi.of hi (Region.noSelect_spec hs) n L a w (Region.free_spec hi hf) (by simpa using hr) (.inl ⟨by simp [Region.wanted, hg], h1⟩) (h _ _ (hR.put _ hd _ _ h2) hN)
theorem VM.done (hr : Region.ready .any ops L = []) (h : Q .normal s) : VM P B V ops Q n L s N := fun a w hR _ => by
 cases n with
 | zero => exact ⟨hr, s, h, hR⟩
 | succ n => exact ⟨fun _ => ⟨s, h, hR⟩, by rw [hr]; simp⟩
def OpM (P : Program) (B : Bs) (W : Nat → Prop) (s : St') (o : Oper) (K : St' → Prop) (N : Nat) : Prop :=
 ∀ a w, R B s a w → N ≤ w.heap.size → ∀ (next : Act → World → Prop) (Qx : Exit → Act → World → Prop), (∀ s' a' w', K s' → R B s' a' w' → Ew B W w w' → next a' w') → o.wp P a w next Qx
theorem OpM.of {W : Nat → Prop} (h : OpE P B W s o K) : OpM P B W s o K N := fun a w hr _ => h a w hr
theorem OpM.alloc {W : Nat → Prop} {e : TypeId} {z : Value} {cs : List AV} (ho : o.op = .alloc e) (hB : B.Ok) (hd : okd B.nt o.dst = true) (hz : ∀ w, (zeroValue e).run P w = .ok z w) (hcs : cellsOf (.v z) = cs)
  (hK : ∀ g, N ≤ g → K ((St'.mk s.sl (s.hp ++ [.box g ⟨cs, e, cs.length⟩]) s.k).put o.dst (.v (.pointer (some ⟨g, 0, none⟩))))) : OpM P B W s o K N := by
 subst hcs
 intro a w hr hN next Qx hn
 have h1 := hr.newBox hB _ e _ (Rep.cells (.v z) rfl)
 unfold Oper.wp
 simp only [execOp, ho, Instr.alloc, newVar, newRow, Sem.run_bind, hz, run_newObj_alloc, Result.andThen_ok, Sem.run_pure]
 exact hn _ _ _ (hK _ hN) (h1.put _ hd _ _ (.v _)) (.ofN ((Chg.refl _ _).alloc _))
def EachM (P : Program) (B : Bs) (V : Nat → Nat → Prop) (ops : Array Oper) (Q : Exit → St' → Prop) (n : Nat) (L : Array Bool) (s : St') (N : Nat) : List Nat → Prop
 | [] => True
 | i :: r => (∃ o, ops[i]? = some o ∧ o.guard = none ∧ OpM P B (V i) s o (fun s' => VM P B V ops Q n (L.setIfInBounds i true) s' N) N) ∧ EachM P B V ops Q n L s N r
theorem VM.all {rs : List Nat} (hr : Region.ready .any ops L = rs) (hne : rs ≠ []) (h : EachM P B V ops Q n L s N rs) : VM P B V ops Q (n + 1) L s N := fun a w hR hN => by
 refine ⟨fun h0 => absurd (hr ▸ h0) hne, fun i hi => ?_⟩
 rw [hr] at hi
 have key : ∀ rs, EachM P B V ops Q n L s N rs → i ∈ rs → ∃ o, ops[i]? = some o ∧ o.guard = none ∧ OpM P B (V i) s o (fun s' => VM P B V ops Q n (L.setIfInBounds i true) s' N) N := by
  intro rs
  induction rs with
  | nil => intro _ h; simp at h
  | cons j r ih =>
   intro h hi
   rcases List.mem_cons.1 hi with rfl | hi
   ·exact h.1
   ·exact ih h.2 hi
 obtain ⟨o, ho, hg, hop⟩ := key rs h hi
 unfold wpOp
 simp only [ho]
 have hwant : Region.wanted o (yielded ops a.tmps) = true := by simp [Region.wanted, hg]
 rw [if_pos hwant]
 exact .inl (hop a w hR hN _ _ fun s' a' w' k1 k2 k3 => ⟨k3, k1 a' w' k2 (Nat.le_trans hN k3.size)⟩)
theorem VM.le {s' : St'} (h : Le B s s') (k : VM P B V ops Q n L s' N) : VM P B V ops Q n L s N := fun a w hr => k a w (h a w hr)
end
end Go.Proofs.YtdnlhdilpdeecaaGreatDoor
namespace Go.Proofs.YtdnlhdilpdeecaaGreatDoor
open Go.RowKit
set_option linter.unusedVariables false
set_option linter.unusedSimpArgs false
theorem OpVN.load_at {P : Program} {B : Bs} {s : St'} {o : Oper} {N : Nat} {W : Nat → Prop} {x : Operand} {t m : Nat} {F : Nat → AV} (ho : o.op = .load t x) (hB : B.Ok) (hW : ∀ b, W b → N ≤ b) (hag : ∀ w, (isAgg t).run P w = .ok false w) (hx : evO s x = some (.at_ m F)) (hm : Nat.blt 0 m = true) : OpVN P B W s o (F 0) N := by
 intro a w hr hN
 have := hr.ev hx
 generalize hv : a.eval x = u at this
 have hm' : 0 < m := by simpa using hm
 cases this with
 | at_ m f' b off c e u hZ hb hc hr' =>
  refine ⟨u 0, fun w' hcw => ?_, hr' 0 hm'⟩
  have hb' := (new_keep hB hr (fun b h => hN ▸ hW b h) hcw hZ).trans hb
  have hcell : w'.cell? ⟨b, off, none⟩ = some (u 0) := by simpa [World.cell?, hb'] using hc 0 hm'
  simp [execOp, ho, hv, Instr.loadAt, Instr.sureAddr, loadVar, hag, load, Sem.run, hcell]
end Go.Proofs.YtdnlhdilpdeecaaGreatDoor
namespace Go.Proofs.YtdnlhdilpdeecaaGreatDoor
open Go.RowKit
set_option linter.unusedVariables false
set_option linter.unusedSimpArgs false
theorem splitS_sz {c : UInt8} : ∀ (n : Nat) (s : ByteArray), s.size ≤ n → ∀ x ∈ splitS c s, x.size ≤ s.size
 | 0, s, h, x, hx => by
  by_cases hi : Lib.indexByte (byL s) c < 0
  ·rw [splitS_none hi] at hx; simp at hx; subst hx; exact Nat.le_refl _
  ·obtain ⟨m, hm⟩ : ∃ m : Nat, Lib.indexByte (byL s) c = m := ⟨(Lib.indexByte (byL s) c).toNat, by omega⟩
   have := (splitS_some hm).1
   omega
 | n + 1, s, h, x, hx => by
  by_cases hi : Lib.indexByte (byL s) c < 0
  ·rw [splitS_none hi] at hx; simp at hx; subst hx; exact Nat.le_refl _
  ·obtain ⟨m, hm⟩ : ∃ m : Nat, Lib.indexByte (byL s) c = m := ⟨(Lib.indexByte (byL s) c).toNat, by omega⟩
   obtain ⟨h1, h2⟩ := splitS_some hm
   rw [h2] at hx
   rcases List.mem_cons.1 hx with rfl | hx
   ·rw [ByteArray.size_extract]; omega
   ·have hz : (s.extract (m + 1) s.size).size ≤ n := by rw [ByteArray.size_extract]; omega
    have := splitS_sz n _ hz x hx
    rw [ByteArray.size_extract] at this
    omega
theorem getD_sz {l : List ByteArray} {n : Nat} (h : ∀ x ∈ l, x.size ≤ n) (i : Nat) : (l.getD i ByteArray.empty).size ≤ n := by
 rw [List.getD_eq_getElem?_getD]
 cases hi : l[i]? with
 | none => exact Nat.zero_le _
 | some x => exact h x (List.mem_of_getElem? hi)
theorem splitS_get (c : UInt8) (s : ByteArray) (i : Nat) : ((splitS c s).getD i ByteArray.empty).size ≤ s.size := getD_sz (splitS_sz s.size s (Nat.le_refl _)) i
theorem splitS_length (c : UInt8) (s : ByteArray) : (splitS c s).length ≤ s.size + 1 := by
 rw [splitS_len]
 have : Lib.countByte (byL s) c ≤ s.size := by rw [← byL_len]; exact List.count_le_length
 omega
theorem linesR_get (s : ByteArray) (i : Nat) : ((linesR s).getD i ByteArray.empty).size ≤ s.size := by
 unfold linesR
 split
 ·simp
 ·exact Nat.le_trans (splitS_get _ _ i) (trimSuffix_size s ⟨#[10]⟩)
theorem linesR_length (s : ByteArray) : (linesR s).length ≤ s.size + 1 := by
 unfold linesR
 split
 ·exact Nat.zero_le _
 ·have := splitS_length 10 (bytesOf (Lib.trimSuffix (byL s) [10]))
  have h2 := trimSuffix_size s ⟨#[10]⟩
  have h3 : (bytesOf (Lib.trimSuffix (byL s) [10])).size ≤ s.size := h2
  omega
abbrev w8 (s : ByteArray) (i : Nat) : ByteArray := (splitS 32 s).getD i ByteArray.empty
def vIx (w : ByteArray) : Int := fidx (fun x => sEq w x) vWords
def okLk (s : ByteArray) : Bool := wordsB s && (decide ((splitS 32 s).length = 8) && (numE (w8 s 0) 15 && (decide (1 ≤ vIx (w8 s 3)) && (sEq (w8 s 4) badW || sEq (w8 s 4) fineW))))
def lkOf (s : ByteArray) : LookS := ⟨w8 s 1, w8 s 2, numV (w8 s 0) 15, vIx (w8 s 3), sEq (w8 s 4) badW, w8 s 5, w8 s 6, w8 s 7⟩
section
variable {text : ByteArray}
end
section
variable {o A B C D : Bool} (h : o = (A && (B && (C || D))))
include h
end
end Go.Proofs.YtdnlhdilpdeecaaGreatDoor
namespace Go.Proofs.YtdnlhdilpdeecaaGreatDoor
open Go.RowKit
set_option linter.unusedVariables false
set_option linter.unusedSimpArgs false
theorem nums_same (l : List ByteArray) : numsB l = numsRB l l.length := by
 unfold numsB numsRB
 rw [List.take_length]
 congr 1
 funext x
 exact num_same x 15 (by decide)
theorem numsV_same {l : List ByteArray} (h : numsB l = true) : numsR l = numsRV l l.length := by
 unfold numsR numsV numsRV
 rw [if_pos h, List.take_length]
 refine List.map_congr_left fun x hx => ?_
 have h1 : numE x 15 = true := List.all_eq_true.1 h x hx
 have h2 := numV_same x 15 (by decide) h1
 rw [h2.1, h2.2]
abbrev n3 (s : ByteArray) (i : Nat) : Int := (numsR ((splitS 32 s).drop 2)).getD i 0
def okOr (s : ByteArray) : Bool := wordsB s && (decide ((splitS 32 s).length = 5) && numsB ((splitS 32 s).drop 2))
def orOf (s : ByteArray) : OrdrS := ⟨w8 s 0, w8 s 1, n3 s 0, n3 s 1, n3 s 2⟩
theorem okOr_5 {s : ByteArray} (h1 : wordsB s = true) (h2 : (splitS 32 s).length = 5) : okOr s = numsB ((splitS 32 s).drop 2) := by
 unfold okOr; rw [h1, decide_eq_true h2, Bool.true_and, Bool.true_and]
theorem okOr_no {s : ByteArray} (h : wordsB s = false ∨ (splitS 32 s).length ≠ 5) : okOr s = false := by
 unfold okOr
 rcases h with h | h
 ·rw [h]; rfl
 ·rw [decide_eq_false h]; simp
abbrev okO1 : List ByteArray → ByteArray → Bool := fun _ x => okOr x
abbrev orBad (text : ByteArray) : Option Nat := lnF (okAt okO1 (linesR text)) (linesR text) (linesE text)
def orRead (text : ByteArray) : List OrdrS × Int × Int :=
 if 200000 < text.size then ([], 0, 2)
 else match orBad text with
  | some i => ([], (i : Int), 9)
  | none => if ordrF ((linesR text).map orOf) = 0 then ((linesR text).map orOf, 0, 0) else ([], 0, ordrF ((linesR text).map orOf))
section
variable {text : ByteArray}
theorem orRead_2 (h : 200000 < text.size) : orRead text = ([], 0, 2) := by rw [orRead, if_pos h]
theorem orRead_9 (h : ¬ 200000 < text.size) {i : Nat} (hi : orBad text = some i) : orRead text = ([], (i : Int), 9) := by rw [orRead, if_neg h, hi]
theorem orRead_e (h : ¬ 200000 < text.size) (hi : orBad text = none) (hf : ordrF ((linesR text).map orOf) ≠ 0) : orRead text = ([], 0, ordrF ((linesR text).map orOf)) := by rw [orRead, if_neg h, hi]; simp only; rw [if_neg hf]
theorem orRead_0 (h : ¬ 200000 < text.size) (hi : orBad text = none) (hf : ordrF ((linesR text).map orOf) = 0) : orRead text = ((linesR text).map orOf, 0, 0) := by rw [orRead, if_neg h, hi]; simp only; rw [if_pos hf]
theorem orOf_sm {n : Nat} {s : ByteArray} (h : s.size ≤ n) : (orOf s).key.size ≤ n ∧ (orOf s).product.size ≤ n :=
 ⟨Nat.le_trans (splitS_get _ _ _) h, Nat.le_trans (splitS_get _ _ _) h⟩
theorem orOf_Sm {ls : List ByteArray} {n : Nat} (hn : n ≤ 1000000) (hl : ls.length ≤ 1000000) (h : ∀ i, (ls.getD i ByteArray.empty).size ≤ n) : SmOr (ls.map orOf) := by
 have hg : ∀ i, ((ls.map orOf).getD i default).key.size ≤ 1000000 ∧ ((ls.map orOf).getD i default).product.size ≤ 1000000 := fun i => by
  by_cases hi : i < ls.length
  ·have e : (ls.map orOf).getD i default = orOf (ls.getD i ByteArray.empty) := by simp [List.getD_eq_getElem?_getD, hi]
   rw [e]
   have := orOf_sm (h i)
   exact ⟨by omega, by omega⟩
  ·have e : (ls.map orOf).getD i default = default := by rw [List.getD_eq_getElem?_getD, List.getElem?_eq_none (by rw [List.length_map]; omega)]; rfl
   rw [e]
   exact ⟨Nat.zero_le _, Nat.zero_le _⟩
 exact ⟨by rw [List.length_map]; exact hl, fun i => (hg i).1, fun i => (hg i).2⟩
theorem orMap_take {ls : List ByteArray} {q : Nat} (h : q < ls.length) : (ls.take (q + 1)).map orOf = (ls.take q).map orOf ++ [orOf (ls.getD q ByteArray.empty)] := by
 have : ls.take (q + 1) = ls.take q ++ [ls.getD q ByteArray.empty] := by
  rw [List.take_succ_eq_append_getElem h]; simp [List.getD_eq_getElem?_getD, h]
 rw [this, List.map_append]; rfl
theorem loBad_at {ls : List ByteArray} {e : Bool} {q : Nat} : lnBad (okAt okO1 ls) ls e q = (!okOr (ls.getD q ByteArray.empty) || (!e && decide (q + 1 = ls.length))) := rfl
end
theorem numsR_len {l : List ByteArray} (h : numsB l = true) : (numsR l).length = l.length := by rw [numsR, if_pos h, numsV_len (Nat.le_refl _)]
set_option maxRecDepth 100000 in
set_option maxHeartbeats 4000000 in
theorem plan_readLine {s : ByteArray} (hs : s.size ≤ 10000000) :
  SpecN Tryz.prog 170 [avS s] (fun y => ∃ x : OrdrS, (okOr s = true → x = orOf s) ∧ y = .tup [avT x, avB (okOr s)]) := by
 refine SpecN.of_VCN Tryz.func170 rfl Tryz.ntmps170 (Nle rfl) fun w A hB => ?_
 have hnew : True := trivial
 refine VC.sr ?_
 refine VO.op rfl (OpE.alloc rfl hB rfl Tryz.zeroValue104 rfl ?_)
 intro g2
 refine VO.ma rfl rfl rfl rfl ?_
 refine VO.nil ?_
 refine VC.seq ?_
 have hwl := splitS_length 32 s
 have hwz := splitS_get 32 s
 refine VC.region ?_
 refine VO.mv rfl rfl rfl rfl ?_
 refine VO.op rfl (OpE.call rfl hB rfl Tryz.call232 rfl (kit_Words (by omega)) ?_)
 rintro _ rfl
 obtain ⟨wb, hwb⟩ : ∃ wb, wordsB s = wb := ⟨_, rfl⟩
 rw [hwb]
 have hwr : wb = true → wordsR s = splitS 32 s := fun e => by rw [wordsR, if_pos (by rw [hwb]; exact e)]
 refine VO.mv rfl rfl rfl rfl ?_
 refine VO.val rfl rfl (OpV.extract rfl rfl rfl) ?_
 refine VO.val rfl rfl (OpV.extract rfl rfl rfl) ?_
 refine VO.ma rfl rfl rfl rfl ?_
 refine VO.ma rfl rfl rfl rfl ?_
 refine VO.nil ?_
 refine VC.seq ?_
 refine VC.sr ?_
 refine VO.mv rfl rfl rfl rfl ?_
 refine VO.val rfl rfl (OpV.not rfl rfl) ?_
 refine VO.mv rfl rfl rfl rfl ?_
 refine VO.opG rfl rfl rfl rfl (fun aK1b => ?_) (fun aK1b => ?_)
 ·replace aK1b : _ = false := aK1b
  have aK1 := aK1b
  try simp only [qqT, qqF, qqN, qqM, qqL, qqE] at aK1
  refine OpE.val (W := NoB) (OpV.move (.inl rfl) rfl) rfl ?_
  refine VO.opY rfl rfl rfl rfl aK1b ?_
  refine OpE.val (W := NoB) (OpV.len_im rfl Tryz.underlying29 rfl) rfl ?_
  refine VO.opY rfl rfl rfl rfl aK1b ?_
  refine OpE.val (W := NoB) (OpV.neq rfl rfl rfl) rfl ?_
  refine VO.val rfl rfl (OpV.pickF rfl rfl rfl rfl aK1b) ?_
  refine VO.nil ?_
  refine VC.cond rfl (fun h0b => ?_) (fun h0b => ?_)
  ·have h0 := h0b
   try simp only [qqT, qqF, qqN, qqM, qqL, qqE] at h0
   have hno : okOr s = false := okOr_no (.inr (by rw [← hwr (by assumption)]; omega))
   refine VC.sr ?_
   refine VO.val rfl rfl (OpV.build (pls := #[(0, 1), (1, 1), (2, 1), (3, 1), (4, 1)]) rfl Tryz.zeroValue104 Tryz.underlying104 (fun w => by kernel_rfl) rfl rfl) ?_
   refine VO.op rfl (OpE.store (i := 0) rfl hB rfl Tryz.sizeOf104 rfl rfl rfl rfl rfl rfl (Nle rfl) trivial ?_)
   refine VO.ma rfl rfl rfl rfl ?_
   refine VO.nil ?_
   refine VC.ret ?_
   exact Exists.intro _ (And.intro (RetN.two Tryz.results170 ((by first | exact ResN.cellF (i := 0) Tryz.isAgg104 Tryz.sizeOf104 rfl rfl rfl (flat_ofB rfl))) (ResN.v rfl)) (⟨default, (fun e => by rw [hno] at e; (cases e)), by rw [hno]; rfl⟩))
  ·have h0 := h0b
   try simp only [qqT, qqF, qqN, qqM, qqL, qqE] at h0
   have hwt : wb = true := by simp_all
   have hok : okOr s = numsB ((splitS 32 s).drop 2) := okOr_5 (by rw [hwb, hwt]) (by rw [← hwr hwt]; omega)
   have hl5 : (splitS 32 s).length = 5 := by rw [← hwr hwt]; omega
   refine VC.le _ (Le.recast (t := 4) (y := avStrs (splitS 32 s)) rfl (fun w Z u h => by rw [← hwr hwt]; exact h)) ?_
   obtain ⟨ws, hws⟩ : ∃ ws, splitS 32 s = ws := ⟨_, rfl⟩
   rw [hws] at hl5 hwz hok ⊢
   obtain ⟨wd, hwd⟩ : ∃ wd, ws.drop 2 = wd := ⟨_, rfl⟩
   have hd3 : wd.length = 3 := by rw [← hwd, List.length_drop]; omega
   have hdz : ∀ i, (wd.getD i ByteArray.empty).size ≤ s.size := fun i => by
    rw [← hwd, List.getD_eq_getElem?_getD, List.getElem?_drop, ← List.getD_eq_getElem?_getD]; exact hwz _
   rw [hwd] at hok
   refine VC.skip ?_
   refine VC.sr ?_
   refine VO.mv rfl rfl rfl rfl ?_
   refine VO.val rfl rfl (OpV.slice_strs (l := 2) rfl Tryz.underlying29 Tryz.sizeOf9 rfl ⟨_, _, rfl, rfl⟩ rfl (by omega) (by omega)) ?_
   refine VO.le _ (Le.recast (t := 22) (y := avStrs wd) rfl (fun w Z u h => by rw [← hwd]; first | exact h | (simp only [List.take_length] at h; exact h))) ?_
   refine VO.op rfl (OpE.call rfl hB rfl Tryz.call233 rfl (SpecN.spec (kit_Numbers (l := wd) (by omega) (fun i => Nat.le_trans (hdz i) (by omega)))) ?_)
   rintro _ rfl
   obtain ⟨nb, hnb⟩ : ∃ nb, numsB wd = nb := ⟨_, rfl⟩
   obtain ⟨ns, hns⟩ : ∃ ns, numsR wd = ns := ⟨_, rfl⟩
   have hnl : nb = true → ns.length = 3 := fun e => by rw [← hns, numsR_len (by rw [hnb, e]), hd3]
   rw [hnb, hns]
   rw [hnb] at hok
   refine VO.mv rfl rfl rfl rfl ?_
   refine VO.val rfl rfl (OpV.extract rfl rfl rfl) ?_
   refine VO.val rfl rfl (OpV.extract rfl rfl rfl) ?_
   refine VO.ma rfl rfl rfl rfl ?_
   refine VO.ma rfl rfl rfl rfl ?_
   refine VO.nil ?_
   refine VC.seq ?_
   refine VC.sr ?_
   refine VO.mv rfl rfl rfl rfl ?_
   refine VO.val rfl rfl (OpV.not rfl rfl) ?_
   refine VO.nil ?_
   refine VC.cond rfl (fun h1b => ?_) (fun h1b => ?_)
   ·have h1 := h1b
    try simp only [qqT, qqF, qqN, qqM, qqL, qqE] at h1
    refine VC.sr ?_
    refine VO.val rfl rfl (OpV.build (pls := #[(0, 1), (1, 1), (2, 1), (3, 1), (4, 1)]) rfl Tryz.zeroValue104 Tryz.underlying104 (fun w => by kernel_rfl) rfl rfl) ?_
    refine VO.op rfl (OpE.store (i := 0) rfl hB rfl Tryz.sizeOf104 rfl rfl rfl rfl rfl rfl (Nle rfl) trivial ?_)
    refine VO.ma rfl rfl rfl rfl ?_
    refine VO.nil ?_
    refine VC.ret ?_
    exact Exists.intro _ (And.intro (RetN.two Tryz.results170 ((by first | exact ResN.cellF (i := 0) Tryz.isAgg104 Tryz.sizeOf104 rfl rfl rfl (flat_ofB rfl))) (ResN.v rfl)) (⟨default, (fun e => by rw [hok] at e; simp_all), by rw [hok, show nb = false by simp_all]; rfl⟩))
   ·have h1 := h1b
    try simp only [qqT, qqF, qqN, qqM, qqL, qqE] at h1
    have hnbt : nb = true := by simp_all
    have hn3 := hnl hnbt
    refine VC.skip ?_
    refine VC.seq ?_
    obtain ⟨x, hx⟩ : ∃ x : OrdrS, x = ⟨ws.getD 0 ByteArray.empty, ws.getD 1 ByteArray.empty, ns.getD 0 0, ns.getD 1 0, ns.getD 2 0⟩ := ⟨_, rfl⟩
    have hxo : x = orOf s := by
     rw [hx]
     unfold orOf w8 n3
     rw [hws, hwd, hns]
    refine VC.draw (fun j b => j = 16 ∧ b = g2) hB (by kernel_rfl) ?_
    refine VA.take (i := 0) rfl (by kernel_rfl) (by kernel_rfl) (by kernel_rfl) rfl rfl (OpV.move (.inl rfl) rfl) ?_
    refine VA.take (i := 1) rfl (by kernel_rfl) (by kernel_rfl) (by kernel_rfl) rfl rfl (OpV.indexAddr_1 rfl Tryz.underlying29 Tryz.sizeOf9 rfl rfl (Int.toNat_of_nonneg (by omega)).symm (by omega)) ?_
    refine VA.take (i := 2) rfl (by kernel_rfl) (by kernel_rfl) (by kernel_rfl) rfl rfl (OpV.load_at rfl hB (by first | exact OutW.wi1 (k := 0) rfl rfl) Tryz.isAgg9 rfl rfl) ?_
    refine VA.take (i := 3) rfl (by kernel_rfl) (by kernel_rfl) (by kernel_rfl) rfl rfl (OpV.move (.inl rfl) rfl) ?_
    refine VA.take (i := 4) rfl (by kernel_rfl) (by kernel_rfl) (by kernel_rfl) rfl rfl (OpV.indexAddr_1 rfl Tryz.underlying29 Tryz.sizeOf9 rfl rfl (Int.toNat_of_nonneg (by omega)).symm (by omega)) ?_
    refine VA.take (i := 5) rfl (by kernel_rfl) (by kernel_rfl) (by kernel_rfl) rfl rfl (OpV.load_at rfl hB (by first | exact OutW.wi1 (k := 0) rfl rfl) Tryz.isAgg9 rfl rfl) ?_
    refine VA.take (i := 6) rfl (by kernel_rfl) (by kernel_rfl) (by kernel_rfl) rfl rfl (OpV.move (.inl rfl) rfl) ?_
    refine VA.take (i := 7) rfl (by kernel_rfl) (by kernel_rfl) (by kernel_rfl) rfl rfl (OpV.indexAddr_1 rfl Tryz.underlying22 Tryz.sizeOf3 rfl rfl (Int.toNat_of_nonneg (by omega)).symm (by omega)) ?_
    refine VA.take (i := 8) rfl (by kernel_rfl) (by kernel_rfl) (by kernel_rfl) rfl rfl (OpV.load_at rfl hB (by first | exact OutW.wi1 (k := 0) rfl rfl) Tryz.isAgg3 rfl rfl) ?_
    refine VA.take (i := 9) rfl (by kernel_rfl) (by kernel_rfl) (by kernel_rfl) rfl rfl (OpV.move (.inl rfl) rfl) ?_
    refine VA.take (i := 10) rfl (by kernel_rfl) (by kernel_rfl) (by kernel_rfl) rfl rfl (OpV.indexAddr_1 rfl Tryz.underlying22 Tryz.sizeOf3 rfl rfl (Int.toNat_of_nonneg (by omega)).symm (by omega)) ?_
    refine VA.take (i := 11) rfl (by kernel_rfl) (by kernel_rfl) (by kernel_rfl) rfl rfl (OpV.load_at rfl hB (by first | exact OutW.wi1 (k := 0) rfl rfl) Tryz.isAgg3 rfl rfl) ?_
    refine VA.take (i := 12) rfl (by kernel_rfl) (by kernel_rfl) (by kernel_rfl) rfl rfl (OpV.move (.inl rfl) rfl) ?_
    refine VA.take (i := 13) rfl (by kernel_rfl) (by kernel_rfl) (by kernel_rfl) rfl rfl (OpV.indexAddr_1 rfl Tryz.underlying22 Tryz.sizeOf3 rfl rfl (Int.toNat_of_nonneg (by omega)).symm (by omega)) ?_
    refine VA.take (i := 14) rfl (by kernel_rfl) (by kernel_rfl) (by kernel_rfl) rfl rfl (OpV.load_at rfl hB (by first | exact OutW.wi1 (k := 0) rfl rfl) Tryz.isAgg3 rfl rfl) ?_
    refine VA.take (i := 15) rfl (by kernel_rfl) (by kernel_rfl) (by kernel_rfl) rfl rfl (OpV.build (pls := #[(0, 1), (1, 1), (2, 1), (3, 1), (4, 1)]) rfl Tryz.zeroValue104 Tryz.underlying104 (fun w => by kernel_rfl) rfl rfl) ?_
    refine VA.le _ (Le.recast (t := 44) (y := avT x) rfl (fun w Z u h => by rw [hx]; exact h)) ?_
    refine VA.all (rs := [16]) (by kernel_rfl) (by decide) ?_
    refine ⟨⟨_, rfl, .inl rfl, ?_⟩, trivial⟩
    refine OpE.store (i := 0) rfl hB rfl Tryz.sizeOf104 rfl rfl rfl rfl rfl rfl (Nle rfl) (by first | exact ⟨rfl, rfl⟩ | exact .inl ⟨rfl, rfl⟩ | exact .inr ⟨rfl, rfl⟩ | exact ⟨rfl, trivial⟩ | exact .inl ⟨rfl, trivial⟩ | exact .inr ⟨rfl, trivial⟩ | exact ⟨by decide, rfl⟩) ?_
    refine VA.take (i := 17) rfl (by kernel_rfl) (by kernel_rfl) (by kernel_rfl) rfl rfl (OpV.move (.inr rfl) rfl) ?_
    refine VA.done (by kernel_rfl) ?_
    refine VC.ret ?_
    exact Exists.intro _ (And.intro (RetN.two Tryz.results170 ((by first | exact ResN.cellF (i := 0) Tryz.isAgg104 Tryz.sizeOf104 rfl rfl rfl (flat_ofB rfl))) (ResN.v rfl)) (⟨x, fun _ => hxo, by rw [hok, hnbt]; rfl⟩))
 ·replace aK1b : _ = true := aK1b
  have aK1 := aK1b
  try simp only [qqT, qqF, qqN, qqM, qqL, qqE] at aK1
  refine VO.opX rfl rfl rfl rfl aK1b ?_
  refine VO.opX rfl rfl rfl rfl aK1b ?_
  refine VO.val rfl rfl (OpV.pickT rfl rfl rfl rfl aK1b) ?_
  refine VO.nil ?_
  refine VC.condT rfl rfl ?_
  have hno : okOr s = false := okOr_no (.inl (by simp_all))
  refine VC.sr ?_
  refine VO.val rfl rfl (OpV.build (pls := #[(0, 1), (1, 1), (2, 1), (3, 1), (4, 1)]) rfl Tryz.zeroValue104 Tryz.underlying104 (fun w => by kernel_rfl) rfl rfl) ?_
  refine VO.op rfl (OpE.store (i := 0) rfl hB rfl Tryz.sizeOf104 rfl rfl rfl rfl rfl rfl (Nle rfl) trivial ?_)
  refine VO.ma rfl rfl rfl rfl ?_
  refine VO.nil ?_
  refine VC.ret ?_
  exact Exists.intro _ (And.intro (RetN.two Tryz.results170 ((by first | exact ResN.cellF (i := 0) Tryz.isAgg104 Tryz.sizeOf104 rfl rfl rfl (flat_ofB rfl))) (ResN.v rfl)) (⟨default, (fun e => by rw [hno] at e; (cases e)), by rw [hno]; rfl⟩))
end Go.Proofs.YtdnlhdilpdeecaaGreatDoor
namespace Go.Proofs.YtdnlhdilpdeecaaGreatDoor
open Go.RowKit
set_option linter.unusedVariables false
set_option linter.unusedSimpArgs false
theorem flat_orT (xs : List OrdrS) : FlatA (rowL xs) := flat_rowL (fun x j hj => by
 match j, hj with
 | 0, _ => exact ⟨_, rfl⟩
 | 1, _ => exact ⟨_, rfl⟩
 | 2, _ => exact ⟨_, rfl⟩
 | 3, _ => exact ⟨_, rfl⟩
 | 4, _ => exact ⟨_, rfl⟩) xs
section
variable {ls : List ByteArray} {en : Bool} {q : Nat}
theorem lob1 (h : okOr (ls.getD q ByteArray.empty) = false) : lnBad (okAt okO1 ls) ls en q = true := by rw [loBad_at, h]; rfl
theorem lob2 (h : en = false) (h2 : q + 1 = ls.length) : lnBad (okAt okO1 ls) ls en q = true := by rw [loBad_at, h, decide_eq_true h2]; simp
theorem lob3 (h : okOr (ls.getD q ByteArray.empty) = true) (h2 : en = true) : lnBad (okAt okO1 ls) ls en q = false := by rw [loBad_at, h, h2]; rfl
theorem lob4 (h : okOr (ls.getD q ByteArray.empty) = true) (h2 : ¬ q + 1 = ls.length) : lnBad (okAt okO1 ls) ls en q = false := by rw [loBad_at, h, decide_eq_false h2]; simp
end
set_option maxRecDepth 100000 in
set_option maxHeartbeats 8000000 in
theorem plan_ReadO {text : ByteArray} (ht : text.size ≤ 900000) :
  SpecN Tryz.prog 68 [avS text] (fun y => y = .tup [avL (orRead text).1, avI (orRead text).2.1, avI (orRead text).2.2]) := by
 refine SpecN.of_VCN Tryz.func68 rfl Tryz.ntmps68 (Nle rfl) fun w A hB => ?_
 have hnew : True := trivial
 refine VC.sr ?_
 refine VO.ma rfl rfl rfl rfl ?_
 refine VO.ma rfl rfl rfl rfl ?_
 refine VO.ma rfl rfl rfl rfl ?_
 refine VO.nil ?_
 refine VC.seq ?_
 refine VC.sr ?_
 refine VO.mv rfl rfl rfl rfl ?_
 refine VO.val rfl rfl (OpV.len_s rfl Tryz.underlying9 rfl) ?_
 refine VO.val rfl rfl (OpV.gtr rfl rfl rfl) ?_
 refine VO.nil ?_
 refine VC.cond rfl (fun h0b => ?_) (fun h0b => ?_)
 ·have h0 := h0b
  try simp only [qqT, qqF, qqN, qqM, qqL, qqE] at h0
  refine VC.sr ?_
  refine VO.ma rfl rfl rfl rfl ?_
  refine VO.ma rfl rfl rfl rfl ?_
  refine VO.ma rfl rfl rfl rfl ?_
  refine VO.nil ?_
  refine VC.ret ?_
  exact Exists.intro _ (And.intro (RetN.three Tryz.results68 (ResN.nilE rfl) (ResN.v rfl) (ResN.v rfl)) (by rw [orRead_2 (by omega)]; rfl))
 ·have h0 := h0b
  try simp only [qqT, qqF, qqN, qqM, qqL, qqE] at h0
  refine VC.skip ?_
  refine VC.sr ?_
  refine VO.mv rfl rfl rfl rfl ?_
  refine VO.op rfl (OpE.call rfl hB rfl Tryz.call105 rfl (kit_Lines (by omega)) ?_)
  rintro _ rfl
  have hll := linesR_length text
  have hlg := linesR_get text
  obtain ⟨ls, hls⟩ : ∃ ls, linesR text = ls := ⟨_, rfl⟩
  obtain ⟨en, hen⟩ : ∃ en, linesE text = en := ⟨_, rfl⟩
  rw [hls] at hll hlg
  have hsm := orOf_Sm (ls := ls) (n := text.size) (by omega) (by omega) hlg
  refine VO.le _ (Le.recast (t := 18) (y := .tup [avStrs ls, avB en]) rfl (fun w Z u h => by rw [← hls, ← hen]; exact h)) ?_
  refine VO.mv rfl rfl rfl rfl ?_
  refine VO.val rfl rfl (OpV.extract rfl rfl rfl) ?_
  refine VO.val rfl rfl (OpV.extract rfl rfl rfl) ?_
  refine VO.ma rfl rfl rfl rfl ?_
  refine VO.ma rfl rfl rfl rfl ?_
  refine VO.nil ?_
  refine VC.sr ?_
  refine VO.ma rfl rfl rfl rfl ?_
  refine VO.nil ?_
  refine VC.seq ?_
  refine VC.sr ?_
  refine VO.mv rfl rfl rfl rfl ?_
  refine VO.val rfl rfl (OpV.len_im rfl Tryz.underlying29 rfl) ?_
  refine VO.mv rfl rfl rfl rfl ?_
  refine VO.nil ?_
  refine VC.block ?_
  refine VC.le _ (Le.nilRow 5 104) ?_
  refine VC.loopK [(5, _), (6, _), (21, _), (22, _)] ⟨rfl, rfl, rfl, rfl, trivial⟩ ({zz : Value × Nat // zz.2 ≤ ls.length ∧ ∀ j, j < zz.2 → lnBad (okAt okO1 ls) ls en j = false}) (fun (iZ : {zz : Value × Nat // zz.2 ≤ ls.length ∧ ∀ j, j < zz.2 → lnBad (okAt okO1 ls) ls en j = false}) => match iZ with | ⟨⟨u, q⟩, hq, hn⟩ => [(7, .v u), (23, avI (q : Int))]) (fun (iZ : {zz : Value × Nat // zz.2 ≤ ls.length ∧ ∀ j, j < zz.2 → lnBad (okAt okO1 ls) ls en j = false}) => match iZ with | ⟨⟨u, q⟩, hq, hn⟩ => [.row u q 5 (rowL ((ls.take q).map orOf)) 104]) (fun (iZ : {zz : Value × Nat // zz.2 ≤ ls.length ∧ ∀ j, j < zz.2 → lnBad (okAt okO1 ls) ls en j = false}) => match iZ with | ⟨⟨u, q⟩, hq, hn⟩ => 0) (fun (iZ : {zz : Value × Nat // zz.2 ≤ ls.length ∧ ∀ j, j < zz.2 → lnBad (okAt okO1 ls) ls en j = false}) => match iZ with | ⟨⟨u, q⟩, hq, hn⟩ => ls.length - q) ⟨(.slice none 0 0, 0), Nat.zero_le _, fun j hj => absurd hj (Nat.not_lt_zero j)⟩ (Le.mk hB [0] ⟨rfl, rfl, rfl, rfl, rfl, rfl, trivial⟩ rfl rfl (Nat.le_refl _)) ?_
  rintro ⟨⟨u, q⟩, hq, hn⟩
  show VC _ _ _ _ ⟨[(7, .v u), (23, avI (q : Int))] ++ [(5, _), (6, _), (21, _), (22, _)], [.row u q 5 (rowL ((ls.take q).map orOf)) 104], 0⟩
  simp only at hq
  refine VC.sr ?_
  refine VO.val rfl rfl (OpV.lss rfl rfl rfl) ?_
  refine VO.nil ?_
  refine VC.seq ?_
  refine VC.cond rfl (fun aH1b => ?_) (fun aH1b => ?_)
  ·have aH1 := aH1b
   try simp only [qqT, qqF, qqN, qqM, qqL, qqE] at aH1
   refine VC.skip ?_
   refine VC.seq ?_
   refine VC.block ?_
   refine VC.sr ?_
   refine VO.mv rfl rfl rfl rfl ?_
   refine VO.val rfl rfl (OpV.indexAddr_1 rfl Tryz.underlying29 Tryz.sizeOf9 rfl rfl rfl (by omega)) ?_
   refine VO.val rfl rfl (OpV.load_at rfl hB OutW.no Tryz.isAgg9 rfl rfl) ?_
   refine VO.ma rfl rfl rfl rfl ?_
   refine VO.ma rfl rfl rfl rfl ?_
   refine VO.nil ?_
   refine VC.sr ?_
   refine VO.mv rfl rfl rfl rfl ?_
   refine VO.op rfl (OpE.call rfl hB rfl Tryz.call170 rfl (SpecN.spec (plan_readLine (Nat.le_trans (hlg q) (by omega)))) ?_)
   rintro _ ⟨x, hx, rfl⟩
   refine VO.mv rfl rfl rfl rfl ?_
   refine VO.val rfl rfl (OpV.extract rfl rfl rfl) ?_
   refine VO.val rfl rfl (OpV.extract rfl rfl rfl) ?_
   refine VO.op rfl (OpE.alloc rfl hB rfl Tryz.zeroValue104 rfl ?_)
   intro g10
   refine VO.op rfl (OpE.store (i := 1) rfl hB rfl Tryz.sizeOf104 rfl rfl rfl rfl rfl rfl (Nle rfl) trivial ?_)
   refine VO.ma rfl rfl rfl rfl ?_
   refine VO.nil ?_
   refine VC.seq ?_
   refine VC.sr ?_
   refine VO.mv rfl rfl rfl rfl ?_
   refine VO.val rfl rfl (OpV.not rfl rfl) ?_
   refine VO.mv rfl rfl rfl rfl ?_
   refine VO.opG rfl rfl rfl rfl (fun aK2b => ?_) (fun aK2b => ?_)
   ·replace aK2b : _ = false := aK2b
    have aK2 := aK2b
    try simp only [qqT, qqF, qqN, qqM, qqL, qqE] at aK2
    refine OpE.val (W := NoB) (OpV.move (.inl rfl) rfl) rfl ?_
    refine VO.opY rfl rfl rfl rfl aK2b ?_
    refine OpE.val (W := NoB) (OpV.not rfl rfl) rfl ?_
    refine VO.opY rfl rfl rfl rfl aK2b ?_
    refine OpE.val (W := NoB) (OpV.move (.inl rfl) rfl) rfl ?_
    refine VO.opG rfl rfl rfl rfl (fun aK3b => ?_) (fun aK3b => ?_)
    ·replace aK3b : _ = true := aK3b
     have aK3 := aK3b
     try simp only [qqT, qqF, qqN, qqM, qqL, qqE] at aK3
     refine OpE.val (W := NoB) (OpV.move (.inl rfl) rfl) rfl ?_
     refine VO.opY rfl rfl rfl rfl aK3b ?_
     refine OpE.val (W := NoB) (OpV.move (.inl rfl) rfl) rfl ?_
     refine VO.opY rfl rfl rfl rfl aK3b ?_
     refine OpE.val (W := NoB) (OpV.len_im rfl Tryz.underlying29 rfl) rfl ?_
     refine VO.opY rfl rfl rfl rfl aK3b ?_
     refine OpE.val (W := NoB) (OpV.sub rfl rfl rfl (by unfold fits; omega)) rfl ?_
     refine VO.opY rfl rfl rfl rfl aK3b ?_
     refine OpE.val (W := NoB) (OpV.eql rfl rfl rfl) rfl ?_
     refine VO.opY rfl rfl rfl rfl aK2b ?_
     refine OpE.val (W := NoB) (OpV.pickT rfl rfl rfl rfl aK3b) rfl ?_
     refine VO.val rfl rfl (OpV.pickF rfl rfl rfl rfl aK2b) ?_
     refine VO.nil ?_
     refine VC.cond rfl (fun h2b => ?_) (fun h2b => ?_)
     ·have h2 := h2b
      try simp only [qqT, qqF, qqN, qqM, qqL, qqE] at h2
      have hsome : orBad text = some q := by show lnF _ _ _ = _; rw [hls, hen]; exact lnF_some (by omega) (lob2 (not_true_false (by assumption)) (by omega)) hn
      refine VC.sr ?_
      refine VO.mv rfl rfl rfl rfl ?_
      refine VO.ma rfl rfl rfl rfl ?_
      refine VO.ma rfl rfl rfl rfl ?_
      refine VO.ma rfl rfl rfl rfl ?_
      refine VO.nil ?_
      refine VC.ret ?_
      exact Exists.intro _ (And.intro (RetN.three Tryz.results68 (ResN.nilE rfl) (ResN.v rfl) (ResN.v rfl)) (by rw [orRead_9 (by omega) hsome]; rfl))
     ·have h2 := h2b
      try simp only [qqT, qqF, qqN, qqM, qqL, qqE] at h2
      have hnb : lnBad (okAt okO1 ls) ls en q = false := lob4 (not_false_true (by assumption)) (by omega)
      obtain rfl := hx (not_false_true (by assumption))
      refine VC.skip ?_
      refine VC.region ?_
      refine VO.mv rfl rfl rfl rfl ?_
      refine VO.val rfl rfl (OpV.loadK_own (i := 1) rfl hB Tryz.isAgg104 Tryz.sizeOf104 rfl rfl rfl (fun h => h)) ?_
      refine VO.op rfl (OpE.buildSlice (zc := #[.string ⟨#[]⟩, .string ⟨#[]⟩, .int .i64 0, .int .i64 0, .int .i64 0]) rfl hB rfl Tryz.underlying95 Tryz.sizeOf104 Tryz.zeroValue104 (by decide) (by decide) (by kernel_rfl) rfl rfl ?_)
      refine VO.op rfl (OpE.append1 (i := 0) rfl hB rfl Tryz.underlying95 (infoOf Tryz.t104 5 (by kernel_rfl) rfl rfl) rfl (by decide) (by decide) rfl rfl rfl rfl (rowL_snoc _ (orOf (ls.getD q ByteArray.empty))) (by omega) (fun _ _ => trivial) ?_)
      intro u50
      refine VO.ma rfl rfl rfl rfl ?_
      refine VO.nil ?_
      refine VC.region ?_
      refine VO.val rfl rfl (OpV.add rfl rfl rfl (by unfold fits; omega)) ?_
      refine VO.mv rfl rfl rfl rfl ?_
      refine VO.nil ?_
      exact Exists.intro (⟨(u50, q + 1), by show _ ≤ _; omega, lt_succ_cases hn (by assumption)⟩) (And.intro (Le.mk hB [0] ⟨rfl, rfl, rfl, rfl, rfl, rfl, trivial⟩ rfl (by dsimp only; rw [orMap_take (by omega)]; rfl) (Nat.le_refl _)) (by first | omega | (show _ < _; omega) | (simp only []; omega)))
    ·replace aK3b : _ = false := aK3b
     have aK3 := aK3b
     try simp only [qqT, qqF, qqN, qqM, qqL, qqE] at aK3
     refine VO.opX rfl rfl rfl rfl aK3b ?_
     refine VO.opX rfl rfl rfl rfl aK3b ?_
     refine VO.opX rfl rfl rfl rfl aK3b ?_
     refine VO.opX rfl rfl rfl rfl aK3b ?_
     refine VO.opY rfl rfl rfl rfl aK2b ?_
     refine OpE.val (W := NoB) (OpV.pickF rfl rfl rfl rfl aK3b) rfl ?_
     refine VO.val rfl rfl (OpV.pickF rfl rfl rfl rfl aK2b) ?_
     refine VO.nil ?_
     refine VC.condF rfl rfl ?_
     have hnb : lnBad (okAt okO1 ls) ls en q = false := lob3 (not_false_true (by assumption)) (not_false_true (by assumption))
     obtain rfl := hx (not_false_true (by assumption))
     refine VC.skip ?_
     refine VC.region ?_
     refine VO.mv rfl rfl rfl rfl ?_
     refine VO.val rfl rfl (OpV.loadK_own (i := 1) rfl hB Tryz.isAgg104 Tryz.sizeOf104 rfl rfl rfl (fun h => h)) ?_
     refine VO.op rfl (OpE.buildSlice (zc := #[.string ⟨#[]⟩, .string ⟨#[]⟩, .int .i64 0, .int .i64 0, .int .i64 0]) rfl hB rfl Tryz.underlying95 Tryz.sizeOf104 Tryz.zeroValue104 (by decide) (by decide) (by kernel_rfl) rfl rfl ?_)
     refine VO.op rfl (OpE.append1 (i := 0) rfl hB rfl Tryz.underlying95 (infoOf Tryz.t104 5 (by kernel_rfl) rfl rfl) rfl (by decide) (by decide) rfl rfl rfl rfl (rowL_snoc _ (orOf (ls.getD q ByteArray.empty))) (by omega) (fun _ _ => trivial) ?_)
     intro u50
     refine VO.ma rfl rfl rfl rfl ?_
     refine VO.nil ?_
     refine VC.region ?_
     refine VO.val rfl rfl (OpV.add rfl rfl rfl (by unfold fits; omega)) ?_
     refine VO.mv rfl rfl rfl rfl ?_
     refine VO.nil ?_
     exact Exists.intro (⟨(u50, q + 1), by show _ ≤ _; omega, lt_succ_cases hn (by assumption)⟩) (And.intro (Le.mk hB [0] ⟨rfl, rfl, rfl, rfl, rfl, rfl, trivial⟩ rfl (by dsimp only; rw [orMap_take (by omega)]; rfl) (Nat.le_refl _)) (by first | omega | (show _ < _; omega) | (simp only []; omega)))
   ·replace aK2b : _ = true := aK2b
    have aK2 := aK2b
    try simp only [qqT, qqF, qqN, qqM, qqL, qqE] at aK2
    refine VO.opX rfl rfl rfl rfl aK2b ?_
    refine VO.opX rfl rfl rfl rfl aK2b ?_
    refine VO.opU rfl rfl rfl rfl ?_
    refine VO.opU rfl rfl rfl rfl ?_
    refine VO.opU rfl rfl rfl rfl ?_
    refine VO.opU rfl rfl rfl rfl ?_
    refine VO.opU rfl rfl rfl rfl ?_
    refine VO.opX rfl rfl rfl rfl aK2b ?_
    refine VO.val rfl rfl (OpV.pickT rfl rfl rfl rfl aK2b) ?_
    refine VO.nil ?_
    refine VC.condT rfl rfl ?_
    have hsome : orBad text = some q := by show lnF _ _ _ = _; rw [hls, hen]; exact lnF_some (by omega) (lob1 (not_true_false (by assumption))) hn
    refine VC.sr ?_
    refine VO.mv rfl rfl rfl rfl ?_
    refine VO.ma rfl rfl rfl rfl ?_
    refine VO.ma rfl rfl rfl rfl ?_
    refine VO.ma rfl rfl rfl rfl ?_
    refine VO.nil ?_
    refine VC.ret ?_
    exact Exists.intro _ (And.intro (RetN.three Tryz.results68 (ResN.nilE rfl) (ResN.v rfl) (ResN.v rfl)) (by rw [orRead_9 (by omega) hsome]; rfl))
  ·have aH1 := aH1b
   try simp only [qqT, qqF, qqN, qqM, qqL, qqE] at aH1
   obtain rfl : q = ls.length := by omega
   have hnone : orBad text = none := by show lnF _ _ _ = _; rw [hls, hen]; exact lnF_none hn
   rw [List.take_length]
   refine VC.exit ?_
   refine VC.seq ?_
   refine VC.sr ?_
   refine VO.mv rfl rfl rfl rfl ?_
   refine VO.op rfl (OpE.callL rfl hB rfl Tryz.call168 (plan_CheckOrders hsm) (ArgsP.cons (ArgP.rowT (i := 0) (xs := ls.map orOf) rfl rfl (by rw [List.length_map])) (ArgsP.nil)) ?_)
   rintro _ rfl
   refine VO.ma rfl rfl rfl rfl ?_
   refine VO.nil ?_
   refine VC.sr ?_
   refine VO.mv rfl rfl rfl rfl ?_
   refine VO.val rfl rfl (OpV.neq rfl rfl rfl) ?_
   refine VO.nil ?_
   refine VC.cond rfl (fun h3b => ?_) (fun h3b => ?_)
   ·have h3 := h3b
    try simp only [qqT, qqF, qqN, qqM, qqL, qqE] at h3
    refine VC.sr ?_
    refine VO.mv rfl rfl rfl rfl ?_
    refine VO.ma rfl rfl rfl rfl ?_
    refine VO.ma rfl rfl rfl rfl ?_
    refine VO.ma rfl rfl rfl rfl ?_
    refine VO.nil ?_
    refine VC.ret ?_
    exact Exists.intro _ (And.intro (RetN.three Tryz.results68 (ResN.nilE rfl) (ResN.v rfl) (ResN.v rfl)) (by rw [orRead_e (by omega) hnone (by rw [hls]; exact h3), hls]; rfl))
   ·have h3 := h3b
    try simp only [qqT, qqF, qqN, qqM, qqL, qqE] at h3
    refine VC.skip ?_
    refine VC.sr ?_
    refine VO.mv rfl rfl rfl rfl ?_
    refine VO.ma rfl rfl rfl rfl ?_
    refine VO.ma rfl rfl rfl rfl ?_
    refine VO.ma rfl rfl rfl rfl ?_
    refine VO.nil ?_
    refine VC.ret ?_
    exact Exists.intro _ (And.intro (RetN.three Tryz.results68 (ResN.rowT (i := 0) (xs := ls.map orOf) rfl rfl (by rw [List.length_map]) (flat_orT _)) (ResN.v rfl) (ResN.v rfl)) (by rw [orRead_0 (by omega) hnone (by rw [hls]; omega), hls]))
end Go.Proofs.YtdnlhdilpdeecaaGreatDoor
namespace Go.Proofs.YtdnlhdilpdeecaaGreatDoor
open Go.RowKit
set_option linter.unusedVariables false
set_option linter.unusedSimpArgs false
def TakesX (TX : List Ent → World → Prop) (K : List ByteArray → List Ent → Prop) (ok : List ByteArray → ByteArray → Bool) (n : Nat) (P : Program) (F : FuncId) (caps : Array Value) : Prop :=
 ∀ pre line h, K pre h → line.size ≤ n → pre.length ≤ n → SpecHX TX P F ([avS line] ++ caps.toList.map .v) h (fun y hp' => y = avB (ok pre line) ∧ K (pre ++ [line]) hp')
set_option maxRecDepth 100000 in
theorem rf_Lines {TX : List Ent → World → Prop} {text : ByteArray} {F : FuncId} {caps : Array Value} {K : List ByteArray → List Ent → Prop} {ok : List ByteArray → ByteArray → Bool} {h0 : List Ent} (hst : StabX TX) (hs : text.size ≤ 10000000) (hcall : ∀ us w, (callFunc F us).run Tryz.prog w = .ok (.enter F us) w) (hF : TakesX TX K ok text.size Tryz.prog F caps) (hk : K [] h0) :
  SpecHX TX Tryz.prog 108 [avS text, .v (.func (.func F) #[] caps)] h0 (fun y hp' => ∃ pre, K pre hp' ∧ y = lnY (lnF (okAt ok (linesR text)) (linesR text) (linesE text)) ∧ (lnF (okAt ok (linesR text)) (linesR text) (linesE text) = none → pre = linesR text)) := by
 refine SpecHX.of_VC hst Tryz.func108 rfl Tryz.ntmps108 (Nle rfl) fun w A hB hGX => ?_
 have hnew : True := trivial
 refine VC.sr ?_
 refine VO.ma rfl rfl rfl rfl ?_
 refine VO.ma rfl rfl rfl rfl ?_
 refine VO.nil ?_
 refine VC.seq ?_
 refine VC.sr ?_
 refine VO.ma rfl rfl rfl rfl ?_
 refine VO.nil ?_
 refine VC.block ?_
 refine VC.loopK [(1, _)] ⟨rfl, trivial⟩ ({t : ByteArray × List ByteArray × List Ent // LnI ok text t.2.1 t.1 ∧ K t.2.1 t.2.2}) (fun (iZ : {t : ByteArray × List ByteArray × List Ent // LnI ok text t.2.1 t.1 ∧ K t.2.1 t.2.2}) => match iZ with | ⟨⟨r, pre, hh⟩, hi, hkk⟩ => [(0, avS r), (6, avI (pre.length : Int))]) (fun (iZ : {t : ByteArray × List ByteArray × List Ent // LnI ok text t.2.1 t.1 ∧ K t.2.1 t.2.2}) => match iZ with | ⟨⟨r, pre, hh⟩, hi, hkk⟩ => hh) (fun (iZ : {t : ByteArray × List ByteArray × List Ent // LnI ok text t.2.1 t.1 ∧ K t.2.1 t.2.2}) => match iZ with | ⟨⟨r, pre, hh⟩, hi, hkk⟩ => 0) (fun (iZ : {t : ByteArray × List ByteArray × List Ent // LnI ok text t.2.1 t.1 ∧ K t.2.1 t.2.2}) => match iZ with | ⟨⟨r, pre, hh⟩, hi, hkk⟩ => r.size) ⟨(text, [], h0), LnI.start text, hk⟩ (Le.mkP hB ⟨rfl, rfl, rfl, trivial⟩ (List.Sublist.refl _) (List.Perm.refl _) (Nat.le_refl _)) ?_
 rintro ⟨⟨r, pre, hh⟩, hi, hkk⟩
 show VC _ _ _ _ ⟨[(0, avS r), (6, avI (pre.length : Int))] ++ [(1, _)], hh, 0⟩
 simp only at hi hkk
 have hsz := hi.size
 refine VC.seq ?_
 refine VC.sr ?_
 refine VO.mv rfl rfl rfl rfl ?_
 refine VO.val rfl rfl (OpV.sneq rfl rfl rfl) ?_
 refine VO.nil ?_
 refine VC.cond rfl (fun aH1b => ?_) (fun aH1b => ?_)
 ·have aH1 := aH1b
  try simp only [qqT, qqF, qqN, qqM, qqL, qqE] at aH1
  refine VC.skip ?_
  refine VC.seq ?_
  refine VC.block ?_
  refine VC.sr ?_
  refine VO.mv rfl rfl rfl rfl ?_
  refine VO.op rfl (OpE.call rfl hB rfl Tryz.call195 rfl (SpecN.spec (strings_CutB (c := 10) (by omega))) ?_)
  rintro _ rfl
  obtain ⟨ln, hln⟩ : ∃ ln, cutA 10 r = ln := ⟨_, rfl⟩
  obtain ⟨rb, hrb⟩ : ∃ rb, cutB 10 r = rb := ⟨_, rfl⟩
  obtain ⟨fd, hfd⟩ : ∃ fd, cutF 10 r = fd := ⟨_, rfl⟩
  have hls := cutA_size 10 r
  rw [hln] at hls
  refine VO.le _ (Le.recast (t := 16) (y := .tup [avS ln, avS rb, avB fd]) rfl (fun w Z u h => by rw [← hln, ← hrb, ← hfd]; exact h)) ?_
  refine VO.mv rfl rfl rfl rfl ?_
  refine VO.val rfl rfl (OpV.extract rfl rfl rfl) ?_
  refine VO.val rfl rfl (OpV.extract rfl rfl rfl) ?_
  refine VO.val rfl rfl (OpV.extract rfl rfl rfl) ?_
  refine VO.ma rfl rfl rfl rfl ?_
  refine VO.ma rfl rfl rfl rfl ?_
  refine VO.ma rfl rfl rfl rfl ?_
  refine VO.nil ?_
  refine VC.seq ?_
  refine VC.sr ?_
  refine VO.mv rfl rfl rfl rfl ?_
  refine VO.val rfl rfl (OpV.not rfl rfl) ?_
  refine VO.mv rfl rfl rfl rfl ?_
  refine VO.opG rfl rfl rfl rfl (fun aK2b => ?_) (fun aK2b => ?_)
  ·replace aK2b : _ = false := aK2b
   have aK2 := aK2b
   try simp only [qqT, qqF, qqN, qqM, qqL, qqE] at aK2
   refine OpE.val (W := NoB) (OpV.move (.inl rfl) rfl) rfl ?_
   refine VO.opY rfl rfl rfl rfl aK2b ?_
   refine OpE.val (W := NoB) (OpV.move (.inl rfl) rfl) rfl ?_
   refine VO.opY rfl rfl rfl rfl aK2b ?_
   refine OpE.callHX0 hst hGX rfl hB rfl hcall rfl rfl (hF pre ln hh hkk (by omega) (by omega)) (List.Perm.refl _) (fun _ _ => trivial) ?_
   rintro _ hh2 ⟨rfl, hk2⟩
   refine VO.opY rfl rfl rfl rfl aK2b ?_
   refine OpE.val (W := NoB) (OpV.not rfl rfl) rfl ?_
   refine VO.val rfl rfl (OpV.pickF rfl rfl rfl rfl aK2b) ?_
   refine VO.nil ?_
   refine VC.cond rfl (fun h1b => ?_) (fun h1b => ?_)
   ·have h1 := h1b
    try simp only [qqT, qqF, qqN, qqM, qqL, qqE] at h1
    refine VC.sr ?_
    refine VO.mv rfl rfl rfl rfl ?_
    refine VO.ma rfl rfl rfl rfl ?_
    refine VO.ma rfl rfl rfl rfl ?_
    refine VO.nil ?_
    refine VC.ret ?_
    exact Exists.intro _ (And.intro (RetV.two Tryz.results108 (ResV.tmp rfl) (ResV.tmp rfl)) (by first | exact ⟨pre, hkk, by rw [hi.bad1 (by simp_all) (by rw [hfd]; simp_all)]; rfl, fun e => by rw [hi.bad1 (by simp_all) (by rw [hfd]; simp_all)] at e; cases e⟩ | exact ⟨pre ++ [ln], hk2, by rw [hi.bad2 (by rw [hfd]; simp_all) (by rw [hln]; simp_all)]; rfl, fun e => by rw [hi.bad2 (by rw [hfd]; simp_all) (by rw [hln]; simp_all)] at e; cases e⟩))
   ·have h1 := h1b
    try simp only [qqT, qqF, qqN, qqM, qqL, qqE] at h1
    have hfd1 : cutF 10 r = true := by rw [hfd]; simp_all
    have hok1 : ok pre (cutA 10 r) = true := by rw [hln]; simp_all
    have hi2 : LnI ok text (pre ++ [ln]) rb := by have h := hi.step hfd1 hok1; rw [hln, hrb] at h; exact h
    have hrs : rb.size < r.size := by have h := cut_sizes hfd1; rw [hrb] at h; omega
    refine VC.skip ?_
    refine VC.region ?_
    refine VO.mv rfl rfl rfl rfl ?_
    refine VO.ma rfl rfl rfl rfl ?_
    refine VO.nil ?_
    refine VC.region ?_
    refine VO.mv rfl rfl rfl rfl ?_
    refine VO.val rfl rfl (OpV.add rfl rfl rfl (by unfold fits; omega)) ?_
    refine VO.ma rfl rfl rfl rfl ?_
    refine VO.nil ?_
    exact Exists.intro (⟨(rb, pre ++ [ln], hh2), hi2, hk2⟩) (And.intro (Le.mkP hB ⟨rfl, (by rw [List.length_append]; rfl), rfl, trivial⟩ (List.Sublist.refl _) (List.Perm.refl _) (Nat.le_refl _)) (by first | omega | (show _ < _; omega) | (simp only []; omega)))
  ·replace aK2b : _ = true := aK2b
   have aK2 := aK2b
   try simp only [qqT, qqF, qqN, qqM, qqL, qqE] at aK2
   refine VO.opX rfl rfl rfl rfl aK2b ?_
   refine VO.opX rfl rfl rfl rfl aK2b ?_
   refine VO.opX rfl rfl rfl rfl aK2b ?_
   refine VO.val rfl rfl (OpV.pickT rfl rfl rfl rfl aK2b) ?_
   refine VO.nil ?_
   refine VC.condT rfl rfl ?_
   refine VC.sr ?_
   refine VO.mv rfl rfl rfl rfl ?_
   refine VO.ma rfl rfl rfl rfl ?_
   refine VO.ma rfl rfl rfl rfl ?_
   refine VO.nil ?_
   refine VC.ret ?_
   exact Exists.intro _ (And.intro (RetV.two Tryz.results108 (ResV.tmp rfl) (ResV.tmp rfl)) (by first | exact ⟨pre, hkk, by rw [hi.bad1 (by simp_all) (by rw [hfd]; simp_all)]; rfl, fun e => by rw [hi.bad1 (by simp_all) (by rw [hfd]; simp_all)] at e; cases e⟩ | exact ⟨pre ++ [ln], hk2, by rw [hi.bad2 (by rw [hfd]; simp_all) (by rw [hln]; simp_all)]; rfl, fun e => by rw [hi.bad2 (by rw [hfd]; simp_all) (by rw [hln]; simp_all)] at e; cases e⟩))
 ·have aH1 := aH1b
  try simp only [qqT, qqF, qqN, qqM, qqL, qqE] at aH1
  refine VC.exit ?_
  refine VC.sr ?_
  refine VO.ma rfl rfl rfl rfl ?_
  refine VO.ma rfl rfl rfl rfl ?_
  refine VO.nil ?_
  refine VC.ret ?_
  exact Exists.intro _ (And.intro (RetV.two Tryz.results108 (ResV.tmp rfl) (ResV.tmp rfl)) (⟨pre, hkk, by rw [(hi.fin (by simp_all)).1]; rfl, fun _ => (hi.fin (by simp_all)).2⟩))
end Go.Proofs.YtdnlhdilpdeecaaGreatDoor
namespace Go.Proofs.YtdnlhdilpdeecaaGreatDoor
open Go.RowKit
set_option linter.unusedVariables false
set_option linter.unusedSimpArgs false
theorem tab_stab : StabX (TabX Tryz.prog) := by
 obtain ⟨g, hg⟩ := tab_named
 exact TabX.stab hg
theorem tabx_base {w : World} {A : Nat → Prop} {nt : Nat} (h : TabW Tryz.prog w) : ∀ s a w', R (B0 w A nt) s a w' → TabX Tryz.prog s.hp w' := by
 obtain ⟨g, hg⟩ := tab_named
 exact TabX.base hg h
theorem sEq_flip (a b : ByteArray) : sEq a b = sEq b a := by
 rw [Bool.eq_iff_iff, sEq_eq, sEq_eq]
 exact ⟨Eq.symm, Eq.symm⟩
theorem wordsB_any (s : ByteArray) : (!((splitS 32 s).any fun y => sEq ⟨#[]⟩ y)) = wordsB s := by
 unfold wordsB
 induction splitS 32 s with
 | nil => rfl
 | cons x l ih => rw [List.any_cons, List.all_cons, ← ih, sEq_flip x]; simp
abbrev bxLk (g : Nat) (u : Value) : Ent := .box g ⟨[.v u], 54, 1⟩
abbrev rwLk (u : Value) (xs : List LookS) : Ent := .row u xs.length 8 (rowL xs) 80
def KLk (g : Nat) (pre : List ByteArray) (h : List Ent) : Prop := ∃ u xs, h = [bxLk g u, rwLk u xs] ∧ ((∀ x ∈ pre, okLk x = true) → xs = pre.map lkOf) ∧ xs.length ≤ pre.length
theorem KLk.nil (g : Nat) : KLk g [] [bxLk g (.slice none 0 0), .row (.slice none 0 0) 0 8 [] 80] := ⟨_, [], rfl, fun _ => rfl, Nat.le_refl _⟩
end Go.Proofs.YtdnlhdilpdeecaaGreatDoor
namespace Go.Proofs.YtdnlhdilpdeecaaGreatDoor
open Go.RowKit
set_option linter.unusedVariables false
set_option linter.unusedSimpArgs false
abbrev bxOr (g : Nat) (u : Value) : Ent := .box g ⟨[.v u], 95, 1⟩
abbrev rwOr (u : Value) (xs : List OrdrS) : Ent := .row u xs.length 5 (rowL xs) 104
theorem lenSo (xs : List OrdrS) (y : OrdrS) : xs.length + 1 = (xs ++ [y]).length := by simp
theorem rwOr_eq {g n : Nat} {u : Value} {xs : List OrdrS} (h : n = xs.length) : [bxOr g u, .row u n 5 (rowL xs) 104] = [bxOr g u, rwOr u xs] := by subst h; rfl
set_option maxRecDepth 100000 in
set_option maxHeartbeats 8000000 in
theorem rf_OrdersRead1 {s : ByteArray} {g : Nat} {u : Value} {xs : List OrdrS} (hs : s.size ≤ 10000000) (hl : xs.length ≤ 10000000) :
  SpecHX (TabX Tryz.prog) Tryz.prog 171 [avS s, pt g] [bxOr g u, rwOr u xs] (fun y hp' => ∃ u' xs', y = avB (okOr s) ∧ hp' = [bxOr g u', rwOr u' xs'] ∧ (okOr s = true → xs' = xs ++ [orOf s]) ∧ xs'.length ≤ xs.length + 1) := by
 refine SpecHX.of_VC tab_stab Tryz.func171 rfl Tryz.ntmps171 (Nle rfl) fun w A hB hGX => ?_
 have hG : ∀ {s a w'}, R _ s a w' → TabW Tryz.prog w' := fun hr => (hGX _ _ _ hr).1
 have hnew : True := trivial
 refine VC.sr ?_
 refine VO.ma rfl rfl rfl rfl ?_
 refine VO.nil ?_
 refine VC.seq ?_
 have hwz := splitS_get 32 s
 have hwl := splitS_length 32 s
 refine VC.region ?_
 refine VO.mv rfl rfl rfl rfl ?_
 refine VO.op rfl (OpE.call rfl hB rfl Tryz.call163 rfl (rf_Words (by omega)) ?_)
 rintro _ rfl
 obtain ⟨wb, hwb⟩ : ∃ wb, wordsB s = wb := ⟨_, rfl⟩
 obtain ⟨ws, hws⟩ : ∃ ws, splitS 32 s = ws := ⟨_, rfl⟩
 refine VO.le _ (Le.recast (t := 10) (y := .tup [avStrs ws, avB wb]) rfl (fun w Z u h => by rw [← hwb, ← wordsB_any, ← hws]; exact h)) ?_
 have hwz2 : ∀ i, (ws.getD i ByteArray.empty).size ≤ s.size := by rw [← hws]; exact hwz
 have hwl2 : ws.length ≤ s.size + 1 := by rw [← hws]; exact hwl
 refine VO.mv rfl rfl rfl rfl ?_
 refine VO.val rfl rfl (OpV.extract rfl rfl rfl) ?_
 refine VO.val rfl rfl (OpV.extract rfl rfl rfl) ?_
 refine VO.ma rfl rfl rfl rfl ?_
 refine VO.ma rfl rfl rfl rfl ?_
 refine VO.nil ?_
 refine VC.seq ?_
 refine VC.sr ?_
 refine VO.mv rfl rfl rfl rfl ?_
 refine VO.val rfl rfl (OpV.not rfl rfl) ?_
 refine VO.mv rfl rfl rfl rfl ?_
 refine VO.opG rfl rfl rfl rfl (fun aK1b => ?_) (fun aK1b => ?_)
 ·replace aK1b : _ = false := aK1b
  have aK1 := aK1b
  try simp only [qqT, qqF, qqN, qqM, qqL, qqE] at aK1
  refine OpE.val (W := NoB) (OpV.move (.inl rfl) rfl) rfl ?_
  refine VO.opY rfl rfl rfl rfl aK1b ?_
  refine OpE.val (W := NoB) (OpV.len_im rfl Tryz.underlying29 rfl) rfl ?_
  refine VO.opY rfl rfl rfl rfl aK1b ?_
  refine OpE.val (W := NoB) (OpV.neq rfl rfl rfl) rfl ?_
  refine VO.val rfl rfl (OpV.pickF rfl rfl rfl rfl aK1b) ?_
  refine VO.nil ?_
  refine VC.cond rfl (fun h0b => ?_) (fun h0b => ?_)
  ·have h0 := h0b
   try simp only [qqT, qqF, qqN, qqM, qqL, qqE] at h0
   have hno : okOr s = false := okOr_no (.inr (by rw [hws]; omega))
   refine VC.sr ?_
   refine VO.ma rfl rfl rfl rfl ?_
   refine VO.nil ?_
   refine VC.ret ?_
   exact Exists.intro _ (And.intro (RetV.one Tryz.results171 (ResV.tmp rfl)) (⟨u, xs, by rw [hno], rfl, (fun e => by rw [hno] at e; (cases e)), Nat.le_succ _⟩))
  ·have h0 := h0b
   try simp only [qqT, qqF, qqN, qqM, qqL, qqE] at h0
   have hl5 : ws.length = 5 := by omega
   obtain ⟨wd, hwd⟩ : ∃ wd, ws.drop 2 = wd := ⟨_, rfl⟩
   have hd3 : wd.length = 3 := by rw [← hwd, List.length_drop]; omega
   have hdz : ∀ i, (wd.getD i ByteArray.empty).size ≤ s.size := fun i => by
    rw [← hwd, List.getD_eq_getElem?_getD, List.getElem?_drop, ← List.getD_eq_getElem?_getD]; exact hwz2 _
   have hok : okOr s = numsRB wd wd.length := by
    have h := okOr_5 (s := s) (by rw [hwb]; exact not_false_true (by assumption)) (by rw [hws]; exact hl5)
    rw [hws, hwd, nums_same] at h
    exact h
   obtain ⟨nb, hnb⟩ : ∃ nb, numsRB wd wd.length = nb := ⟨_, rfl⟩
   obtain ⟨ns, hns⟩ : ∃ ns, numsRV wd wd.length = ns := ⟨_, rfl⟩
   have hnl : ns.length = 3 := by rw [← hns, numsRV_len (Nat.le_refl _), hd3]
   rw [hnb] at hok
   refine VC.skip ?_
   refine VC.sr ?_
   refine VO.mv rfl rfl rfl rfl ?_
   refine VO.val rfl rfl (OpV.slice_strs (l := 2) rfl Tryz.underlying29 Tryz.sizeOf9 rfl ⟨_, _, rfl, rfl⟩ rfl (by omega) (by omega)) ?_
   refine VO.le _ (Le.recast (t := 22) (y := avStrs wd) rfl (fun w Z u h => by rw [← hwd]; first | exact h | (simp only [List.take_length] at h; exact h))) ?_
   refine VO.op rfl (OpE.callW rfl hB rfl Tryz.call164 rfl (rf_NumbersIn (l := wd) (by omega) (fun i => Nat.le_trans (hdz i) (by omega))) hG ?_)
   rintro _ rfl
   refine VO.le _ (Le.recast (t := 23) (y := .tup [avInts ns, avB nb]) rfl (fun w Z u h => by rw [← hnb, ← hns]; exact h)) ?_
   refine VO.mv rfl rfl rfl rfl ?_
   refine VO.val rfl rfl (OpV.extract rfl rfl rfl) ?_
   refine VO.val rfl rfl (OpV.extract rfl rfl rfl) ?_
   refine VO.ma rfl rfl rfl rfl ?_
   refine VO.ma rfl rfl rfl rfl ?_
   refine VO.nil ?_
   refine VC.seq ?_
   obtain ⟨yy, hyy⟩ : ∃ yy : OrdrS, yy = ⟨ws.getD 0 ByteArray.empty, ws.getD 1 ByteArray.empty, ns.getD 0 0, ns.getD 1 0, ns.getD 2 0⟩ := ⟨_, rfl⟩
   have hyl : okOr s = true → yy = orOf s := fun e => by
    rw [hok] at e
    have e2 := numsV_same (l := wd) (by rw [nums_same, hnb, e])
    rw [hyy]
    unfold orOf w8 n3
    rw [hws, hwd, e2, hns]
   refine VC.draw (fun j b => (j = 18 ∧ u.ownBlock = some b) ∨ (j = 19 ∧ b = g)) hB (by kernel_rfl) ?_
   refine VA.takeT [0, 18, 19] (i := 0) (by kernel_rfl) (by kernel_rfl) rfl (by kernel_rfl) (by kernel_rfl) (by kernel_rfl) rfl rfl (OpV.load_own (i := 0) rfl hB Tryz.isAgg95 rfl rfl rfl (fun ⟨j, h1, h2⟩ => by rcases h2 with ⟨rfl, _⟩ | ⟨rfl, _⟩ <;> cases h1)) ?_
   refine VA.take (i := 1) rfl (by kernel_rfl) (by kernel_rfl) (by kernel_rfl) rfl rfl (OpV.move (.inl rfl) rfl) ?_
   refine VA.take (i := 2) rfl (by kernel_rfl) (by kernel_rfl) (by kernel_rfl) rfl rfl (OpV.indexAddr_1 rfl Tryz.underlying29 Tryz.sizeOf9 rfl rfl (Int.toNat_of_nonneg (by omega)).symm (by omega)) ?_
   refine VA.takeT [3, 16, 17, 18, 19] (i := 3) (by kernel_rfl) (by kernel_rfl) rfl (by kernel_rfl) (by kernel_rfl) (by kernel_rfl) rfl rfl (OpV.load_at rfl hB (fun b ⟨j, h1, h2⟩ => by rcases h2 with ⟨rfl, _⟩ | ⟨rfl, _⟩ <;> cases h1) Tryz.isAgg9 rfl rfl) ?_
   refine VA.take (i := 4) rfl (by kernel_rfl) (by kernel_rfl) (by kernel_rfl) rfl rfl (OpV.move (.inl rfl) rfl) ?_
   refine VA.take (i := 5) rfl (by kernel_rfl) (by kernel_rfl) (by kernel_rfl) rfl rfl (OpV.indexAddr_1 rfl Tryz.underlying29 Tryz.sizeOf9 rfl rfl (Int.toNat_of_nonneg (by omega)).symm (by omega)) ?_
   refine VA.takeT [6, 16, 17, 18, 19] (i := 6) (by kernel_rfl) (by kernel_rfl) rfl (by kernel_rfl) (by kernel_rfl) (by kernel_rfl) rfl rfl (OpV.load_at rfl hB (fun b ⟨j, h1, h2⟩ => by rcases h2 with ⟨rfl, _⟩ | ⟨rfl, _⟩ <;> cases h1) Tryz.isAgg9 rfl rfl) ?_
   refine VA.take (i := 7) rfl (by kernel_rfl) (by kernel_rfl) (by kernel_rfl) rfl rfl (OpV.move (.inl rfl) rfl) ?_
   refine VA.take (i := 8) rfl (by kernel_rfl) (by kernel_rfl) (by kernel_rfl) rfl rfl (OpV.indexAddr_1 rfl Tryz.underlying22 Tryz.sizeOf3 rfl rfl (Int.toNat_of_nonneg (by omega)).symm (by omega)) ?_
   refine VA.takeT [9, 16, 17, 18, 19] (i := 9) (by kernel_rfl) (by kernel_rfl) rfl (by kernel_rfl) (by kernel_rfl) (by kernel_rfl) rfl rfl (OpV.load_at rfl hB (fun b ⟨j, h1, h2⟩ => by rcases h2 with ⟨rfl, _⟩ | ⟨rfl, _⟩ <;> cases h1) Tryz.isAgg3 rfl rfl) ?_
   refine VA.take (i := 10) rfl (by kernel_rfl) (by kernel_rfl) (by kernel_rfl) rfl rfl (OpV.move (.inl rfl) rfl) ?_
   refine VA.take (i := 11) rfl (by kernel_rfl) (by kernel_rfl) (by kernel_rfl) rfl rfl (OpV.indexAddr_1 rfl Tryz.underlying22 Tryz.sizeOf3 rfl rfl (Int.toNat_of_nonneg (by omega)).symm (by omega)) ?_
   refine VA.takeT [12, 16, 17, 18, 19] (i := 12) (by kernel_rfl) (by kernel_rfl) rfl (by kernel_rfl) (by kernel_rfl) (by kernel_rfl) rfl rfl (OpV.load_at rfl hB (fun b ⟨j, h1, h2⟩ => by rcases h2 with ⟨rfl, _⟩ | ⟨rfl, _⟩ <;> cases h1) Tryz.isAgg3 rfl rfl) ?_
   refine VA.take (i := 13) rfl (by kernel_rfl) (by kernel_rfl) (by kernel_rfl) rfl rfl (OpV.move (.inl rfl) rfl) ?_
   refine VA.take (i := 14) rfl (by kernel_rfl) (by kernel_rfl) (by kernel_rfl) rfl rfl (OpV.indexAddr_1 rfl Tryz.underlying22 Tryz.sizeOf3 rfl rfl (Int.toNat_of_nonneg (by omega)).symm (by omega)) ?_
   refine VA.takeT [15, 16, 17, 18, 19] (i := 15) (by kernel_rfl) (by kernel_rfl) rfl (by kernel_rfl) (by kernel_rfl) (by kernel_rfl) rfl rfl (OpV.load_at rfl hB (fun b ⟨j, h1, h2⟩ => by rcases h2 with ⟨rfl, _⟩ | ⟨rfl, _⟩ <;> cases h1) Tryz.isAgg3 rfl rfl) ?_
   refine VA.take (i := 16) rfl (by kernel_rfl) (by kernel_rfl) (by kernel_rfl) rfl rfl (OpV.build (pls := #[(0, 1), (1, 1), (2, 1), (3, 1), (4, 1)]) rfl Tryz.zeroValue104 Tryz.underlying104 (fun w => by kernel_rfl) rfl rfl) ?_
   refine VA.le _ (Le.recast (t := 42) (y := avT yy) rfl (fun w Z u h => by rw [hyy]; exact h)) ?_
   refine VA.all (rs := [17]) (by kernel_rfl) (by decide) ?_
   refine ⟨⟨_, rfl, .inl rfl, ?_⟩, trivial⟩
   refine OpE.buildSlice (zc := #[.string ⟨#[]⟩, .string ⟨#[]⟩, .int .i64 0, .int .i64 0, .int .i64 0]) rfl hB rfl Tryz.underlying95 Tryz.sizeOf104 Tryz.zeroValue104 (by decide) (by decide) (by kernel_rfl) rfl rfl ?_
   refine VA.all (rs := [18]) (by kernel_rfl) (by decide) ?_
   refine ⟨⟨_, rfl, .inl rfl, ?_⟩, trivial⟩
   refine OpE.append1S (i := 1) rfl hB rfl Tryz.underlying95 (infoOf Tryz.t104 5 (by kernel_rfl) rfl rfl) rfl (by decide) (by decide) rfl rfl rfl rfl (rowL_snoc xs yy) (by omega) (fun g' hg => .inl ⟨rfl, hg⟩) ?_
   intro b44 c44
   refine VA.all (rs := [19]) (by kernel_rfl) (by decide) ?_
   refine ⟨⟨_, rfl, .inl rfl, ?_⟩, trivial⟩
   refine OpE.store (i := 0) rfl hB rfl Tryz.sizeOf95 rfl rfl rfl rfl rfl rfl (Nle rfl) (.inr ⟨rfl, rfl⟩) ?_
   refine VA.done (by kernel_rfl) ?_
   refine VC.sr ?_
   refine VO.mv rfl rfl rfl rfl ?_
   refine VO.ma rfl rfl rfl rfl ?_
   refine VO.nil ?_
   refine VC.ret ?_
   exact Exists.intro _ (And.intro (RetV.one Tryz.results171 (ResV.tmp rfl)) (⟨_, xs ++ [yy], by rw [hok], rwOr_eq (n := xs.length + 1) (lenSo _ _), fun e => by rw [hyl e], by rw [List.length_append]; exact Nat.le_refl _⟩))
 ·replace aK1b : _ = true := aK1b
  have aK1 := aK1b
  try simp only [qqT, qqF, qqN, qqM, qqL, qqE] at aK1
  refine VO.opX rfl rfl rfl rfl aK1b ?_
  refine VO.opX rfl rfl rfl rfl aK1b ?_
  refine VO.val rfl rfl (OpV.pickT rfl rfl rfl rfl aK1b) ?_
  refine VO.nil ?_
  refine VC.condT rfl rfl ?_
  have hno : okOr s = false := okOr_no (.inl (by rw [hwb]; exact not_true_false (by assumption)))
  refine VC.sr ?_
  refine VO.ma rfl rfl rfl rfl ?_
  refine VO.nil ?_
  refine VC.ret ?_
  exact Exists.intro _ (And.intro (RetV.one Tryz.results171 (ResV.tmp rfl)) (⟨u, xs, by rw [hno], rfl, (fun e => by rw [hno] at e; (cases e)), Nat.le_succ _⟩))
def KOr (g : Nat) (pre : List ByteArray) (h : List Ent) : Prop := ∃ u xs, h = [bxOr g u, rwOr u xs] ∧ ((∀ x ∈ pre, okOr x = true) → xs = pre.map orOf) ∧ xs.length ≤ pre.length
theorem KOr.nil (g : Nat) : KOr g [] [bxOr g (.slice none 0 0), .row (.slice none 0 0) 0 5 [] 104] := ⟨_, [], rfl, fun _ => rfl, Nat.le_refl _⟩
theorem or_takes {g n : Nat} (hn : n ≤ 1000000) : TakesX (TabX Tryz.prog) (KOr g) okO1 n Tryz.prog 171 #[ptv g] := fun pre line h ⟨u, xs, e, h1, h2⟩ hl hp w A us hx ha hap hA hE => by
 subst e
 refine (rf_OrdersRead1 (s := line) (g := g) (u := u) (xs := xs) (by omega) (by omega) w A us hx ha hap hA hE).mono fun e w' ⟨y, v, hp', ⟨u', xs', k1, k2, k3, k4⟩, k5⟩ => ⟨y, v, hp', ⟨k1, u', xs', k2, fun hall => ?_, ?_⟩, k5⟩
 ·rw [k3 (hall line (List.mem_append_right _ (List.mem_singleton.2 rfl))), h1 fun x hx => hall x (List.mem_append_left _ hx), List.map_append]; rfl
 ·rw [List.length_append]; show xs'.length ≤ pre.length + 1; omega
def lnIo (f : Option Nat) : Int := match f with
 | none => 0
 | some i => (i : Int)
theorem lnYo_eq (f : Option Nat) : lnY f = .tup [avI (lnIo f), avB f.isNone] := by cases f <;> rfl
theorem or_all {text : ByteArray} (h : orBad text = none) : ∀ x ∈ linesR text, okOr x = true := fun x hx => by
 obtain ⟨j, hj, rfl⟩ := List.getElem_of_mem hx
 have := lnF_zero h j hj
 rw [List.getD_eq_getElem?_getD, List.getElem?_eq_getElem hj] at this
 exact this
set_option maxRecDepth 100000 in
set_option maxHeartbeats 8000000 in
theorem rf_OrdersRead {text : ByteArray} (ht : text.size ≤ 900000) :
  SpecW (TabW Tryz.prog) Tryz.prog 69 [avS text] (fun y => y = .tup [avL (orRead text).1, avI (orRead text).2.1, avI (orRead text).2.2]) := by
 refine SpecW.of_VC Tryz.func69 rfl Tryz.ntmps69 (Nle rfl) fun w A hgw hB => ?_
 have hG : ∀ {s a w'}, R (B0 w A 27) s a w' → TabW Tryz.prog w' :=  tab_base hgw
 have hnew : True := trivial
 refine VC.sr ?_
 refine VO.ma rfl rfl rfl rfl ?_
 refine VO.ma rfl rfl rfl rfl ?_
 refine VO.ma rfl rfl rfl rfl ?_
 refine VO.nil ?_
 refine VC.seq ?_
 refine VC.sr ?_
 refine VO.mv rfl rfl rfl rfl ?_
 refine VO.val rfl rfl (OpV.len_s rfl Tryz.underlying9 rfl) ?_
 refine VO.val rfl rfl (OpV.gtr rfl rfl rfl) ?_
 refine VO.nil ?_
 refine VC.cond rfl (fun h0b => ?_) (fun h0b => ?_)
 ·have h0 := h0b
  try simp only [qqT, qqF, qqN, qqM, qqL, qqE] at h0
  refine VC.sr ?_
  refine VO.ma rfl rfl rfl rfl ?_
  refine VO.ma rfl rfl rfl rfl ?_
  refine VO.ma rfl rfl rfl rfl ?_
  refine VO.nil ?_
  refine VC.le _ (Le.recast (t := 2) (y := avL ([] : List OrdrS)) rfl (fun w Z u h => by rw [h.eq_v]; exact .nil _ _)) ?_
  refine VC.ret ?_
  exact Exists.intro _ (And.intro (RetV.three Tryz.results69 (ResV.tmp rfl) (ResV.tmp rfl) (ResV.tmp rfl)) (by rw [orRead_2 (by omega)]))
 ·have h0 := h0b
  try simp only [qqT, qqF, qqN, qqM, qqL, qqE] at h0
  refine VC.skip ?_
  refine VC.sr ?_
  refine VO.op rfl (OpE.alloc rfl hB rfl Tryz.zeroValue95 rfl ?_)
  intro g
  refine VO.nil ?_
  refine VC.seq ?_
  have hGX := tabx_base (A := A) (nt := 27) hgw
  have hll := linesR_length text
  have hlg := linesR_get text
  refine VC.le _ (Le.nilRow 5 104) ?_
  refine VC.region ?_
  refine VO.mv rfl rfl rfl rfl ?_
  refine VO.val rfl rfl (OpV.makeFunc1 rfl rfl) ?_
  refine VO.op rfl (OpE.callHX0 tab_stab hGX rfl hB rfl Tryz.call108 rfl rfl (rf_Lines (K := KOr g) (ok := okO1) tab_stab (by omega) Tryz.call171 (or_takes (by omega)) (KOr.nil g)) (List.Perm.refl _) (fun _ _ => trivial) ?_)
  rintro _ _ ⟨pre, ⟨u, xs, rfl, hxs, hxl⟩, rfl, hpre⟩
  obtain ⟨f, hf⟩ : ∃ f, orBad text = f := ⟨_, rfl⟩
  refine VO.le _ (Le.recast (t := 15) (y := .tup [avI (lnIo f), avB f.isNone]) rfl (fun w Z u h => by rw [← lnYo_eq, ← hf]; exact h)) ?_
  refine VO.mv rfl rfl rfl rfl ?_
  refine VO.val rfl rfl (OpV.extract rfl rfl rfl) ?_
  refine VO.val rfl rfl (OpV.extract rfl rfl rfl) ?_
  refine VO.ma rfl rfl rfl rfl ?_
  refine VO.ma rfl rfl rfl rfl ?_
  refine VO.nil ?_
  refine VC.seq ?_
  refine VC.sr ?_
  refine VO.mv rfl rfl rfl rfl ?_
  refine VO.val rfl rfl (OpV.not rfl rfl) ?_
  refine VO.nil ?_
  refine VC.cond rfl (fun h1b => ?_) (fun h1b => ?_)
  ·have h1 := h1b
   try simp only [qqT, qqF, qqN, qqM, qqL, qqE] at h1
   obtain ⟨i, rfl⟩ : ∃ i, f = some i := by cases f with | none => simp at h1b | some i => exact ⟨i, rfl⟩
   refine VC.sr ?_
   refine VO.mv rfl rfl rfl rfl ?_
   refine VO.ma rfl rfl rfl rfl ?_
   refine VO.ma rfl rfl rfl rfl ?_
   refine VO.ma rfl rfl rfl rfl ?_
   refine VO.nil ?_
   refine VC.le _ (Le.recast (t := 2) (y := avL ([] : List OrdrS)) rfl (fun w Z u h => by rw [h.eq_v]; exact .nil _ _)) ?_
   refine VC.ret ?_
   exact Exists.intro _ (And.intro (RetV.three Tryz.results69 (ResV.tmp rfl) (ResV.tmp rfl) (ResV.tmp rfl)) (by rw [orRead_9 (by omega) hf]; rfl))
  ·have h1 := h1b
   try simp only [qqT, qqF, qqN, qqM, qqL, qqE] at h1
   obtain rfl : f = none := by cases f with | none => rfl | some i => simp at h1b
   obtain rfl := hpre hf
   obtain rfl := hxs (or_all hf)
   have hsm := orOf_Sm (ls := linesR text) (n := text.size) (by omega) (by omega) hlg
   refine VC.skip ?_
   refine VC.seq ?_
   refine VC.sr ?_
   refine VO.val rfl rfl (OpV.load_own (i := 0) rfl hB Tryz.isAgg95 rfl rfl rfl (fun h => h)) ?_
   refine VO.op rfl (OpE.callL rfl hB rfl Tryz.call66 (rf_OrdersFault hsm) (ArgsP.cons (ArgP.rowT (i := 1) (xs := (linesR text).map orOf) rfl rfl rfl) (ArgsP.nil)) ?_)
   rintro _ rfl
   refine VO.ma rfl rfl rfl rfl ?_
   refine VO.nil ?_
   refine VC.sr ?_
   refine VO.mv rfl rfl rfl rfl ?_
   refine VO.val rfl rfl (OpV.neq rfl rfl rfl) ?_
   refine VO.nil ?_
   refine VC.cond rfl (fun h2b => ?_) (fun h2b => ?_)
   ·have h2 := h2b
    try simp only [qqT, qqF, qqN, qqM, qqL, qqE] at h2
    refine VC.sr ?_
    refine VO.mv rfl rfl rfl rfl ?_
    refine VO.ma rfl rfl rfl rfl ?_
    refine VO.ma rfl rfl rfl rfl ?_
    refine VO.ma rfl rfl rfl rfl ?_
    refine VO.nil ?_
    refine VC.le _ (Le.recast (t := 2) (y := avL ([] : List OrdrS)) rfl (fun w Z u h => by rw [h.eq_v]; exact .nil _ _)) ?_
    refine VC.ret ?_
    exact Exists.intro _ (And.intro (RetV.three Tryz.results69 (ResV.tmp rfl) (ResV.tmp rfl) (ResV.tmp rfl)) (by rw [orRead_e (by omega) hf h2]))
   ·have h2 := h2b
    try simp only [qqT, qqF, qqN, qqM, qqL, qqE] at h2
    refine VC.skip ?_
    refine VC.sr ?_
    refine VO.val rfl rfl (OpV.load_own (i := 0) rfl hB Tryz.isAgg95 rfl rfl rfl (fun h => h)) ?_
    refine VO.ma rfl rfl rfl rfl ?_
    refine VO.ma rfl rfl rfl rfl ?_
    refine VO.ma rfl rfl rfl rfl ?_
    refine VO.nil ?_
    refine VC.le _ (Le.rowT (t := 2) (i := 1) (xs := (linesR text).map orOf) hB hnew rfl rfl rfl) ?_
    refine VC.ret ?_
    exact Exists.intro _ (And.intro (RetV.three Tryz.results69 (ResV.tmp rfl) (ResV.tmp rfl) (ResV.tmp rfl)) (by rw [orRead_0 (by omega) hf (by omega)]))
end Go.Proofs.YtdnlhdilpdeecaaGreatDoor
namespace Go.Proofs.YtdnlhdilpdeecaaGreatDoor
open Go.RowKit
set_option linter.unusedVariables false
set_option linter.unusedSimpArgs false
section
variable {P : Program} {w : World} {A : Nat → Prop} {nt t : Nat} {x : Value} {c : Code} {s : St'}
end
theorem tab_laidVars {P : Program} {w : World} : ∀ {laid : List (String × DataW Unit)} {ps : List MemPlace}, DataW.LaidVars P w laid ps → ∀ x ∈ laid, ∃ g t cs fuel p, P.globalNamed x.1 = some g ∧ (P.globals[g]?).map (·.type) = some t ∧ w.var? P x.1 = some cs ∧ DataW.trod (fun _ => ()) P w 0 (fun _ => true) false fuel t cs.toList = some (x.2, p)
 | [], ps, h, x, hx => by cases hx
 | (n, d) :: r, ps, ⟨g, t, cs, fuel, p, q, h1, h2, h3, h4, h5, h6⟩, x, hx => by
  rcases List.mem_cons.1 hx with rfl | hx
  ·exact ⟨g, t, cs, fuel, p, h1, h2, h3, h4⟩
  ·exact tab_laidVars h5 x hx
theorem tab_of_laid {P : Program} {w : World} {laid : List (String × DataW Unit)} {g : Nat} {t e : TypeId} {n : Nat} (hm : ("internal/strconv.uint64pow10", Lib.tabData .u64 Lib.pow10Tab) ∈ laid)
  (hg : P.globalNamed "internal/strconv.uint64pow10" = some g) (hty : (P.globals[g]?).map (·.type) = some t) (ht : P.underlying t = some (.array n e)) (he : P.underlying e = some (.int .u64)) (hce : P.cellsOf e = 1) (hct : P.cellsOf t = n) (h : laidMet P laid w) : TabW P w := by
 obtain ⟨ps, hv, _⟩ := h
 obtain ⟨g', t', cs, fuel, p, hg', ht', hvar, hd⟩ := tab_laidVars hv _ hm
 obtain rfl := Option.some.inj (hg.symm.trans hg')
 obtain rfl := Option.some.inj (hty.symm.trans ht')
 unfold TabW Lib.TabIs
 have h1 := Lib.cells_of_tab ht he hce hct hd
 rw [hvar]
 congr 1
 apply Array.ext'
 rw [h1]
end Go.Proofs.YtdnlhdilpdeecaaGreatDoor
namespace Go.Proofs.YtdnlhdilpdeecaaGreatDoor
open Go.RowKit
set_option linter.unusedVariables false
set_option linter.unusedSimpArgs false
def eqOr (x y : OrdrS) : Bool := sEq x.key y.key && (sEq x.product y.product && (decide (x.count = y.count) && (decide (x.ready = y.ready) && (decide (x.due = y.due) && true))))
theorem eqOr_self (x : OrdrS) : eqOr x x = true := by simp [eqOr, sEq_refl]
set_option maxRecDepth 100000 in
theorem slices_Equal_or {xs ys : List OrdrS} (hl : xs.length ≤ 1000000000) (hl' : ys.length ≤ 1000000000) :
  SpecN Tryz.prog 70 [avL xs, avL ys] (fun y => y = avB (eqLs eqOr xs ys)) := by
 refine SpecN.of_VCN Tryz.func70 rfl Tryz.ntmps70 (Nle rfl) fun w A hB => ?_
 have hnew : True := trivial
 refine VC.sr ?_
 refine VO.ma rfl rfl rfl rfl ?_
 refine VO.nil ?_
 refine VC.seq ?_
 refine VC.sr ?_
 refine VO.mv rfl rfl rfl rfl ?_
 refine VO.val rfl rfl (OpV.len_im rfl Tryz.underlying95 rfl) ?_
 refine VO.mv rfl rfl rfl rfl ?_
 refine VO.val rfl rfl (OpV.len_im rfl Tryz.underlying95 rfl) ?_
 refine VO.val rfl rfl (OpV.neq rfl rfl rfl) ?_
 refine VO.nil ?_
 refine VC.cond rfl (fun aH1b => ?_) (fun aH1b => ?_)
 ·have aH1 := aH1b
  try simp only [qqT, qqF, qqN, qqM, qqL, qqE] at aH1
  refine VC.sr ?_
  refine VO.ma rfl rfl rfl rfl ?_
  refine VO.nil ?_
  refine VC.ret ?_
  exact Exists.intro _ (And.intro (RetN.one Tryz.results70 (ResN.v rfl)) (by first | rw [eqLs_len (by omega)] | rw [eqLs_at (d := default) (q := q) (by omega) (not_true_false h2b)] | rw [eqLs_all (d := default) (by omega) (fun j hj => hn j (by omega))]))
 ·have aH1 := aH1b
  try simp only [qqT, qqF, qqN, qqM, qqL, qqE] at aH1
  refine VC.skip ?_
  refine VC.seq ?_
  refine VC.sr ?_
  refine VO.mv rfl rfl rfl rfl ?_
  refine VO.val rfl rfl (OpV.len_im rfl Tryz.underlying95 rfl) ?_
  refine VO.mv rfl rfl rfl rfl ?_
  refine VO.nil ?_
  refine VC.block ?_
  refine VC.loopK [(0, _), (1, _), (12, _)] ⟨rfl, rfl, rfl, trivial⟩ ({q : Nat // q ≤ xs.length ∧ ∀ j, j < q → eqOr (xs.getD j default) (ys.getD j default) = true}) (fun (iZ : {q : Nat // q ≤ xs.length ∧ ∀ j, j < q → eqOr (xs.getD j default) (ys.getD j default) = true}) => match iZ with | ⟨q, hq, hn⟩ => [(13, avI (q : Int))]) (fun (iZ : {q : Nat // q ≤ xs.length ∧ ∀ j, j < q → eqOr (xs.getD j default) (ys.getD j default) = true}) => match iZ with | ⟨q, hq, hn⟩ => []) (fun (iZ : {q : Nat // q ≤ xs.length ∧ ∀ j, j < q → eqOr (xs.getD j default) (ys.getD j default) = true}) => match iZ with | ⟨q, hq, hn⟩ => 0) (fun (iZ : {q : Nat // q ≤ xs.length ∧ ∀ j, j < q → eqOr (xs.getD j default) (ys.getD j default) = true}) => match iZ with | ⟨q, hq, hn⟩ => xs.length - q) ⟨0, Nat.zero_le _, fun j hj => absurd hj (Nat.not_lt_zero j)⟩ (Le.mk hB [] ⟨rfl, rfl, rfl, rfl, trivial⟩ rfl rfl (Nat.le_refl _)) ?_
  rintro ⟨q, hq, hn⟩
  show VC _ _ _ _ ⟨[(13, avI (q : Int))] ++ [(0, _), (1, _), (12, _)], [], 0⟩
  refine VC.sr ?_
  refine VO.val rfl rfl (OpV.lss rfl rfl rfl) ?_
  refine VO.nil ?_
  refine VC.seq ?_
  refine VC.cond rfl (fun aH2b => ?_) (fun aH2b => ?_)
  ·have aH2 := aH2b
   try simp only [qqT, qqF, qqN, qqM, qqL, qqE] at aH2
   refine VC.skip ?_
   refine VC.seq ?_
   refine VC.block ?_
   refine VC.sr ?_
   refine VO.mv rfl rfl rfl rfl ?_
   refine VO.ma rfl rfl rfl rfl ?_
   refine VO.nil ?_
   refine VC.seq ?_
   refine VC.draw (fun _ => NoB) hB (by kernel_rfl) ?_
   refine VA.take (i := 0) rfl (by kernel_rfl) (by kernel_rfl) (by kernel_rfl) rfl rfl (OpV.move (.inl rfl) rfl) ?_
   refine VA.take (i := 1) rfl (by kernel_rfl) (by kernel_rfl) (by kernel_rfl) rfl rfl (OpV.move (.inl rfl) rfl) ?_
   refine VA.take (i := 2) rfl (by kernel_rfl) (by kernel_rfl) (by kernel_rfl) rfl rfl (OpV.indexAddr_E rfl Tryz.underlying95 Tryz.sizeOf104 rfl rfl rfl (by omega)) ?_
   refine VA.take (i := 3) rfl (by kernel_rfl) (by kernel_rfl) (by kernel_rfl) rfl rfl (OpV.loadK_at rfl hB OutW.wi0 Tryz.isAgg104 Tryz.sizeOf104 rfl rfl) ?_
   refine VA.take (i := 4) rfl (by kernel_rfl) (by kernel_rfl) (by kernel_rfl) rfl rfl (OpV.move (.inl rfl) rfl) ?_
   refine VA.take (i := 5) rfl (by kernel_rfl) (by kernel_rfl) (by kernel_rfl) rfl rfl (OpV.move (.inl rfl) rfl) ?_
   refine VA.take (i := 6) rfl (by kernel_rfl) (by kernel_rfl) (by kernel_rfl) rfl rfl (OpV.indexAddr_E rfl Tryz.underlying95 Tryz.sizeOf104 rfl rfl rfl (by omega)) ?_
   refine VA.take (i := 7) rfl (by kernel_rfl) (by kernel_rfl) (by kernel_rfl) rfl rfl (OpV.loadK_at rfl hB OutW.wi0 Tryz.isAgg104 Tryz.sizeOf104 rfl rfl) ?_
   refine VA.take (i := 8) rfl (by kernel_rfl) (by kernel_rfl) (by kernel_rfl) rfl rfl (OpV.aneq rfl Tryz.underlying104 (by kernel_rfl) (by kernel_rfl) rfl rfl (EqFs.str Tryz.underlying9 Tryz.isAgg9 rfl (by decide) (EqFs.str Tryz.underlying9 Tryz.isAgg9 rfl (by decide) (EqFs.int Tryz.underlying3 Tryz.isAgg3 rfl (by decide) (EqFs.int Tryz.underlying3 Tryz.isAgg3 rfl (by decide) (EqFs.int Tryz.underlying3 Tryz.isAgg3 rfl (by decide) (EqFs.nil _))))))) ?_
   refine VA.done (by kernel_rfl) ?_
   refine VC.cond rfl (fun h2b => ?_) (fun h2b => ?_)
   ·have h2 := h2b
    try simp only [qqT, qqF, qqN, qqM, qqL, qqE] at h2
    refine VC.sr ?_
    refine VO.ma rfl rfl rfl rfl ?_
    refine VO.nil ?_
    refine VC.ret ?_
    exact Exists.intro _ (And.intro (RetN.one Tryz.results70 (ResN.v rfl)) (by first | rw [eqLs_len (by omega)] | rw [eqLs_at (d := default) (q := q) (by omega) (not_true_false h2b)] | rw [eqLs_all (d := default) (by omega) (fun j hj => hn j (by omega))]))
   ·have h2 := h2b
    try simp only [qqT, qqF, qqN, qqM, qqL, qqE] at h2
    refine VC.skip ?_
    refine VC.region ?_
    refine VO.val rfl rfl (OpV.add rfl rfl rfl (by unfold fits; omega)) ?_
    refine VO.mv rfl rfl rfl rfl ?_
    refine VO.nil ?_
    exact Exists.intro (⟨q + 1, by omega, lt_succ_cases hn (not_false_true h2b)⟩) (And.intro (Le.mk hB [] ⟨rfl, rfl, rfl, rfl, trivial⟩ rfl rfl (Nat.le_refl _)) (by first | omega | (show _ < _; omega) | (simp only []; omega)))
  ·have aH2 := aH2b
   try simp only [qqT, qqF, qqN, qqM, qqL, qqE] at aH2
   refine VC.exit ?_
   refine VC.sr ?_
   refine VO.ma rfl rfl rfl rfl ?_
   refine VO.nil ?_
   refine VC.ret ?_
   exact Exists.intro _ (And.intro (RetN.one Tryz.results70 (ResN.v rfl)) (by first | rw [eqLs_len (by omega)] | rw [eqLs_at (d := default) (q := q) (by omega) (not_true_false h2b)] | rw [eqLs_all (d := default) (by omega) (fun j hj => hn j (by omega))]))
set_option maxRecDepth 100000 in
set_option maxHeartbeats 40000000 in
theorem orderTexts_any (a0 : Option Addr) (cap0 : Nat) (L : List Int) (w : World) (hin : Inp w a0 L) (hT : TabW Tryz.prog w) :
  Calls Tryz.prog 7 #[.slice a0 L.length cap0] w fun e w' => e = .returned (.bool true) ∧ Chg NoB w w' := by
 refine law_calls Tryz.func7 rfl Tryz.ntmps7 (Nle rfl) Tryz.results7 ?_
 have hB := B0.ok w (fun _ => True) 72
 have hnew : True := trivial
 refine VC.sr ?_
 refine VO.ma rfl rfl rfl rfl ?_
 refine VO.nil ?_
 refine VC.sr ?_
 refine VO.mv rfl rfl rfl rfl ?_
 refine VO.val rfl rfl (OpV.build (pls := #[(0, 1), (1, 1)]) rfl Tryz.zeroValue25 Tryz.underlying25 (fun w => by kernel_rfl) rfl rfl) ?_
 refine VO.op rfl (OpE.box rfl hB rfl rfl rfl ?_)
 intro g
 refine VO.ma rfl rfl rfl rfl ?_
 refine VO.nil ?_
 refine VC.streamT (i := 0) (sl := [(3, sp g)]) (by exact rfl) (by exact rfl) hT hin (by exact ⟨rfl, trivial⟩) (fun p hp => by simp at hp; subst hp; exact ⟨_, rfl⟩) (fun w1 hge hB => ?_)
 have hG : ∀ {s a w'}, R (B1 w1 (fun b => b ≠ g) 72 (fun b => b = g) (fun b => b ≤ g) (TTW g L)) s a w' → TabW Tryz.prog w' := tabT
 refine VC.sr ?_
 refine VO.mv rfl rfl rfl rfl ?_
 refine VO.op rfl (OpE.callT' (0) rfl rfl hB rfl Tryz.call63 rfl (SpecT.liftW (orders_M (m := 5) (by omega))) (by omega) ?_)
 rintro _ ⟨o, ⟨hol, hoo⟩, rfl⟩
 refine VO.mv rfl rfl rfl rfl ?_
 refine VO.op rfl (OpE.callT' (0 + 100) rfl rfl hB rfl Tryz.call64 rfl (orderText_T) (by omega) ?_)
 rintro _ ⟨tx, htx, rfl⟩
 refine VO.ma rfl rfl rfl rfl ?_
 refine VO.ma rfl rfl rfl rfl ?_
 refine VO.nil ?_
 refine VC.seq ?_
 have hs := hoo.sm (by omega)
 obtain ⟨wt, hwt⟩ : ∃ wt, (if ordrF o = 0 then txO o else ⟨#[]⟩) = wt := ⟨_, rfl⟩
 obtain ⟨rl, ri, re, hrd⟩ : ∃ rl ri re, orRead tx = (rl, ri, re) := ⟨_, _, _, rfl⟩
 have hrl : rl.length ≤ 1000000 := by
  have h := congrArg (fun z => z.1.length) hrd
  simp only at h
  rw [← h]
  have h2 := linesR_length tx
  unfold orRead
  split
  ·exact Nat.zero_le _
  ·split
   ·exact Nat.zero_le _
   ·split
    ·simp only [List.length_map]; omega
    ·exact Nat.zero_le _
 refine VC.region ?_
 refine VO.mv rfl rfl rfl rfl ?_
 refine VO.op rfl (OpE.callW rfl hB rfl Tryz.call65 rfl (plan_TextO hs) hG ?_)
 rintro _ rfl
 refine VO.le _ (Le.recast (t := 25) (y := .tup [avS wt, avI (ordrF o)]) rfl (fun w Z u h => by rw [← hwt]; exact h)) ?_
 refine VO.mv rfl rfl rfl rfl ?_
 refine VO.val rfl rfl (OpV.extract rfl rfl rfl) ?_
 refine VO.val rfl rfl (OpV.extract rfl rfl rfl) ?_
 refine VO.ma rfl rfl rfl rfl ?_
 refine VO.ma rfl rfl rfl rfl ?_
 refine VO.nil ?_
 refine VC.sr ?_
 refine VO.mv rfl rfl rfl rfl ?_
 refine VO.op rfl (OpE.call rfl hB rfl Tryz.call66 rfl (SpecN.spec (rf_OrdersFault hs)) ?_)
 rintro _ rfl
 refine VO.ma rfl rfl rfl rfl ?_
 refine VO.ma rfl rfl rfl rfl ?_
 refine VO.nil ?_
 refine VC.seq ?_
 refine VC.sr ?_
 refine VO.mv rfl rfl rfl rfl ?_
 refine VO.val rfl rfl (OpV.eql rfl rfl rfl) ?_
 refine VO.nil ?_
 refine VC.cond rfl (fun k0b => ?_) (fun k0b => ?_)
 ·have k0 := k0b
  try simp only [qqT, qqF, qqN, qqM, qqL, qqE] at k0
  refine VC.region ?_
  refine VO.mv rfl rfl rfl rfl ?_
  refine VO.op rfl (OpE.callW rfl hB rfl Tryz.call67 rfl (rf_OrderLines (by omega) (fun j hj => OrT.of k0 hj)) hG ?_)
  rintro _ rfl
  refine VO.le _ (Le.recast (t := 33) (y := avS wt) rfl (fun w Z u h => by rw [← hwt, if_pos k0]; exact h)) ?_
  refine VO.ma rfl rfl rfl rfl ?_
  refine VO.nil ?_
  refine VC.sr ?_
  refine VO.mv rfl rfl rfl rfl ?_
  refine VO.op rfl (OpE.call rfl hB rfl Tryz.call68 rfl (SpecN.spec (plan_ReadO (by omega))) ?_)
  rintro _ rfl
  refine VO.le _ (Le.recast (t := 36) (y := .tup [avL rl, avI ri, avI re]) rfl (fun w Z u h => by rw [hrd] at h; exact h)) ?_
  refine VO.mv rfl rfl rfl rfl ?_
  refine VO.val rfl rfl (OpV.extract rfl rfl rfl) ?_
  refine VO.val rfl rfl (OpV.extract rfl rfl rfl) ?_
  refine VO.val rfl rfl (OpV.extract rfl rfl rfl) ?_
  refine VO.ma rfl rfl rfl rfl ?_
  refine VO.ma rfl rfl rfl rfl ?_
  refine VO.ma rfl rfl rfl rfl ?_
  refine VO.nil ?_
  refine VC.sr ?_
  refine VO.mv rfl rfl rfl rfl ?_
  refine VO.op rfl (OpE.callW rfl hB rfl Tryz.call69 rfl (rf_OrdersRead (by omega)) hG ?_)
  rintro _ rfl
  refine VO.le _ (Le.recast (t := 42) (y := .tup [avL rl, avI ri, avI re]) rfl (fun w Z u h => by rw [hrd] at h; exact h)) ?_
  refine VO.mv rfl rfl rfl rfl ?_
  refine VO.val rfl rfl (OpV.extract rfl rfl rfl) ?_
  refine VO.val rfl rfl (OpV.extract rfl rfl rfl) ?_
  refine VO.val rfl rfl (OpV.extract rfl rfl rfl) ?_
  refine VO.ma rfl rfl rfl rfl ?_
  refine VO.ma rfl rfl rfl rfl ?_
  refine VO.ma rfl rfl rfl rfl ?_
  refine VO.nil ?_
  refine VC.sr ?_
  refine VO.mv rfl rfl rfl rfl ?_
  refine VO.mv rfl rfl rfl rfl ?_
  refine VO.val rfl rfl (OpV.eql rfl rfl rfl) ?_
  refine VO.le _ (Le.boolT (t := 48) rfl (decide_eq_true rfl)) ?_
  refine VO.mv rfl rfl rfl rfl ?_
  refine VO.opY rfl rfl rfl rfl rfl ?_
  refine OpE.val (W := NoB) (OpV.move (.inl rfl) rfl) rfl ?_
  refine VO.opY rfl rfl rfl rfl rfl ?_
  refine OpE.val (W := NoB) (OpV.move (.inl rfl) rfl) rfl ?_
  refine VO.opY rfl rfl rfl rfl rfl ?_
  refine OpE.val (W := NoB) (OpV.seql rfl rfl rfl) rfl ?_
  refine VO.le _ (Le.boolT (t := 52) rfl (sEq_refl _)) ?_
  refine VO.val rfl rfl (OpV.pickT rfl rfl rfl rfl rfl) ?_
  refine VO.mv rfl rfl rfl rfl ?_
  refine VO.opY rfl rfl rfl rfl rfl ?_
  refine OpE.val (W := NoB) (OpV.move (.inl rfl) rfl) rfl ?_
  refine VO.opY rfl rfl rfl rfl rfl ?_
  refine OpE.val (W := NoB) (OpV.move (.inl rfl) rfl) rfl ?_
  refine VO.opY rfl rfl rfl rfl rfl ?_
  refine OpE.call rfl hB rfl Tryz.call70 rfl (SpecN.spec (slices_Equal_or (by omega) (by omega))) ?_
  rintro _ rfl
  refine VO.le _ (Le.boolT (t := 57) rfl (eqLs_self eqOr_self _)) ?_
  refine VO.val rfl rfl (OpV.pickT rfl rfl rfl rfl rfl) ?_
  refine VO.mv rfl rfl rfl rfl ?_
  refine VO.opY rfl rfl rfl rfl rfl ?_
  refine OpE.val (W := NoB) (OpV.move (.inl rfl) rfl) rfl ?_
  refine VO.opY rfl rfl rfl rfl rfl ?_
  refine OpE.val (W := NoB) (OpV.move (.inl rfl) rfl) rfl ?_
  refine VO.opY rfl rfl rfl rfl rfl ?_
  refine OpE.val (W := NoB) (OpV.eql rfl rfl rfl) rfl ?_
  refine VO.le _ (Le.boolT (t := 62) rfl (decide_eq_true rfl)) ?_
  refine VO.val rfl rfl (OpV.pickT rfl rfl rfl rfl rfl) ?_
  refine VO.mv rfl rfl rfl rfl ?_
  refine VO.opY rfl rfl rfl rfl rfl ?_
  refine OpE.val (W := NoB) (OpV.move (.inl rfl) rfl) rfl ?_
  refine VO.opY rfl rfl rfl rfl rfl ?_
  refine OpE.val (W := NoB) (OpV.move (.inl rfl) rfl) rfl ?_
  refine VO.opY rfl rfl rfl rfl rfl ?_
  refine OpE.val (W := NoB) (OpV.eql rfl rfl rfl) rfl ?_
  refine VO.le _ (Le.boolT (t := 67) rfl (decide_eq_true rfl)) ?_
  refine VO.val rfl rfl (OpV.pickT rfl rfl rfl rfl rfl) ?_
  refine VO.mv rfl rfl rfl rfl ?_
  refine VO.opY rfl rfl rfl rfl rfl ?_
  refine OpE.call rfl hB rfl Tryz.call71 rfl (SpecN.spec (rl_planned)) ?_
  rintro _ rfl
  refine VO.val rfl rfl (OpV.pickT rfl rfl rfl rfl rfl) ?_
  refine VO.ma rfl rfl rfl rfl ?_
  refine VO.nil ?_
  refine VC.ret ?_
  exact And.intro rfl rfl
 ·have k0 := k0b
  try simp only [qqT, qqF, qqN, qqM, qqL, qqE] at k0
  refine VC.le _ (Le.recast (t := 9) (y := avS wt) rfl (fun w Z u h => by rw [← hwt, if_neg k0]; exact h)) ?_
  refine VC.skip ?_
  refine VC.sr ?_
  refine VO.mv rfl rfl rfl rfl ?_
  refine VO.op rfl (OpE.call rfl hB rfl Tryz.call68 rfl (SpecN.spec (plan_ReadO (by omega))) ?_)
  rintro _ rfl
  refine VO.le _ (Le.recast (t := 36) (y := .tup [avL rl, avI ri, avI re]) rfl (fun w Z u h => by rw [hrd] at h; exact h)) ?_
  refine VO.mv rfl rfl rfl rfl ?_
  refine VO.val rfl rfl (OpV.extract rfl rfl rfl) ?_
  refine VO.val rfl rfl (OpV.extract rfl rfl rfl) ?_
  refine VO.val rfl rfl (OpV.extract rfl rfl rfl) ?_
  refine VO.ma rfl rfl rfl rfl ?_
  refine VO.ma rfl rfl rfl rfl ?_
  refine VO.ma rfl rfl rfl rfl ?_
  refine VO.nil ?_
  refine VC.sr ?_
  refine VO.mv rfl rfl rfl rfl ?_
  refine VO.op rfl (OpE.callW rfl hB rfl Tryz.call69 rfl (rf_OrdersRead (by omega)) hG ?_)
  rintro _ rfl
  refine VO.le _ (Le.recast (t := 42) (y := .tup [avL rl, avI ri, avI re]) rfl (fun w Z u h => by rw [hrd] at h; exact h)) ?_
  refine VO.mv rfl rfl rfl rfl ?_
  refine VO.val rfl rfl (OpV.extract rfl rfl rfl) ?_
  refine VO.val rfl rfl (OpV.extract rfl rfl rfl) ?_
  refine VO.val rfl rfl (OpV.extract rfl rfl rfl) ?_
  refine VO.ma rfl rfl rfl rfl ?_
  refine VO.ma rfl rfl rfl rfl ?_
  refine VO.ma rfl rfl rfl rfl ?_
  refine VO.nil ?_
  refine VC.sr ?_
  refine VO.mv rfl rfl rfl rfl ?_
  refine VO.mv rfl rfl rfl rfl ?_
  refine VO.val rfl rfl (OpV.eql rfl rfl rfl) ?_
  refine VO.le _ (Le.boolT (t := 48) rfl (decide_eq_true rfl)) ?_
  refine VO.mv rfl rfl rfl rfl ?_
  refine VO.opY rfl rfl rfl rfl rfl ?_
  refine OpE.val (W := NoB) (OpV.move (.inl rfl) rfl) rfl ?_
  refine VO.opY rfl rfl rfl rfl rfl ?_
  refine OpE.val (W := NoB) (OpV.move (.inl rfl) rfl) rfl ?_
  refine VO.opY rfl rfl rfl rfl rfl ?_
  refine OpE.val (W := NoB) (OpV.seql rfl rfl rfl) rfl ?_
  refine VO.le _ (Le.boolT (t := 52) rfl (sEq_refl _)) ?_
  refine VO.val rfl rfl (OpV.pickT rfl rfl rfl rfl rfl) ?_
  refine VO.mv rfl rfl rfl rfl ?_
  refine VO.opY rfl rfl rfl rfl rfl ?_
  refine OpE.val (W := NoB) (OpV.move (.inl rfl) rfl) rfl ?_
  refine VO.opY rfl rfl rfl rfl rfl ?_
  refine OpE.val (W := NoB) (OpV.move (.inl rfl) rfl) rfl ?_
  refine VO.opY rfl rfl rfl rfl rfl ?_
  refine OpE.call rfl hB rfl Tryz.call70 rfl (SpecN.spec (slices_Equal_or (by omega) (by omega))) ?_
  rintro _ rfl
  refine VO.le _ (Le.boolT (t := 57) rfl (eqLs_self eqOr_self _)) ?_
  refine VO.val rfl rfl (OpV.pickT rfl rfl rfl rfl rfl) ?_
  refine VO.mv rfl rfl rfl rfl ?_
  refine VO.opY rfl rfl rfl rfl rfl ?_
  refine OpE.val (W := NoB) (OpV.move (.inl rfl) rfl) rfl ?_
  refine VO.opY rfl rfl rfl rfl rfl ?_
  refine OpE.val (W := NoB) (OpV.move (.inl rfl) rfl) rfl ?_
  refine VO.opY rfl rfl rfl rfl rfl ?_
  refine OpE.val (W := NoB) (OpV.eql rfl rfl rfl) rfl ?_
  refine VO.le _ (Le.boolT (t := 62) rfl (decide_eq_true rfl)) ?_
  refine VO.val rfl rfl (OpV.pickT rfl rfl rfl rfl rfl) ?_
  refine VO.mv rfl rfl rfl rfl ?_
  refine VO.opY rfl rfl rfl rfl rfl ?_
  refine OpE.val (W := NoB) (OpV.move (.inl rfl) rfl) rfl ?_
  refine VO.opY rfl rfl rfl rfl rfl ?_
  refine OpE.val (W := NoB) (OpV.move (.inl rfl) rfl) rfl ?_
  refine VO.opY rfl rfl rfl rfl rfl ?_
  refine OpE.val (W := NoB) (OpV.eql rfl rfl rfl) rfl ?_
  refine VO.le _ (Le.boolT (t := 67) rfl (decide_eq_true rfl)) ?_
  refine VO.val rfl rfl (OpV.pickT rfl rfl rfl rfl rfl) ?_
  refine VO.mv rfl rfl rfl rfl ?_
  refine VO.opY rfl rfl rfl rfl rfl ?_
  refine OpE.call rfl hB rfl Tryz.call71 rfl (SpecN.spec (rl_planned)) ?_
  rintro _ rfl
  refine VO.val rfl rfl (OpV.pickT rfl rfl rfl rfl rfl) ?_
  refine VO.ma rfl rfl rfl rfl ?_
  refine VO.nil ?_
  refine VC.ret ?_
  exact And.intro rfl rfl
end Go.Proofs.YtdnlhdilpdeecaaGreatDoor
