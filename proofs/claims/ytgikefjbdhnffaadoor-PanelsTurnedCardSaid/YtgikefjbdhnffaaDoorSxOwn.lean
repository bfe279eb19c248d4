/- The symbolic walk: functions that work on things of their caller's own. -/
import Derived.Test.YtgikefjbdhnffaaDoorSxFam
namespace Go.Proofs.YtgikefjbdhnffaaDoor
open Go.RowKit
set_option linter.unusedVariables false
set_option linter.unusedSimpArgs false

/-- The blocks of one's own things. -/
def BlkL (hp : List Ent) (b : Nat) : Prop := ∃ e ∈ hp, e.blk = some b
/-- Where a result of such a function may lie. -/
def Zh (w : World) (A : Nat → Prop) (hp hp' : List Ent) (w' : World) : Nat → Prop := fun b => b < w'.heap.size ∧ ¬ BlkL hp' b ∧ (b < w.heap.size → A b ∨ BlkL hp b)
/-- A contract of a function that works on things of its caller's own: hp are they ahead of it, G speaks of the result and of them behind it. -/
def SpecH (P : Program) (F : FuncId) (xs : List AV) (hp : List Ent) (G : AV → List Ent → Prop) : Prop :=
  ∀ (w : World) (A : Nat → Prop) (us : Array Value), Args w A xs us → Apart hp → (∀ b, BlkL hp b → ¬ A b) → (∀ e ∈ hp, EntR w (fun b => b < w.heap.size ∧ A b) e) →
    Calls P F us w fun e w' => ∃ y v hp', G y hp' ∧ e = .returned v ∧ Apart hp' ∧ Rep w' (Zh w A hp hp' w') y v ∧ (∀ e ∈ hp', EntR w' (Zh w A hp hp' w') e) ∧
      (∀ b, BlkL hp' b → b < w.heap.size → BlkL hp b) ∧ Chg (BlkL hp) w w'

theorem SpecH.mono {P : Program} {F : FuncId} {xs : List AV} {hp : List Ent} {G G' : AV → List Ent → Prop} (h : SpecH P F xs hp G) (hg : ∀ y hp', G y hp' → G' y hp') : SpecH P F xs hp G' := fun w A us h1 h2 h3 h4 =>
  (h w A us h1 h2 h3 h4).mono fun e w' ⟨y, v, hp', k1, k2⟩ => ⟨y, v, hp', hg _ _ k1, k2⟩

/-- What is handed back as a list of the caller's own may be given up at once. -/
theorem SpecN.ofRow {P : Program} {F : FuncId} {xs : List AV} {n sz : Nat} {cs : List AV} {ty : TypeId} {Y : AV} (h : SpecH P F xs [] fun y hp' => ∃ u, y = .v u ∧ hp' = [.row u n sz cs ty]) (hf : FlatA cs)
    (hy : ∀ w Z u, Rep w Z (.im n sz fun j => cs.getD j .any) u → Rep w Z Y u) : SpecN P F xs fun y => y = Y := fun w us ha =>
  (h w (fun _ => True) us ha List.Pairwise.nil (fun b ⟨e, he, _⟩ => by cases he) (fun e he => by cases he)).mono fun e w' ⟨y, v, hp', ⟨u, h1, h2⟩, h3, h4, h5, h6, h7, h8⟩ => by
    subst h1; subst h2; subst h3
    have hv := h5.eq_v
    subst hv
    refine ⟨Y, _, rfl, rfl, hy _ _ _ ?_, h8.mono fun b _ ⟨e, he, _⟩ => (by cases he), trivial⟩
    have hE := h6 _ (List.mem_cons_self ..)
    obtain ⟨h0, ⟨rfl, rfl⟩ | ⟨g, cap, c, rfl, k1, k2, k3, k4, k5⟩⟩ := hE
    · exact .nil _ _
    · refine .im n sz _ g 0 cap c ty (fun j => c.getD j undef) ⟨(Array.getElem?_eq_some_iff.1 k3).1, fun hl => ?_⟩ k1 k2 k3 (fun j hj => ?_) fun j hj => ?_
      · obtain ⟨e, he, _⟩ := h7 g ⟨_, List.mem_cons_self .., rfl⟩ hl
        cases he
      · obtain ⟨x, q1, _⟩ := k5 j (by omega)
        rw [Nat.zero_add]
        exact getD_lt (Array.getElem?_eq_some_iff.1 q1).1
      · obtain ⟨x, q1, q2⟩ := k5 j (by omega)
        rw [List.getD_eq_getElem?_getD, List.getElem?_eq_getElem (by omega)]
        rw [show c.getD j undef = x by rw [Array.getD_eq_getD_getElem?, q1]; rfl]
        obtain ⟨v, hv⟩ := hf _ (List.getElem_mem (by omega : j < cs.length))
        simp only [Option.getD_some]
        rw [hv] at q2 ⊢
        rw [q2.eq_v]
        exact .v _
/-- The base of such a function. -/
def Bh (w : World) (A : Nat → Prop) (nt : Nat) (hp : List Ent) : Bs := ⟨w, BlkL hp, A, nt, NoB, NoB, fun _ _ => True⟩
theorem Bh.ok (w : World) (A : Nat → Prop) (nt : Nat) (hp : List Ent) : (Bh w A nt hp).Ok := ⟨fun _ _ _ => trivial, fun _ h => h.elim, fun _ h => h.elim, fun _ _ => trivial⟩

theorem R.startH {w : World} {A : Nat → Prop} {nt : Nat} {hp : List Ent} {xs : List AV} {us : Array Value} (hA : Args w A xs us) (h1 : Apart hp) (h2 : ∀ b, BlkL hp b → ¬ A b) (h3 : ∀ e ∈ hp, EntR w (fun b => b < w.heap.size ∧ A b) e) (hn : nt = us.size + (nt - us.size)) :
    R (Bh w A nt hp) ⟨slots0 0 xs, hp, 0⟩ { tmps := us ++ Array.replicate (nt - us.size) undef, defers := [] } w := by
  have hZ : ∀ b, (b < w.heap.size ∧ A b) → Zn (Bh w A nt hp) hp w b := fun b hb => ⟨hb.1, fun p hp' hpb => h2 b ⟨p, hp', hpb⟩ hb.2, fun _ => ⟨.inl hb.2, fun h => h⟩⟩
  refine ⟨fun t x ht => ?_, by simp [Bh]; omega, rfl, fun p hp' => (h3 p hp').keep (fun b hb _ => ⟨rfl, hZ b hb⟩) fun g _ => rfl, h1, Chg.refl _ _, fun p hp' g hg => ⟨fun h => h, fun _ => ⟨p, hp', hg⟩⟩, trivial⟩
  obtain ⟨⟨_, k2⟩, k3⟩ := slots0_look xs 0 t x ht
  simp at k2 k3
  have hlt : t < us.size := by rw [hA.1]; exact k2
  have := hA.2 t k2
  rw [k3] at this
  rw [show (us ++ Array.replicate (nt - us.size) undef).getD t undef = us.getD t undef by
    rw [Array.getD_eq_getD_getElem?, Array.getD_eq_getD_getElem?, Array.getElem?_append_left hlt]]
  exact this.keep fun b hb _ => ⟨rfl, hZ b hb⟩

theorem SpecH.of_VC {P : Program} {F : FuncId} {fn : Func} {c : Code} (hf : P.funcs[F]? = some fn) (hb : fn.body = some c) {xs : List AV} {hp : List Ent} {G : AV → List Ent → Prop} {nt : Nat} (hn : fn.ntmps = nt) (hle : xs.length ≤ nt)
    (h : ∀ w A, (Bh w A nt hp).Ok → VC P (Bh w A nt hp) c (retS P fn fun y s => G y s.hp) ⟨slots0 0 xs, hp, 0⟩) : SpecH P F xs hp G := fun w A us ha h1 h2 h3 => by
  have hus : us.size ≤ fn.ntmps := by rw [ha.1, hn]; exact hle
  refine calls_of_wp hf hb (Code.wp_mono (fun e a w' hq => ?_) (h w A (Bh.ok _ _ _ _) _ w (by
    have := R.startH (nt := nt) ha h1 h2 h3 (by omega)
    rwa [hn])))
  obtain ⟨s, hq, hr⟩ := hq
  have key : ∀ y v, G y s.hp → Rep w' (Zn (Bh w A nt hp) s.hp w') y v → ∃ y v' hp', G y hp' ∧ Ending.returned v = .returned v' ∧ Apart hp' ∧ Rep w' (Zh w A hp hp' w') y v' ∧ (∀ e ∈ hp', EntR w' (Zh w A hp hp' w') e) ∧
      (∀ b, BlkL hp' b → b < w.heap.size → BlkL hp b) ∧ Chg (BlkL hp) w w' := fun y v hG hv => by
    have hZ : ∀ b, Zn (Bh w A nt hp) s.hp w' b → Zh w A hp s.hp w' b := fun b hb => ⟨hb.1, fun ⟨p, hp1, hp2⟩ => hb.2.1 p hp1 hp2, fun hl => (hb.2.2 hl).1⟩
    exact ⟨y, v, s.hp, hG, rfl, hr.nodup, hv.keep fun b hb _ => ⟨rfl, hZ b hb⟩, fun p hp' => (hr.blocks p hp').keep (fun b hb _ => ⟨rfl, hZ b hb⟩) fun g _ => rfl, fun b ⟨p, hp1, hp2⟩ hl => (hr.own p hp1 b hp2).2 hl, hr.chg⟩
  cases e with
  | normal =>
    obtain ⟨y, k1, k2⟩ := hq
    obtain ⟨v, k3, k4⟩ := k1 _ a w' hr
    exact ⟨hr.defs, v, k3, key y v k2 k4⟩
  | ret =>
    obtain ⟨y, k1, k2⟩ := hq
    obtain ⟨v, k3, k4⟩ := k1 _ a w' hr
    exact ⟨hr.defs, v, k3, key y v k2 k4⟩
  | exit id => exact hq.elim
  | goto l => exact hq.elim
  | panic c => exact hq.elim
  | outgrown => exact hq.elim

section
variable {P : Program} {B : Bs} {W : Nat → Prop} {s : St'} {o : Oper} {K : St' → Prop} {a : Act} {w w' : World}
theorem BlkL.append {hp hp2 : List Ent} {b : Nat} : BlkL (hp ++ hp2) b ↔ BlkL hp b ∨ BlkL hp2 b := by
  constructor
  · rintro ⟨e, he, hb⟩
    rcases List.mem_append.1 he with he | he
    · exact .inl ⟨e, he, hb⟩
    · exact .inr ⟨e, he, hb⟩
  · rintro (⟨e, he, hb⟩ | ⟨e, he, hb⟩)
    · exact ⟨e, List.mem_append_left _ he, hb⟩
    · exact ⟨e, List.mem_append_right _ he, hb⟩

/-- Behind a call that works on hp. -/
theorem R.afterH (hB : B.Ok) {hp rest hp' : List Ent} (hr : R B ⟨s.sl, hp ++ rest, s.k⟩ a w) (hap : Apart hp') (hE : ∀ e ∈ hp', EntR w' (Zh w (Zo B (hp ++ rest)) hp hp' w') e) (hbl : ∀ b, BlkL hp' b → b < w.heap.size → BlkL hp b) (hc : Chg (BlkL hp) w w') :
    R B ⟨s.sl, hp' ++ rest, s.k⟩ a w' ∧ ∀ b, Zh w (Zo B (hp ++ rest)) hp hp' w' b → Zn B (hp' ++ rest) w' b := by
  have hcross : ∀ p ∈ hp, ∀ q ∈ rest, ∀ g, p.blk = some g → q.blk ≠ some g := by
    have := hr.nodup
    unfold Apart at this
    rw [List.pairwise_append] at this
    exact this.2.2
  have hnr : ∀ b, BlkL rest b → ¬ BlkL hp b := fun b ⟨q, hq, hqb⟩ ⟨p, hp1, hpb⟩ => hcross p hp1 q hq b hpb hqb
  have hlt : ∀ b, BlkL rest b → b < w.heap.size := fun b ⟨q, hq, hqb⟩ => hr.lt q (List.mem_append_right _ hq) b hqb
  have hnr' : ∀ b, BlkL rest b → ¬ BlkL hp' b := fun b h1 h2 => hnr b h1 (hbl b h2 (hlt b h1))
  have hw0 := hr.chg.size
  have hownp : ∀ b, BlkL hp b → ¬ B.low b ∧ (b < B.w0.heap.size → B.S b) := fun b ⟨p, hp1, hpb⟩ => hr.own p (List.mem_append_left _ hp1) b hpb
  have hz1 : ∀ b, Zn B (hp ++ rest) w b → b < w.heap.size → w'.heap[b]? = w.heap[b]? ∧ Zn B (hp' ++ rest) w' b := fun b hb hl => by
    have n1 : ¬ BlkL (hp ++ rest) b := fun ⟨p, hp1, hpb⟩ => hb.2.1 p hp1 hpb
    have n2 : ¬ BlkL hp b := fun h => n1 (BlkL.append.2 (.inl h))
    refine ⟨hc.block b hl n2, Nat.lt_of_lt_of_le hl hc.size, fun p hp1 hpb => ?_, hb.2.2⟩
    rcases List.mem_append.1 hp1 with h | h
    · exact n2 (hbl b ⟨p, h, hpb⟩ hl)
    · exact n1 (BlkL.append.2 (.inr ⟨p, h, hpb⟩))
  have hz2 : ∀ b, Zh w (Zo B (hp ++ rest)) hp hp' w' b → Zn B (hp' ++ rest) w' b := fun b hb => by
    refine ⟨hb.1, fun p hp1 hpb => ?_, fun h0 => ?_⟩
    · rcases List.mem_append.1 hp1 with h | h
      · exact hb.2.1 ⟨p, h, hpb⟩
      · have hr1 : BlkL rest b := ⟨p, h, hpb⟩
        rcases hb.2.2 (hlt b hr1) with h' | h'
        · exact h'.1 p (List.mem_append_right _ h) hpb
        · exact hnr b hr1 h'
    · rcases hb.2.2 (Nat.lt_of_lt_of_le h0 hw0) with h' | h'
      · exact h'.2 h0
      · obtain ⟨k1, k2⟩ := hownp b h'
        exact ⟨.inr (k2 h0), fun hs => k1 (hB.str b hs).1⟩
  refine ⟨⟨fun t x hx => (hr.slots t x hx).keep hz1, hr.size, hr.defs, fun p hp1 => ?_, ?_, ?_, fun p hp1 g hg => ?_, hB.keep hr.res hc fun j hj h => (hownp j h).1 hj⟩, hz2⟩
  · rcases List.mem_append.1 hp1 with h | h
    · exact (hE p h).keep (fun b hb _ => ⟨rfl, hz2 b hb⟩) fun g _ => rfl
    · exact (hr.blocks p (List.mem_append_right _ h)).keep hz1 fun g hg => hc.block g (hlt g ⟨p, h, hg⟩) (hnr g ⟨p, h, hg⟩)
  · have hn := hr.nodup
    unfold Apart at hn ⊢
    rw [List.pairwise_append] at hn ⊢
    exact ⟨hap, hn.2.1, fun p hp1 q hq g hpg hqg => hnr' g ⟨q, hq, hqg⟩ ⟨p, hp1, hpg⟩⟩
  · exact ((hr.chg.mono (S' := fun b => B.S b ∨ BlkL hp b) fun b _ h => .inl h).trans (hc.mono fun b _ h => .inr h)).mono fun b hb0 h => h.elim id fun h => (hownp b h).2 hb0
  · rcases List.mem_append.1 hp1 with h | h
    · by_cases hl : g < w.heap.size
      · exact hownp g (hbl g ⟨p, h, hg⟩ hl)
      · exact ⟨fun hlow => hl (Nat.lt_of_lt_of_le (hB.low g hlow) hw0), fun h0 => absurd (Nat.lt_of_lt_of_le h0 hw0) hl⟩
    · exact hr.own p (List.mem_append_right _ h) g hg

/-- A call of a function that works on hp; the rest of one's own things stays. -/
theorem OpE.callH {f : Operand} {F : FuncId} {caps : Array Value} {args : Array Operand} {ts : Array TypeId} {xs : List AV} {hp rest : List Ent} {G : AV → List Ent → Prop} (ho : o.op = .call { callee := .value f, args := args, argTypes := ts }) (hB : B.Ok) (hd : okd B.nt o.dst = true)
    (hcall : ∀ us w, (callFunc F us).run P w = .ok (.enter F us) w) (hf : evO s f = some (.v (.func (.func F) #[] caps))) (hxs : evL s args.toList = some xs) (hspec : SpecH P F (xs ++ caps.toList.map .v) hp G) (hsp : s.hp.Perm (hp ++ rest)) (hW : ∀ b, BlkL hp b → W b)
    (hK : ∀ y hp', G y hp' → K ((St'.mk s.sl (hp' ++ rest) s.k).put o.dst y)) : OpE P B W s o K := by
  intro a w hr next Qx hn
  have hr1 := hr.perm hsp
  have hA : Args w (Zo B (hp ++ rest)) (xs ++ caps.toList.map .v) (args.map a.eval ++ caps) := by
    have ha := evL_args hr hxs
    have hZo : ∀ b, Zo B s.hp b → Zo B (hp ++ rest) b := fun b hb => ⟨fun p hp1 => hb.1 p (hsp.mem_iff.2 hp1), hb.2⟩
    refine ⟨by simp [ha.1], fun j hj => ?_⟩
    by_cases hjx : j < xs.length
    · rw [List.getElem_append_left hjx]
      have hlt : j < (args.map a.eval).size := by rw [ha.1]; exact hjx
      have : (args.map a.eval ++ caps).getD j undef = (args.map a.eval).getD j undef := by
        rw [Array.getD_eq_getD_getElem?, Array.getD_eq_getD_getElem?, Array.getElem?_append_left hlt]
      rw [this]
      exact (ha.2 j hjx).keep fun b hb _ => ⟨rfl, hb.1, hZo b hb.2⟩
    · rw [List.getElem_append_right (by omega)]
      have hj' : j - xs.length < caps.size := by rw [List.length_append] at hj; simp at hj; omega
      have : (args.map a.eval ++ caps).getD j undef = caps.getD (j - xs.length) undef := by
        rw [Array.getD_eq_getD_getElem?, Array.getD_eq_getD_getElem?, Array.getElem?_append_right (by rw [ha.1]; omega), ha.1]
      rw [this, Array.getD_eq_getD_getElem?, Array.getElem?_eq_getElem hj']
      simp
      exact .v _
  have hap := hr1.nodup
  unfold Apart at hap
  rw [List.pairwise_append] at hap
  have h1 := hspec w (Zo B (hp ++ rest)) _ hA hap.1 (fun b ⟨p, hp1, hpb⟩ h => h.1 p (List.mem_append_left _ hp1) hpb) fun e he => (hr1.blocks e (List.mem_append_left _ he)).keep (fun b hb _ => ⟨rfl, hb.1, hb.2⟩) fun g _ => rfl
  unfold Oper.wp
  simp only [execOp, ho, resolve, hr.evv hf, Deferred.ofValue, Sem.run_bind, Sem.run_pure, Result.andThen_ok, invoke, hcall, Array.empty_append]
  simp only [Oper.upon]
  refine h1.mono fun e w' hret => ?_
  obtain ⟨y, v, hp', k1, rfl, k2, k3, k4, k5, k6⟩ := hret
  obtain ⟨hr', hz⟩ := hr1.afterH hB k2 k4 k5 k6
  exact hn _ _ _ (hK y hp' k1) (hr'.put _ hd _ _ (k3.keep fun b hb _ => ⟨rfl, hz b hb⟩)) (k6.mono fun b _ h => .inr (hW b h))
theorem OpE.callH0 {f : Operand} {F : FuncId} {caps : Array Value} {args : Array Operand} {ts : Array TypeId} {xs : List AV} {hp : List Ent} {G : AV → List Ent → Prop} (ho : o.op = .call { callee := .value f, args := args, argTypes := ts }) (hB : B.Ok) (hd : okd B.nt o.dst = true)
    (hcall : ∀ us w, (callFunc F us).run P w = .ok (.enter F us) w) (hf : evO s f = some (.v (.func (.func F) #[] caps))) (hxs : evL s args.toList = some xs) (hspec : SpecH P F (xs ++ caps.toList.map .v) hp G) (hsp : s.hp.Perm hp) (hW : ∀ b, BlkL hp b → W b)
    (hK : ∀ y hp', G y hp' → K ((St'.mk s.sl hp' s.k).put o.dst y)) : OpE P B W s o K :=
  OpE.callH (rest := []) ho hB hd hcall hf hxs hspec (by rw [List.append_nil]; exact hsp) hW fun y hp' h => by rw [List.append_nil]; exact hK y hp' h
end
end Go.Proofs.YtgikefjbdhnffaaDoor
