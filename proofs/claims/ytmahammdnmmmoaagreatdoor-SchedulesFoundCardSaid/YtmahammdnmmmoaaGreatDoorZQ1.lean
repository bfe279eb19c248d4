/- Part 1 of a proof: the walks and laws that it needs. -/
import Derived.Test.YtmahammdnmmmoaaGreatDoorZN3
namespace Go.Proofs.YtmahammdnmmmoaaGreatDoor
open Go.RowKit
set_option linter.unusedVariables false
set_option linter.unusedSimpArgs false
def Zt (w : World) (A : Nat → Prop) (hp' : List Ent) (w' : World) : Nat → Prop := fun b => b < w'.heap.size ∧ ¬ BlkL hp' b ∧ (b < w.heap.size → A b)
def SpecTO (P : Program) (T : World → Nat → Prop) (str : Nat → Prop) (F : FuncId) (xs : List AV) (c : Nat) (G : AV → List Ent → Prop) : Prop :=
 ∀ (w : World) (A : Nat → Prop) (us : Array Value) (k : Nat), Args w A xs us → T w k → (∀ b, str b → ¬ A b) → k + c ≤ 1000000 →
  Calls P F us w fun e w' => ∃ y v hp', G y hp' ∧ e = .returned v ∧ Apart hp' ∧ Rep w' (Zt w A hp' w') y v ∧ (∀ e ∈ hp', EntR w' (Zt w A hp' w') e) ∧ (∀ b, BlkL hp' b → w.heap.size ≤ b) ∧ Chg str w w' ∧ T w' (k + c)
theorem SpecTO.mono {P : Program} {T : World → Nat → Prop} {str : Nat → Prop} {F : FuncId} {xs : List AV} {c : Nat} {G G' : AV → List Ent → Prop} (h : SpecTO P T str F xs c G) (hg : ∀ y hp', G y hp' → G' y hp') : SpecTO P T str F xs c G' := fun w A us k h1 h2 h3 h4 =>
 (h w A us k h1 h2 h3 h4).mono fun e w' ⟨y, v, hp', k1, k2⟩ => ⟨y, v, hp', hg _ _ k1, k2⟩
theorem SpecTO.of_VC {P : Program} {F : FuncId} {fn : Func} {c : Code} (hf : P.funcs[F]? = some fn) (hb : fn.body = some c) {xs : List AV} {G : AV → List Ent → Prop} {nt n : Nat} (hn : fn.ntmps = nt) (hle : xs.length ≤ nt) {T : World → Nat → Prop} {str low : Nat → Prop}
  (hok : ∀ w A k, T w k → (B1 w A nt str low T).Ok)
  (h : ∀ w A k, k + n ≤ 1000000 → (B1 w A nt str low T).Ok → VC P (B1 w A nt str low T) c (retS P fn fun y s => G y s.hp ∧ s.k ≤ k + n) ⟨slots0 0 xs, [], k⟩) : SpecTO P T str F xs n G := fun w A us k ha hT hSA hk =>
 (calls_of_VC (k := k) hf hb (B := B1 w A nt str low T) rfl hn.symm ha hSA hT (by omega) (h w A k hk (hok w A k hT))).mono fun e w' ⟨y, v, s, a, h1, h2, h3, h4⟩ => by
  have hB := hok w A k hT
  have hZ : ∀ b, Zn (B1 w A nt str low T) s.hp w' b → Zt w A s.hp w' b := fun b hb => ⟨hb.1, fun ⟨p, hp1, hp2⟩ => hb.2.1 p hp1 hp2, fun hl => (hb.2.2 hl).1.resolve_right (hb.2.2 hl).2⟩
  refine ⟨y, v, s.hp, h1.1, h2, h4.nodup, h3.keep fun b hb _ => ⟨rfl, hZ b hb⟩, fun p hp' => (h4.blocks p hp').keep (fun b hb _ => ⟨rfl, hZ b hb⟩) fun g _ => rfl, fun b ⟨p, hp1, hp2⟩ => ?_, h4.chg, hB.up h4.res h1.2⟩
  obtain ⟨q1, q2⟩ := h4.own p hp1 b hp2
  rcases Nat.lt_or_ge b w.heap.size with hl | hl
  ·exact absurd (hB.str b (q2 hl)).1 q1
  ·exact hl
section
variable {P : Program} {B : Bs} {W : Nat → Prop} {s : St'} {o : Oper} {K : St' → Prop} {a : Act} {w w' : World}
theorem R.afterT (hB : B.Ok) (hr : R B s a w) {hp' : List Ent} {k' : Nat} (hap : Apart hp') (hE : ∀ e ∈ hp', EntR w' (Zt w (Zo B s.hp) hp' w') e) (hnw : ∀ b, BlkL hp' b → w.heap.size ≤ b) (hc : Chg B.str w w') (hT : B.T w' k') :
  R B ⟨s.sl, s.hp ++ hp', k'⟩ a w' ∧ ∀ b, Zt w (Zo B s.hp) hp' w' b → Zn B (s.hp ++ hp') w' b := by
 have hw0 := hr.chg.size
 have hns : ∀ b, Zn B s.hp w b → ¬ B.str b := fun b hb hs => by
  obtain ⟨h1, h2⟩ := hB.str b hs
  exact (hb.2.2 (hB.low b h1)).2 hs
 have hz : ∀ b, Zn B s.hp w b → b < w.heap.size → w'.heap[b]? = w.heap[b]? ∧ Zn B (s.hp ++ hp') w' b := fun b hb hl => by
  refine ⟨hc.block b hl (hns b hb), Nat.lt_of_lt_of_le hl hc.size, fun p hp1 hpb => ?_, hb.2.2⟩
  rcases List.mem_append.1 hp1 with h | h
  ·exact hb.2.1 p h hpb
  ·have := hnw b ⟨p, h, hpb⟩; omega
 have hz2 : ∀ b, Zt w (Zo B s.hp) hp' w' b → Zn B (s.hp ++ hp') w' b := fun b hb => by
  refine ⟨hb.1, fun p hp1 hpb => ?_, fun h0 => (hb.2.2 (Nat.lt_of_lt_of_le h0 hw0)).2 h0⟩
  rcases List.mem_append.1 hp1 with h | h
  ·exact (hb.2.2 (hr.lt p h b hpb)).1 p h hpb
  ·exact hb.2.1 ⟨p, h, hpb⟩
 refine ⟨⟨fun t x hx => (hr.slots t x hx).keep hz, hr.size, hr.defs, fun p hp1 => ?_, ?_, hr.chg.trans (hc.mono fun b _ h => (hB.str b h).2), fun p hp1 g hg => ?_, hT⟩, hz2⟩
 ·rcases List.mem_append.1 hp1 with h | h
  ·exact (hr.blocks p h).keep hz fun g hg => hc.block g (hr.lt p h g hg) fun hs => (hr.own p h g hg).1 (hB.str g hs).1
  ·exact (hE p h).keep (fun b hb _ => ⟨rfl, hz2 b hb⟩) fun g _ => rfl
 ·unfold Apart
  rw [List.pairwise_append]
  exact ⟨hr.nodup, hap, fun p hp1 q hq g hpg hqg => by have := hr.lt p hp1 g hpg; have := hnw g ⟨q, hq, hqg⟩; omega⟩
 ·rcases List.mem_append.1 hp1 with h | h
  ·exact hr.own p h g hg
  ·have := hnw g ⟨p, h, hg⟩
   exact ⟨fun hlow => by have := hB.low g hlow; omega, fun h0 => by omega⟩
theorem OpE.callTO {f : FuncId} {args : Array Operand} {ts : Array TypeId} {xs : List AV} {G : AV → List Ent → Prop} {c : Nat} (kk : Nat) (hkk : s.k = kk) (ho : o.op = .call { callee := .value (.func f), args := args, argTypes := ts }) (hB : B.Ok) (hd : okd B.nt o.dst = true)
  (hcall : ∀ us w, (callFunc f us).run P w = .ok (.enter f us) w) (hxs : evL s args.toList = some xs) (hspec : SpecTO P B.T B.str f xs c G) (hk : kk + c ≤ 1000000) (hK : ∀ y hp', G y hp' → K ((St'.mk s.sl (s.hp ++ hp') (kk + c)).put o.dst y)) : OpE P B W s o K := by
 subst hkk
 intro a w hr next Qx hn
 have h1 := hspec w (Zo B s.hp) _ s.k (evL_args hr hxs) hr.res (fun b hb hA => (hA.2 (hB.low b (hB.str b hb).1)).2 hb) hk
 unfold Oper.wp
 simp only [execOp, ho, resolve, Act.eval, Deferred.ofValue, Sem.run_bind, Sem.run_pure, Result.andThen_ok, invoke, hcall, Array.empty_append, Array.append_empty]
 simp only [Oper.upon]
 refine h1.mono fun e w' hret => ?_
 obtain ⟨y, v, hp', h2, rfl, h3, h4, h5, h6, h7, h8⟩ := hret
 obtain ⟨hr', hz⟩ := hr.afterT hB h3 h5 h6 h7 h8
 exact hn _ _ _ (hK y hp' h2) (hr'.put _ hd _ _ (h4.keep fun b hb hl => ⟨rfl, hz b hb⟩)) (h7.mono fun b _ h => .inl h)
end
end Go.Proofs.YtmahammdnmmmoaaGreatDoor
namespace Go.Proofs.YtmahammdnmmmoaaGreatDoor
open Go.RowKit
set_option linter.unusedVariables false
set_option linter.unusedSimpArgs false
set_option maxRecDepth 100000 in
set_option maxHeartbeats 40000000 in
theorem orders_O {p : Nat} {L : List Int} {m : Nat} (hm : m ≤ 20) :
    SpecTO Tryz.prog (TT p L) (fun b => b = p) 16 [sp p, avI (m : Int)] 100 (fun y hp' => ∃ (o : List OrdrS) (u : Value), (o.length ≤ m ∧ OOk o) ∧ y = .v u ∧ hp' = [.row u o.length 5 (rowL o) 35]) := by
  refine SpecTO.of_VC Tryz.func16 rfl Tryz.ntmps16 (Nle rfl) (low := (fun b => b ≤ p)) (fun w A k h => h.ok) fun w A k hk hB => ?_
  have hnew : True := trivial
  refine VC.sr ?_
  refine VO.ma rfl rfl rfl rfl ?_
  refine VO.nil ?_
  refine VC.sr ?_
  refine VO.ma rfl rfl rfl rfl ?_
  refine VO.nil ?_
  refine VC.seq ?_
  refine VC.sr ?_
  refine VO.mv rfl rfl rfl rfl ?_
  refine VO.mv rfl rfl rfl rfl ?_
  refine VO.op rfl (OpE.callT' (k) rfl rfl hB rfl Tryz.call40 rfl ((range_T (by omega) (by omega) (by omega))) (by omega) ?_)
  rintro _ ⟨r10, hr10, rfl⟩
  obtain ⟨N, rfl⟩ : ∃ N : Nat, r10 = N := ⟨r10.toNat, by omega⟩
  refine VO.mv rfl rfl rfl rfl ?_
  refine VO.nil ?_
  refine VC.block ?_
  refine VC.le _ (Le.nilRow 5 35) ?_
  refine VC.loopK [(0, _)] ⟨rfl, trivial⟩ ({t : Value × List OrdrS × Nat // t.2.2 ≤ N ∧ t.2.1.length = t.2.2 ∧ OOk t.2.1}) (fun (iZ : {t : Value × List OrdrS × Nat // t.2.2 ≤ N ∧ t.2.1.length = t.2.2 ∧ OOk t.2.1}) => match iZ with | ⟨⟨u, l, q⟩, hq, hl, hok⟩ => [(5, .v u), (10, avI (N : Int)), (11, avI (q : Int))]) (fun (iZ : {t : Value × List OrdrS × Nat // t.2.2 ≤ N ∧ t.2.1.length = t.2.2 ∧ OOk t.2.1}) => match iZ with | ⟨⟨u, l, q⟩, hq, hl, hok⟩ => [.row u l.length 5 (rowL l) 35]) (fun (iZ : {t : Value × List OrdrS × Nat // t.2.2 ≤ N ∧ t.2.1.length = t.2.2 ∧ OOk t.2.1}) => match iZ with | ⟨⟨u, l, q⟩, hq, hl, hok⟩ => k + 1 + 4 * q) (fun (iZ : {t : Value × List OrdrS × Nat // t.2.2 ≤ N ∧ t.2.1.length = t.2.2 ∧ OOk t.2.1}) => match iZ with | ⟨⟨u, l, q⟩, hq, hl, hok⟩ => N - q) ⟨(.slice none 0 0, [], 0), Nat.zero_le _, rfl, fun x h => by simp at h⟩ (Le.mk hB [0] ⟨rfl, rfl, rfl, rfl, trivial⟩ rfl rfl (show k + 1 ≤ k + 1 + 4 * 0 by omega)) ?_
  rintro ⟨⟨u, l, q⟩, hq, hl, hok⟩
  show VC _ _ _ _ ⟨[(5, .v u), (10, avI (N : Int)), (11, avI (q : Int))] ++ [(0, _)], [.row u l.length 5 (rowL l) 35], k + 1 + 4 * q⟩
  simp only at hq hl hok
  refine VC.sr ?_
  refine VO.val rfl rfl (OpV.lss rfl rfl rfl) ?_
  refine VO.nil ?_
  refine VC.seq ?_
  refine VC.cond rfl (fun aH1b => ?_) (fun aH1b => ?_)
  · have aH1 := aH1b
    try simp only [qqT, qqF, qqN, qqM, qqL, qqE] at aH1
    refine VC.skip ?_
    refine VC.seq ?_
    refine VC.block ?_
    refine VC.sr ?_
    refine VO.mv rfl rfl rfl rfl ?_
    refine VO.ma rfl rfl rfl rfl ?_
    refine VO.nil ?_
    refine VC.region ?_
    refine VO.mv rfl rfl rfl rfl ?_
    refine VO.mv rfl rfl rfl rfl ?_
    refine VO.val rfl rfl (OpV.add rfl rfl rfl (by unfold fits; omega)) ?_
    refine VO.val rfl rfl (OpV.conv rfl Tryz.underlying3 Tryz.underlying21 rfl (IntWalk.i32_in _ (by omega))) ?_
    refine VO.val rfl rfl (OpV.convStr rfl Tryz.underlying21 Tryz.underlying9 rfl) ?_
    refine VO.val rfl rfl (OpV.sadd rfl rfl rfl (by have := encO_small (97 + (q : Int)); have h1 : (⟨#[111]⟩ : ByteArray).size = 1 := rfl; omega)) ?_
    refine VO.mv rfl rfl rfl rfl ?_
    refine VO.op rfl (OpE.buildSlice (zc := #[.string ⟨#[]⟩, .string ⟨#[]⟩, .string ⟨#[]⟩, .string ⟨#[]⟩]) rfl hB rfl Tryz.underlying95 Tryz.sizeOf9 Tryz.zeroValue9 (by decide) (by decide) (by kernel_rfl) rfl rfl ?_)
    refine VO.op rfl (OpE.callT' (k + 1 + 4 * q) rfl rfl hB rfl Tryz.call32 rfl ((some_T 1000 (by rfl) (by decide) (by decide) (by repeat (first | exact AllS.nil | refine AllS.cons (by first | decide | omega) ?_)))) (by omega) ?_)
    rintro _ ⟨r22, hr22, rfl⟩
    refine VO.mv rfl rfl rfl rfl ?_
    refine VO.op rfl (OpE.callT' (k + 1 + 4 * q + 1) rfl rfl hB rfl Tryz.call40 rfl ((range_T (by omega) (by omega) (by omega))) (by omega) ?_)
    rintro _ ⟨r24, hr24, rfl⟩
    refine VO.mv rfl rfl rfl rfl ?_
    refine VO.op rfl (OpE.buildSlice (zc := #[.int .i64 0, .int .i64 0, .int .i64 0, .int .i64 0]) rfl hB rfl Tryz.underlying22 Tryz.sizeOf3 Tryz.zeroValue3 (by decide) (by decide) (by kernel_rfl) rfl rfl ?_)
    refine VO.op rfl (OpE.callT' (k + 1 + 4 * q + 1 + 1) rfl rfl hB rfl Tryz.call21 rfl (pick_X (by rfl) (by decide) (by decide) (by repeat (first | exact AllX.nil | refine AllX.cons ?_))) (by omega) ?_)
    rintro _ ⟨r27, rfl⟩
    refine VO.mv rfl rfl rfl rfl ?_
    refine VO.op rfl (OpE.buildSlice (zc := #[.int .i64 0, .int .i64 0, .int .i64 0, .int .i64 0, .int .i64 0]) rfl hB rfl Tryz.underlying22 Tryz.sizeOf3 Tryz.zeroValue3 (by decide) (by decide) (by kernel_rfl) rfl rfl ?_)
    refine VO.op rfl (OpE.callT' (k + 1 + 4 * q + 1 + 1 + 1) rfl rfl hB rfl Tryz.call21 rfl (pick_X (by rfl) (by decide) (by decide) (by repeat (first | exact AllX.nil | refine AllX.cons ?_))) (by omega) ?_)
    rintro _ ⟨r30, rfl⟩
    refine VO.val rfl rfl (OpV.build (pls := #[(0, 1), (1, 1), (2, 1), (3, 1), (4, 1)]) rfl Tryz.zeroValue35 Tryz.underlying35 (fun w => by kernel_rfl) rfl rfl) ?_
    refine VO.op rfl (OpE.buildSlice (zc := #[.string ⟨#[]⟩, .string ⟨#[]⟩, .int .i64 0, .int .i64 0, .int .i64 0]) rfl hB rfl Tryz.underlying28 Tryz.sizeOf35 Tryz.zeroValue35 (by decide) (by decide) (by kernel_rfl) rfl rfl ?_)
    refine VO.op rfl (OpE.append1 (i := 0) rfl hB rfl Tryz.underlying28 (infoOf Tryz.t35 5 (by kernel_rfl) rfl rfl) rfl (by decide) (by decide) rfl rfl rfl rfl (rowL_snoc l (⟨keyO q, r22, r24, r27, r30⟩ : OrdrS)) (by omega) (fun _ _ => trivial) ?_)
    intro u2
    refine VO.ma rfl rfl rfl rfl ?_
    refine VO.nil ?_
    refine VC.region ?_
    refine VO.val rfl rfl (OpV.add rfl rfl rfl (by unfold fits; omega)) ?_
    refine VO.mv rfl rfl rfl rfl ?_
    refine VO.nil ?_
    exact Exists.intro (⟨(u2, l ++ [⟨keyO q, r22, r24, r27, r30⟩], q + 1), by show q + 1 ≤ N; omega, by show (l ++ [_]).length = q + 1; simp; omega, hok.snoc ⟨keyO_size q, hr22, keyO_ne (by omega)⟩⟩) (And.intro (Le.mk hB [0] ⟨rfl, rfl, rfl, rfl, trivial⟩ rfl (by dsimp only; rw [List.length_append]; rfl) (show k + 1 + 4 * q + 1 + 1 + 1 + 1 ≤ k + 1 + 4 * (q + 1) by omega)) (by first | omega | (show _ < _; omega) | (simp only []; omega)))
  · have aH1 := aH1b
    try simp only [qqT, qqF, qqN, qqM, qqL, qqE] at aH1
    refine VC.exit ?_
    refine VC.seq ?_
    refine VC.sr ?_
    refine VO.mv rfl rfl rfl rfl ?_
    refine VO.val rfl rfl (OpV.len_row (i := 0) rfl Tryz.underlying28 rfl rfl) ?_
    refine VO.val rfl rfl (OpV.gtr rfl rfl rfl) ?_
    refine VO.mv rfl rfl rfl rfl ?_
    refine VO.opG rfl rfl rfl rfl (fun aK2b => ?_) (fun aK2b => ?_)
    · replace aK2b : _ = true := aK2b
      have aK2 := aK2b
      try simp only [qqT, qqF, qqN, qqM, qqL, qqE] at aK2
      refine OpE.val (W := NoB) (OpV.move (.inl rfl) rfl) rfl ?_
      refine VO.opY rfl rfl rfl rfl aK2b ?_
      refine OpE.callT' (k + 1 + 4 * q) rfl rfl hB rfl Tryz.call17 rfl ((flip_T (by omega))) (by omega) ?_
      rintro _ ⟨r40, rfl⟩
      refine VO.val rfl rfl (OpV.pickT rfl rfl rfl rfl aK2b) ?_
      refine VO.nil ?_
      refine VC.cond rfl (fun aH3b => ?_) (fun aH3b => ?_)
      · have aH3 := aH3b
        try simp only [qqT, qqF, qqN, qqM, qqL, qqE] at aH3
        refine VC.seq ?_
        refine VC.asBox (i := 0) rfl (by omega) (fun gr cap hu hcap hmx => ?_)
        subst hu
        refine VC.region ?_
        refine VO.mv rfl rfl rfl rfl ?_
        refine VO.mv rfl rfl rfl rfl ?_
        refine VO.mv rfl rfl rfl rfl ?_
        refine VO.val rfl rfl (OpV.len_v rfl Tryz.underlying28 rfl) ?_
        refine VO.op rfl (OpE.callT' (k + 1 + 4 * q + 1) rfl rfl hB rfl Tryz.call42 rfl ((next_T (by omega))) (by omega) ?_)
        rintro _ ⟨r46, hr46, rfl⟩
        obtain ⟨i, rfl⟩ : ∃ i : Nat, r46 = i := ⟨r46.toNat, by omega⟩
        refine VO.val rfl rfl (OpV.indexAddr_q rfl Tryz.underlying28 Tryz.sizeOf35 rfl rfl rfl (by omega)) ?_
        refine VO.ma rfl rfl rfl rfl ?_
        refine VO.nil ?_
        refine VC.draw (fun j b => j ∈ [54, 57, 60, 63, 66] ∧ b = gr) hB (by kernel_rfl) ?_
        refine VA.take (i := 0) rfl (by decide +kernel) (by decide +kernel) (by decide +kernel) rfl rfl (OpV.move (.inl rfl) rfl) ?_
        refine VA.take (i := 1) rfl (by decide +kernel) (by decide +kernel) (by decide +kernel) rfl rfl (OpV.move (.inl rfl) rfl) ?_
        refine VA.take (i := 2) rfl (by decide +kernel) (by decide +kernel) (by decide +kernel) rfl rfl (OpV.move (.inl rfl) rfl) ?_
        refine VA.take (i := 3) rfl (by decide +kernel) (by decide +kernel) (by decide +kernel) rfl rfl (OpV.move (.inl rfl) rfl) ?_
        refine VA.take (i := 4) rfl (by decide +kernel) (by decide +kernel) (by decide +kernel) rfl rfl (OpV.move (.inl rfl) rfl) ?_
        refine VA.take (i := 5) rfl (by decide +kernel) (by decide +kernel) (by decide +kernel) rfl rfl (OpV.move (.inl rfl) rfl) ?_
        refine VA.take (i := 6) rfl (by decide +kernel) (by decide +kernel) (by decide +kernel) rfl rfl (OpV.move (.inl rfl) rfl) ?_
        refine VA.take (i := 7) rfl (by decide +kernel) (by decide +kernel) (by decide +kernel) rfl rfl (OpV.nilCheck rfl rfl) ?_
        refine VA.take (i := 8) rfl (by decide +kernel) (by decide +kernel) (by decide +kernel) rfl rfl (OpV.fieldAddrO 0 rfl Tryz.underlying35 rfl rfl Tryz.sizeOf9 rfl) ?_
        refine VA.take (i := 9) rfl (by decide +kernel) (by decide +kernel) (by decide +kernel) rfl rfl (OpV.load_own (i := 0) rfl hB Tryz.isAgg9 rfl rfl (rowL_at rfl (by omega) (by decide)) (Wi.notD (by decide +kernel))) ?_
        refine VA.take (i := 10) rfl (by decide +kernel) (by decide +kernel) (by decide +kernel) rfl rfl (OpV.move (.inl rfl) rfl) ?_
        refine VA.take (i := 11) rfl (by decide +kernel) (by decide +kernel) (by decide +kernel) rfl rfl (OpV.nilCheck rfl rfl) ?_
        refine VA.take (i := 12) rfl (by decide +kernel) (by decide +kernel) (by decide +kernel) rfl rfl (OpV.fieldAddrO 0 rfl Tryz.underlying35 rfl rfl Tryz.sizeOf9 rfl) ?_
        refine VA.take (i := 13) rfl (by decide +kernel) (by decide +kernel) (by decide +kernel) rfl rfl (OpV.load_own (i := 0) rfl hB Tryz.isAgg9 rfl rfl (rowL_at rfl (by omega) (by decide)) (Wi.notD (by decide +kernel))) ?_
        refine VA.take (i := 16) rfl (by decide +kernel) (by decide +kernel) (by decide +kernel) rfl rfl (OpV.move (.inl rfl) rfl) ?_
        refine VA.take (i := 17) rfl (by decide +kernel) (by decide +kernel) (by decide +kernel) rfl rfl (OpV.move (.inl rfl) rfl) ?_
        refine VA.take (i := 18) rfl (by decide +kernel) (by decide +kernel) (by decide +kernel) rfl rfl (OpV.nilCheck rfl rfl) ?_
        refine VA.take (i := 19) rfl (by decide +kernel) (by decide +kernel) (by decide +kernel) rfl rfl (OpV.fieldAddrO 1 rfl Tryz.underlying35 rfl rfl Tryz.sizeOf9 rfl) ?_
        refine VA.take (i := 20) rfl (by decide +kernel) (by decide +kernel) (by decide +kernel) rfl rfl (OpV.load_own (i := 0) rfl hB Tryz.isAgg9 rfl rfl (rowL_at rfl (by omega) (by decide)) (Wi.notD (by decide +kernel))) ?_
        refine VA.take (i := 21) rfl (by decide +kernel) (by decide +kernel) (by decide +kernel) rfl rfl (OpV.move (.inl rfl) rfl) ?_
        refine VA.take (i := 22) rfl (by decide +kernel) (by decide +kernel) (by decide +kernel) rfl rfl (OpV.nilCheck rfl rfl) ?_
        refine VA.take (i := 23) rfl (by decide +kernel) (by decide +kernel) (by decide +kernel) rfl rfl (OpV.fieldAddrO 1 rfl Tryz.underlying35 rfl rfl Tryz.sizeOf9 rfl) ?_
        refine VA.take (i := 24) rfl (by decide +kernel) (by decide +kernel) (by decide +kernel) rfl rfl (OpV.load_own (i := 0) rfl hB Tryz.isAgg9 rfl rfl (rowL_at rfl (by omega) (by decide)) (Wi.notD (by decide +kernel))) ?_
        refine VA.take (i := 27) rfl (by decide +kernel) (by decide +kernel) (by decide +kernel) rfl rfl (OpV.move (.inl rfl) rfl) ?_
        refine VA.take (i := 28) rfl (by decide +kernel) (by decide +kernel) (by decide +kernel) rfl rfl (OpV.move (.inl rfl) rfl) ?_
        refine VA.take (i := 29) rfl (by decide +kernel) (by decide +kernel) (by decide +kernel) rfl rfl (OpV.nilCheck rfl rfl) ?_
        refine VA.take (i := 30) rfl (by decide +kernel) (by decide +kernel) (by decide +kernel) rfl rfl (OpV.fieldAddrO 2 rfl Tryz.underlying35 rfl rfl Tryz.sizeOf3 rfl) ?_
        refine VA.take (i := 31) rfl (by decide +kernel) (by decide +kernel) (by decide +kernel) rfl rfl (OpV.load_own (i := 0) rfl hB Tryz.isAgg3 rfl rfl (rowL_at rfl (by omega) (by decide)) (Wi.notD (by decide +kernel))) ?_
        refine VA.take (i := 34) rfl (by decide +kernel) (by decide +kernel) (by decide +kernel) rfl rfl (OpV.move (.inl rfl) rfl) ?_
        refine VA.take (i := 35) rfl (by decide +kernel) (by decide +kernel) (by decide +kernel) rfl rfl (OpV.move (.inl rfl) rfl) ?_
        refine VA.take (i := 36) rfl (by decide +kernel) (by decide +kernel) (by decide +kernel) rfl rfl (OpV.nilCheck rfl rfl) ?_
        refine VA.take (i := 37) rfl (by decide +kernel) (by decide +kernel) (by decide +kernel) rfl rfl (OpV.fieldAddrO 3 rfl Tryz.underlying35 rfl rfl Tryz.sizeOf3 rfl) ?_
        refine VA.take (i := 38) rfl (by decide +kernel) (by decide +kernel) (by decide +kernel) rfl rfl (OpV.load_own (i := 0) rfl hB Tryz.isAgg3 rfl rfl (rowL_at rfl (by omega) (by decide)) (Wi.notD (by decide +kernel))) ?_
        refine VA.take (i := 41) rfl (by decide +kernel) (by decide +kernel) (by decide +kernel) rfl rfl (OpV.move (.inl rfl) rfl) ?_
        refine VA.take (i := 42) rfl (by decide +kernel) (by decide +kernel) (by decide +kernel) rfl rfl (OpV.move (.inl rfl) rfl) ?_
        refine VA.take (i := 43) rfl (by decide +kernel) (by decide +kernel) (by decide +kernel) rfl rfl (OpV.nilCheck rfl rfl) ?_
        refine VA.take (i := 44) rfl (by decide +kernel) (by decide +kernel) (by decide +kernel) rfl rfl (OpV.fieldAddrO 4 rfl Tryz.underlying35 rfl rfl Tryz.sizeOf3 rfl) ?_
        refine VA.take (i := 45) rfl (by decide +kernel) (by decide +kernel) (by decide +kernel) rfl rfl (OpV.load_own (i := 0) rfl hB Tryz.isAgg3 rfl rfl (rowL_at rfl (by omega) (by decide)) (Wi.notD (by decide +kernel))) ?_
        refine VA.take (i := 46) rfl (by decide +kernel) (by decide +kernel) (by decide +kernel) rfl rfl (OpV.move (.inl rfl) rfl) ?_
        refine VA.take (i := 47) rfl (by decide +kernel) (by decide +kernel) (by decide +kernel) rfl rfl (OpV.nilCheck rfl rfl) ?_
        refine VA.take (i := 48) rfl (by decide +kernel) (by decide +kernel) (by decide +kernel) rfl rfl (OpV.fieldAddrO 4 rfl Tryz.underlying35 rfl rfl Tryz.sizeOf3 rfl) ?_
        refine VA.take (i := 49) rfl (by decide +kernel) (by decide +kernel) (by decide +kernel) rfl rfl (OpV.load_own (i := 0) rfl hB Tryz.isAgg3 rfl rfl (rowL_at rfl (by omega) (by decide)) (Wi.notD (by decide +kernel))) ?_
        refine VA.bind (fun F hF => ?_)
        have hS0 : ∀ (r63 : ByteArray) (hr63 : r63.size ≤ 1000 ∧ r63 ≠ ozK) (r74 : ByteArray) (hr74 : r74.size ≤ 1000) (r81 : Int) (r88 : Int) (r99 : Int), F 13 (lstB 67 [0, 1, 2, 3, 4, 5, 6, 7, 8, 9, 10, 11, 12, 13, 14, 15, 16, 17, 18, 19, 20, 21, 22, 23, 24, 25, 26, 27, 28, 29, 30, 31, 32, 33, 34, 35, 36, 37, 38, 39, 40, 41, 42, 43, 44, 45, 46, 47, 48, 49, 50, 51, 52, 53]) ⟨[(0, sp p), (53, sp p), (64, sp p), (75, sp p), (82, sp p), (89, sp p), (48, (pO gr (0 + i * 5))), (49, (pO gr (0 + i * 5))), (50, (pO gr (0 + i * 5))), (51, (pO gr (0 + i * 5))), (52, (pO gr (0 + i * 5))), (57, avS (xO l i).key), (61, avS (xO l i).key), (68, avS (xO l i).product), (72, avS (xO l i).product), (79, avI (xO l i).count), (86, avI (xO l i).ready), (93, avI (xO l i).due), (97, avI (xO l i).due), (5, .v (.slice (some ⟨gr, 0, none⟩) l.length cap)), (62, (iO 4 [avS (xO l i).key, avS (xO l i).key, avS ⟨#[]⟩, avS ⟨#[111, 97]⟩])), (63, avS r63), (73, (iO 4 [avS (xO l i).product, avS (xO l i).product, avS ⟨#[122, 122]⟩, avS ⟨#[]⟩])), (74, avS r74), (80, (iO 3 [avI (xO l i).count, avI 0, avI 100001])), (81, avI r81), (87, (iO 3 [avI (xO l i).ready, avI (-1), avI 345686400000])), (88, avI r88), (98, (iO 3 [avI (xO l i).due, avI (xO l i).due, avI 345686400000])), (99, avI r99), (101, (pO gr (0 + i * 5 + 0)))], [.box gr ⟨rowL l, 35, cap * 5⟩], k + 1 + 4 * q + 1 + 1 + 1 + 1 + 1 + 1 + 1⟩ := by
          intro r63 hr63 r74 hr74 r81 r88 r99
          rw [hF]
          refine VA.all (rs := [54]) (by decide +kernel) (by decide) ?_
          refine ⟨⟨_, rfl, .inl rfl, ?_⟩, trivial⟩
          refine OpE.store1 (i := 0) rfl hB rfl Tryz.sizeOf9 rfl rfl rfl rfl rfl rfl (rowL_in rfl (by omega) (by decide)) (rowL_set (x := ({l.getD i default with key := r63} : OrdrS)) rfl (by omega) (by decide) rfl (fun i hi hn => or_upd (by simp) (by simp) (by simp) (by simp) (by simp) i hi hn)) (by first | exact ⟨rfl, rfl⟩ | exact .inl ⟨rfl, rfl⟩ | exact .inr ⟨rfl, rfl⟩ | exact ⟨rfl, trivial⟩ | exact .inl ⟨rfl, trivial⟩ | exact .inr ⟨rfl, trivial⟩ | exact ⟨by decide, rfl⟩) ?_
          refine VA.take (i := 55) rfl (by decide +kernel) (by decide +kernel) (by decide +kernel) rfl rfl (OpV.nilCheck rfl rfl) ?_
          refine VA.take (i := 56) rfl (by decide +kernel) (by decide +kernel) (by decide +kernel) rfl rfl (OpV.fieldAddrO 1 rfl Tryz.underlying35 rfl rfl Tryz.sizeOf9 rfl) ?_
          refine VA.all (rs := [57]) (by decide +kernel) (by decide) ?_
          refine ⟨⟨_, rfl, .inl rfl, ?_⟩, trivial⟩
          refine OpE.store1 (i := 0) rfl hB rfl Tryz.sizeOf9 rfl rfl rfl rfl rfl rfl (rowL_in rfl (by first | omega | (simp only [List.length_set]; omega) | (simp; omega)) (by decide)) (rowL_set (x := ({l.getD i default with key := r63, product := r74} : OrdrS)) rfl (by first | omega | (simp only [List.length_set]; omega) | (simp; omega)) (by decide) rfl (fun i hi hn => by rw [getSet_self (by first | omega | (simp only [List.length_set]; omega) | (simp; omega))]; exact or_upd (by simp) (by simp) (by simp) (by simp) (by simp) i hi hn)) (by first | exact ⟨rfl, rfl⟩ | exact .inl ⟨rfl, rfl⟩ | exact .inr ⟨rfl, rfl⟩ | exact ⟨rfl, trivial⟩ | exact .inl ⟨rfl, trivial⟩ | exact .inr ⟨rfl, trivial⟩ | exact ⟨by decide, rfl⟩) ?_
          refine VA.take (i := 58) rfl (by decide +kernel) (by decide +kernel) (by decide +kernel) rfl rfl (OpV.nilCheck rfl rfl) ?_
          refine VA.take (i := 59) rfl (by decide +kernel) (by decide +kernel) (by decide +kernel) rfl rfl (OpV.fieldAddrO 2 rfl Tryz.underlying35 rfl rfl Tryz.sizeOf3 rfl) ?_
          refine VA.all (rs := [60]) (by decide +kernel) (by decide) ?_
          refine ⟨⟨_, rfl, .inl rfl, ?_⟩, trivial⟩
          refine OpE.store1 (i := 0) rfl hB rfl Tryz.sizeOf3 rfl rfl rfl rfl rfl rfl (rowL_in rfl (by first | omega | (simp only [List.length_set]; omega) | (simp; omega)) (by decide)) (rowL_set (x := ({l.getD i default with key := r63, product := r74, count := r81} : OrdrS)) rfl (by first | omega | (simp only [List.length_set]; omega) | (simp; omega)) (by decide) rfl (fun i hi hn => by rw [getSet_self (by first | omega | (simp only [List.length_set]; omega) | (simp; omega))]; exact or_upd (by simp) (by simp) (by simp) (by simp) (by simp) i hi hn)) (by first | exact ⟨rfl, rfl⟩ | exact .inl ⟨rfl, rfl⟩ | exact .inr ⟨rfl, rfl⟩ | exact ⟨rfl, trivial⟩ | exact .inl ⟨rfl, trivial⟩ | exact .inr ⟨rfl, trivial⟩ | exact ⟨by decide, rfl⟩) ?_
          refine VA.take (i := 61) rfl (by decide +kernel) (by decide +kernel) (by decide +kernel) rfl rfl (OpV.nilCheck rfl rfl) ?_
          refine VA.take (i := 62) rfl (by decide +kernel) (by decide +kernel) (by decide +kernel) rfl rfl (OpV.fieldAddrO 3 rfl Tryz.underlying35 rfl rfl Tryz.sizeOf3 rfl) ?_
          refine VA.all (rs := [63]) (by decide +kernel) (by decide) ?_
          refine ⟨⟨_, rfl, .inl rfl, ?_⟩, trivial⟩
          refine OpE.store1 (i := 0) rfl hB rfl Tryz.sizeOf3 rfl rfl rfl rfl rfl rfl (rowL_in rfl (by first | omega | (simp only [List.length_set]; omega) | (simp; omega)) (by decide)) (rowL_set (x := ({l.getD i default with key := r63, product := r74, count := r81, ready := r88} : OrdrS)) rfl (by first | omega | (simp only [List.length_set]; omega) | (simp; omega)) (by decide) rfl (fun i hi hn => by rw [getSet_self (by first | omega | (simp only [List.length_set]; omega) | (simp; omega))]; exact or_upd (by simp) (by simp) (by simp) (by simp) (by simp) i hi hn)) (by first | exact ⟨rfl, rfl⟩ | exact .inl ⟨rfl, rfl⟩ | exact .inr ⟨rfl, rfl⟩ | exact ⟨rfl, trivial⟩ | exact .inl ⟨rfl, trivial⟩ | exact .inr ⟨rfl, trivial⟩ | exact ⟨by decide, rfl⟩) ?_
          refine VA.take (i := 64) rfl (by decide +kernel) (by decide +kernel) (by decide +kernel) rfl rfl (OpV.nilCheck rfl rfl) ?_
          refine VA.take (i := 65) rfl (by decide +kernel) (by decide +kernel) (by decide +kernel) rfl rfl (OpV.fieldAddrO 4 rfl Tryz.underlying35 rfl rfl Tryz.sizeOf3 rfl) ?_
          refine VA.all (rs := [66]) (by decide +kernel) (by decide) ?_
          refine ⟨⟨_, rfl, .inl rfl, ?_⟩, trivial⟩
          refine OpE.store1 (i := 0) rfl hB rfl Tryz.sizeOf3 rfl rfl rfl rfl rfl rfl (rowL_in rfl (by first | omega | (simp only [List.length_set]; omega) | (simp; omega)) (by decide)) (rowL_set (x := ({l.getD i default with key := r63, product := r74, count := r81, ready := r88, due := r99} : OrdrS)) rfl (by first | omega | (simp only [List.length_set]; omega) | (simp; omega)) (by decide) rfl (fun i hi hn => by rw [getSet_self (by first | omega | (simp only [List.length_set]; omega) | (simp; omega))]; exact or_upd (by simp) (by simp) (by simp) (by simp) (by simp) i hi hn)) (by first | exact ⟨rfl, rfl⟩ | exact .inl ⟨rfl, rfl⟩ | exact .inr ⟨rfl, rfl⟩ | exact ⟨rfl, trivial⟩ | exact .inl ⟨rfl, trivial⟩ | exact .inr ⟨rfl, trivial⟩ | exact ⟨by decide, rfl⟩) ?_
          refine VA.done (by decide +kernel) ?_
          refine VC.sr ?_
          refine VO.mv rfl rfl rfl rfl ?_
          refine VO.ma rfl rfl rfl rfl ?_
          refine VO.nil ?_
          refine VC.le _ (Le.boxRow (i := 0) (n := l.length) (sz := 5) rfl (by simp only [rowL_len, List.length_set]; rfl) hcap hmx) ?_
          refine VC.ret ?_
          exact Exists.intro _ (And.intro (RetV.one Tryz.results16 (ResV.tmp rfl)) (And.intro (by first | exact ⟨l, _, ⟨by omega, hok⟩, rfl, rfl⟩ | exact ⟨(((((l.set i ({l.getD i default with key := r63} : OrdrS)).set i ({l.getD i default with key := r63, product := r74} : OrdrS)).set i ({l.getD i default with key := r63, product := r74, count := r81} : OrdrS)).set i ({l.getD i default with key := r63, product := r74, count := r81, ready := r88} : OrdrS)).set i ({l.getD i default with key := r63, product := r74, count := r81, ready := r88, due := r99} : OrdrS)), _, ⟨by simp; omega, by repeat (first | exact hok | refine OOk.set ?_ _ ⟨by first | exact hr63.1 | exact (hok.getD i).1, by first | exact hr74 | exact (hok.getD i).2.1, by first | exact hr63.2 | exact (hok.getD i).2.2⟩)⟩, rfl, by simp only [List.length_set]; rfl⟩) ((show k + 1 + 4 * q + 1 + 1 + 1 + 1 + 1 + 1 + 1 ≤ k + 100 by omega))))
        have hS1 : ∀ (r63 : ByteArray) (hr63 : r63.size ≤ 1000 ∧ r63 ≠ ozK) (r74 : ByteArray) (hr74 : r74.size ≤ 1000) (r81 : Int) (r88 : Int), F 16 (lstB 67 [0, 1, 2, 3, 4, 5, 6, 7, 8, 9, 10, 11, 12, 13, 14, 15, 16, 17, 18, 19, 20, 21, 22, 23, 24, 25, 26, 27, 28, 29, 30, 31, 32, 33, 34, 35, 36, 37, 38, 39, 40, 41, 42, 43, 44, 45, 46, 47, 48, 49, 50]) ⟨[(0, sp p), (53, sp p), (64, sp p), (75, sp p), (82, sp p), (89, sp p), (48, (pO gr (0 + i * 5))), (49, (pO gr (0 + i * 5))), (50, (pO gr (0 + i * 5))), (51, (pO gr (0 + i * 5))), (52, (pO gr (0 + i * 5))), (57, avS (xO l i).key), (61, avS (xO l i).key), (68, avS (xO l i).product), (72, avS (xO l i).product), (79, avI (xO l i).count), (86, avI (xO l i).ready), (93, avI (xO l i).due), (97, avI (xO l i).due), (5, .v (.slice (some ⟨gr, 0, none⟩) l.length cap)), (62, (iO 4 [avS (xO l i).key, avS (xO l i).key, avS ⟨#[]⟩, avS ⟨#[111, 97]⟩])), (63, avS r63), (73, (iO 4 [avS (xO l i).product, avS (xO l i).product, avS ⟨#[122, 122]⟩, avS ⟨#[]⟩])), (74, avS r74), (80, (iO 3 [avI (xO l i).count, avI 0, avI 100001])), (81, avI r81), (87, (iO 3 [avI (xO l i).ready, avI (-1), avI 345686400000])), (88, avI r88), (98, (iO 3 [avI (xO l i).due, avI (xO l i).due, avI 345686400000]))], [.box gr ⟨rowL l, 35, cap * 5⟩], k + 1 + 4 * q + 1 + 1 + 1 + 1 + 1 + 1⟩ := by
          intro r63 hr63 r74 hr74 r81 r88
          rw [hF]
          refine VA.all (rs := [51]) (by decide +kernel) (by decide) ?_
          refine ⟨⟨_, rfl, .inl rfl, ?_⟩, trivial⟩
          refine OpE.callT' (k + 1 + 4 * q + 1 + 1 + 1 + 1 + 1 + 1) rfl rfl hB rfl Tryz.call21 rfl (pick_X (by rfl) (by decide) (by decide) (by repeat (first | exact AllX.nil | refine AllX.cons ?_))) (by omega) ?_
          rintro _ ⟨r99, rfl⟩
          refine VA.take (i := 52) rfl (by decide +kernel) (by decide +kernel) (by decide +kernel) rfl rfl (OpV.nilCheck rfl rfl) ?_
          refine VA.take (i := 53) rfl (by decide +kernel) (by decide +kernel) (by decide +kernel) rfl rfl (OpV.fieldAddrO 0 rfl Tryz.underlying35 rfl rfl Tryz.sizeOf9 rfl) ?_
          have hh := hS0 r63 hr63 r74 hr74 r81 r88 r99
          rw [hF] at hh
          exact VA.to hh (by decide +kernel) (Le.mk hB [0] ⟨rfl, rfl, rfl, rfl, rfl, rfl, rfl, rfl, rfl, rfl, rfl, rfl, rfl, rfl, rfl, rfl, rfl, rfl, rfl, rfl, rfl, rfl, rfl, rfl, rfl, rfl, rfl, rfl, rfl, rfl, rfl, trivial⟩ rfl rfl (Nat.le_refl _))
        have hS2 : ∀ (r63 : ByteArray) (hr63 : r63.size ≤ 1000 ∧ r63 ≠ ozK) (r74 : ByteArray) (hr74 : r74.size ≤ 1000) (r81 : Int) (r88 : Int), F 17 (lstB 67 [0, 1, 2, 3, 4, 5, 6, 7, 8, 9, 10, 11, 12, 13, 14, 15, 16, 17, 18, 19, 20, 21, 22, 23, 24, 25, 26, 27, 28, 29, 30, 31, 32, 33, 34, 35, 36, 37, 38, 39, 40, 41, 42, 43, 44, 45, 46, 47, 48, 49]) ⟨[(0, sp p), (53, sp p), (64, sp p), (75, sp p), (82, sp p), (89, sp p), (48, (pO gr (0 + i * 5))), (49, (pO gr (0 + i * 5))), (50, (pO gr (0 + i * 5))), (51, (pO gr (0 + i * 5))), (52, (pO gr (0 + i * 5))), (57, avS (xO l i).key), (61, avS (xO l i).key), (68, avS (xO l i).product), (72, avS (xO l i).product), (79, avI (xO l i).count), (86, avI (xO l i).ready), (93, avI (xO l i).due), (97, avI (xO l i).due), (5, .v (.slice (some ⟨gr, 0, none⟩) l.length cap)), (62, (iO 4 [avS (xO l i).key, avS (xO l i).key, avS ⟨#[]⟩, avS ⟨#[111, 97]⟩])), (63, avS r63), (73, (iO 4 [avS (xO l i).product, avS (xO l i).product, avS ⟨#[122, 122]⟩, avS ⟨#[]⟩])), (74, avS r74), (80, (iO 3 [avI (xO l i).count, avI 0, avI 100001])), (81, avI r81), (87, (iO 3 [avI (xO l i).ready, avI (-1), avI 345686400000])), (88, avI r88)], [.box gr ⟨rowL l, 35, cap * 5⟩], k + 1 + 4 * q + 1 + 1 + 1 + 1 + 1 + 1⟩ := by
          intro r63 hr63 r74 hr74 r81 r88
          rw [hF]
          refine VA.all (rs := [50]) (by decide +kernel) (by decide) ?_
          refine ⟨⟨_, rfl, .inl rfl, ?_⟩, trivial⟩
          refine OpE.buildSlice (zc := #[.int .i64 0, .int .i64 0, .int .i64 0]) rfl hB rfl Tryz.underlying22 Tryz.sizeOf3 Tryz.zeroValue3 (by decide) (by decide) (by kernel_rfl) rfl rfl ?_
          have hh := hS1 r63 hr63 r74 hr74 r81 r88
          rw [hF] at hh
          exact VA.to hh (by decide +kernel) (Le.mk hB [0] ⟨rfl, rfl, rfl, rfl, rfl, rfl, rfl, rfl, rfl, rfl, rfl, rfl, rfl, rfl, rfl, rfl, rfl, rfl, rfl, rfl, rfl, rfl, rfl, rfl, rfl, rfl, rfl, rfl, rfl, trivial⟩ rfl rfl (Nat.le_refl _))
        have hS3 : ∀ (r63 : ByteArray) (hr63 : r63.size ≤ 1000 ∧ r63 ≠ ozK) (r74 : ByteArray) (hr74 : r74.size ≤ 1000) (r81 : Int), F 17 (lstB 67 [0, 1, 2, 3, 4, 5, 6, 7, 8, 9, 10, 11, 12, 13, 14, 15, 16, 17, 18, 19, 20, 21, 22, 23, 24, 25, 26, 27, 28, 29, 30, 31, 32, 33, 34, 35, 36, 37, 38, 39, 41, 42, 43, 44, 45, 46, 47, 48, 49, 50]) ⟨[(0, sp p), (53, sp p), (64, sp p), (75, sp p), (82, sp p), (89, sp p), (48, (pO gr (0 + i * 5))), (49, (pO gr (0 + i * 5))), (50, (pO gr (0 + i * 5))), (51, (pO gr (0 + i * 5))), (52, (pO gr (0 + i * 5))), (57, avS (xO l i).key), (61, avS (xO l i).key), (68, avS (xO l i).product), (72, avS (xO l i).product), (79, avI (xO l i).count), (86, avI (xO l i).ready), (93, avI (xO l i).due), (97, avI (xO l i).due), (5, .v (.slice (some ⟨gr, 0, none⟩) l.length cap)), (62, (iO 4 [avS (xO l i).key, avS (xO l i).key, avS ⟨#[]⟩, avS ⟨#[111, 97]⟩])), (63, avS r63), (73, (iO 4 [avS (xO l i).product, avS (xO l i).product, avS ⟨#[122, 122]⟩, avS ⟨#[]⟩])), (74, avS r74), (80, (iO 3 [avI (xO l i).count, avI 0, avI 100001])), (81, avI r81), (87, (iO 3 [avI (xO l i).ready, avI (-1), avI 345686400000])), (98, (iO 3 [avI (xO l i).due, avI (xO l i).due, avI 345686400000]))], [.box gr ⟨rowL l, 35, cap * 5⟩], k + 1 + 4 * q + 1 + 1 + 1 + 1 + 1⟩ := by
          intro r63 hr63 r74 hr74 r81
          rw [hF]
          refine VA.all (rs := [40]) (by decide +kernel) (by decide) ?_
          refine ⟨⟨_, rfl, .inl rfl, ?_⟩, trivial⟩
          refine OpE.callT' (k + 1 + 4 * q + 1 + 1 + 1 + 1 + 1) rfl rfl hB rfl Tryz.call21 rfl (pick_X (by rfl) (by decide) (by decide) (by repeat (first | exact AllX.nil | refine AllX.cons ?_))) (by omega) ?_
          rintro _ ⟨r88, rfl⟩
          have hh := hS1 r63 hr63 r74 hr74 r81 r88
          rw [hF] at hh
          exact VA.to hh (by decide +kernel) (Le.mk hB [0] ⟨rfl, rfl, rfl, rfl, rfl, rfl, rfl, rfl, rfl, rfl, rfl, rfl, rfl, rfl, rfl, rfl, rfl, rfl, rfl, rfl, rfl, rfl, rfl, rfl, rfl, rfl, rfl, rfl, rfl, trivial⟩ rfl rfl (Nat.le_refl _))
        have hS4 : ∀ (r63 : ByteArray) (hr63 : r63.size ≤ 1000 ∧ r63 ≠ ozK) (r74 : ByteArray) (hr74 : r74.size ≤ 1000) (r81 : Int), F 18 (lstB 67 [0, 1, 2, 3, 4, 5, 6, 7, 8, 9, 10, 11, 12, 13, 14, 15, 16, 17, 18, 19, 20, 21, 22, 23, 24, 25, 26, 27, 28, 29, 30, 31, 32, 33, 34, 35, 36, 37, 38, 39, 41, 42, 43, 44, 45, 46, 47, 48, 49]) ⟨[(0, sp p), (53, sp p), (64, sp p), (75, sp p), (82, sp p), (89, sp p), (48, (pO gr (0 + i * 5))), (49, (pO gr (0 + i * 5))), (50, (pO gr (0 + i * 5))), (51, (pO gr (0 + i * 5))), (52, (pO gr (0 + i * 5))), (57, avS (xO l i).key), (61, avS (xO l i).key), (68, avS (xO l i).product), (72, avS (xO l i).product), (79, avI (xO l i).count), (86, avI (xO l i).ready), (93, avI (xO l i).due), (97, avI (xO l i).due), (5, .v (.slice (some ⟨gr, 0, none⟩) l.length cap)), (62, (iO 4 [avS (xO l i).key, avS (xO l i).key, avS ⟨#[]⟩, avS ⟨#[111, 97]⟩])), (63, avS r63), (73, (iO 4 [avS (xO l i).product, avS (xO l i).product, avS ⟨#[122, 122]⟩, avS ⟨#[]⟩])), (74, avS r74), (80, (iO 3 [avI (xO l i).count, avI 0, avI 100001])), (81, avI r81), (87, (iO 3 [avI (xO l i).ready, avI (-1), avI 345686400000]))], [.box gr ⟨rowL l, 35, cap * 5⟩], k + 1 + 4 * q + 1 + 1 + 1 + 1 + 1⟩ := by
          intro r63 hr63 r74 hr74 r81
          rw [hF]
          refine VA.all (rs := [40, 50]) (by decide +kernel) (by decide) ?_
          refine ⟨⟨_, rfl, .inl rfl, ?_⟩, ⟨_, rfl, .inl rfl, ?_⟩, trivial⟩
          ·
            refine OpE.callT' (k + 1 + 4 * q + 1 + 1 + 1 + 1 + 1) rfl rfl hB rfl Tryz.call21 rfl (pick_X (by rfl) (by decide) (by decide) (by repeat (first | exact AllX.nil | refine AllX.cons ?_))) (by omega) ?_
            rintro _ ⟨r88, rfl⟩
            have hh := hS2 r63 hr63 r74 hr74 r81 r88
            rw [hF] at hh
            exact VA.to hh (by decide +kernel) (Le.mk hB [0] ⟨rfl, rfl, rfl, rfl, rfl, rfl, rfl, rfl, rfl, rfl, rfl, rfl, rfl, rfl, rfl, rfl, rfl, rfl, rfl, rfl, rfl, rfl, rfl, rfl, rfl, rfl, rfl, rfl, trivial⟩ rfl rfl (Nat.le_refl _))
          ·
            refine OpE.buildSlice (zc := #[.int .i64 0, .int .i64 0, .int .i64 0]) rfl hB rfl Tryz.underlying22 Tryz.sizeOf3 Tryz.zeroValue3 (by decide) (by decide) (by kernel_rfl) rfl rfl ?_
            have hh := hS3 r63 hr63 r74 hr74 r81
            rw [hF] at hh
            exact VA.to hh (by decide +kernel) (Le.mk hB [0] ⟨rfl, rfl, rfl, rfl, rfl, rfl, rfl, rfl, rfl, rfl, rfl, rfl, rfl, rfl, rfl, rfl, rfl, rfl, rfl, rfl, rfl, rfl, rfl, rfl, rfl, rfl, rfl, rfl, trivial⟩ rfl rfl (Nat.le_refl _))
        have hS5 : ∀ (r63 : ByteArray) (hr63 : r63.size ≤ 1000 ∧ r63 ≠ ozK) (r74 : ByteArray) (hr74 : r74.size ≤ 1000) (r81 : Int), F 18 (lstB 67 [0, 1, 2, 3, 4, 5, 6, 7, 8, 9, 10, 11, 12, 13, 14, 15, 16, 17, 18, 19, 20, 21, 22, 23, 24, 25, 26, 27, 28, 29, 30, 31, 32, 33, 34, 35, 36, 37, 38, 41, 42, 43, 44, 45, 46, 47, 48, 49, 50]) ⟨[(0, sp p), (53, sp p), (64, sp p), (75, sp p), (82, sp p), (89, sp p), (48, (pO gr (0 + i * 5))), (49, (pO gr (0 + i * 5))), (50, (pO gr (0 + i * 5))), (51, (pO gr (0 + i * 5))), (52, (pO gr (0 + i * 5))), (57, avS (xO l i).key), (61, avS (xO l i).key), (68, avS (xO l i).product), (72, avS (xO l i).product), (79, avI (xO l i).count), (86, avI (xO l i).ready), (93, avI (xO l i).due), (97, avI (xO l i).due), (5, .v (.slice (some ⟨gr, 0, none⟩) l.length cap)), (62, (iO 4 [avS (xO l i).key, avS (xO l i).key, avS ⟨#[]⟩, avS ⟨#[111, 97]⟩])), (63, avS r63), (73, (iO 4 [avS (xO l i).product, avS (xO l i).product, avS ⟨#[122, 122]⟩, avS ⟨#[]⟩])), (74, avS r74), (80, (iO 3 [avI (xO l i).count, avI 0, avI 100001])), (81, avI r81), (98, (iO 3 [avI (xO l i).due, avI (xO l i).due, avI 345686400000]))], [.box gr ⟨rowL l, 35, cap * 5⟩], k + 1 + 4 * q + 1 + 1 + 1 + 1 + 1⟩ := by
          intro r63 hr63 r74 hr74 r81
          rw [hF]
          refine VA.all (rs := [39]) (by decide +kernel) (by decide) ?_
          refine ⟨⟨_, rfl, .inl rfl, ?_⟩, trivial⟩
          refine OpE.buildSlice (zc := #[.int .i64 0, .int .i64 0, .int .i64 0]) rfl hB rfl Tryz.underlying22 Tryz.sizeOf3 Tryz.zeroValue3 (by decide) (by decide) (by kernel_rfl) rfl rfl ?_
          have hh := hS3 r63 hr63 r74 hr74 r81
          rw [hF] at hh
          exact VA.to hh (by decide +kernel) (Le.mk hB [0] ⟨rfl, rfl, rfl, rfl, rfl, rfl, rfl, rfl, rfl, rfl, rfl, rfl, rfl, rfl, rfl, rfl, rfl, rfl, rfl, rfl, rfl, rfl, rfl, rfl, rfl, rfl, rfl, rfl, trivial⟩ rfl rfl (Nat.le_refl _))
        have hS6 : ∀ (r63 : ByteArray) (hr63 : r63.size ≤ 1000 ∧ r63 ≠ ozK) (r74 : ByteArray) (hr74 : r74.size ≤ 1000), F 18 (lstB 67 [0, 1, 2, 3, 4, 5, 6, 7, 8, 9, 10, 11, 12, 13, 14, 15, 16, 17, 18, 19, 20, 21, 22, 23, 24, 25, 26, 27, 28, 29, 30, 31, 32, 34, 35, 36, 37, 38, 39, 41, 42, 43, 44, 45, 46, 47, 48, 49, 50]) ⟨[(0, sp p), (53, sp p), (64, sp p), (75, sp p), (82, sp p), (89, sp p), (48, (pO gr (0 + i * 5))), (49, (pO gr (0 + i * 5))), (50, (pO gr (0 + i * 5))), (51, (pO gr (0 + i * 5))), (52, (pO gr (0 + i * 5))), (57, avS (xO l i).key), (61, avS (xO l i).key), (68, avS (xO l i).product), (72, avS (xO l i).product), (79, avI (xO l i).count), (86, avI (xO l i).ready), (93, avI (xO l i).due), (97, avI (xO l i).due), (5, .v (.slice (some ⟨gr, 0, none⟩) l.length cap)), (62, (iO 4 [avS (xO l i).key, avS (xO l i).key, avS ⟨#[]⟩, avS ⟨#[111, 97]⟩])), (63, avS r63), (73, (iO 4 [avS (xO l i).product, avS (xO l i).product, avS ⟨#[122, 122]⟩, avS ⟨#[]⟩])), (74, avS r74), (80, (iO 3 [avI (xO l i).count, avI 0, avI 100001])), (87, (iO 3 [avI (xO l i).ready, avI (-1), avI 345686400000])), (98, (iO 3 [avI (xO l i).due, avI (xO l i).due, avI 345686400000]))], [.box gr ⟨rowL l, 35, cap * 5⟩], k + 1 + 4 * q + 1 + 1 + 1 + 1⟩ := by
          intro r63 hr63 r74 hr74
          rw [hF]
          refine VA.all (rs := [33]) (by decide +kernel) (by decide) ?_
          refine ⟨⟨_, rfl, .inl rfl, ?_⟩, trivial⟩
          refine OpE.callT' (k + 1 + 4 * q + 1 + 1 + 1 + 1) rfl rfl hB rfl Tryz.call21 rfl (pick_X (by rfl) (by decide) (by decide) (by repeat (first | exact AllX.nil | refine AllX.cons ?_))) (by omega) ?_
          rintro _ ⟨r81, rfl⟩
          have hh := hS3 r63 hr63 r74 hr74 r81
          rw [hF] at hh
          exact VA.to hh (by decide +kernel) (Le.mk hB [0] ⟨rfl, rfl, rfl, rfl, rfl, rfl, rfl, rfl, rfl, rfl, rfl, rfl, rfl, rfl, rfl, rfl, rfl, rfl, rfl, rfl, rfl, rfl, rfl, rfl, rfl, rfl, rfl, rfl, trivial⟩ rfl rfl (Nat.le_refl _))
        have hS7 : ∀ (r63 : ByteArray) (hr63 : r63.size ≤ 1000 ∧ r63 ≠ ozK) (r74 : ByteArray) (hr74 : r74.size ≤ 1000) (r81 : Int), F 19 (lstB 67 [0, 1, 2, 3, 4, 5, 6, 7, 8, 9, 10, 11, 12, 13, 14, 15, 16, 17, 18, 19, 20, 21, 22, 23, 24, 25, 26, 27, 28, 29, 30, 31, 32, 33, 34, 35, 36, 37, 38, 41, 42, 43, 44, 45, 46, 47, 48, 49]) ⟨[(0, sp p), (53, sp p), (64, sp p), (75, sp p), (82, sp p), (89, sp p), (48, (pO gr (0 + i * 5))), (49, (pO gr (0 + i * 5))), (50, (pO gr (0 + i * 5))), (51, (pO gr (0 + i * 5))), (52, (pO gr (0 + i * 5))), (57, avS (xO l i).key), (61, avS (xO l i).key), (68, avS (xO l i).product), (72, avS (xO l i).product), (79, avI (xO l i).count), (86, avI (xO l i).ready), (93, avI (xO l i).due), (97, avI (xO l i).due), (5, .v (.slice (some ⟨gr, 0, none⟩) l.length cap)), (62, (iO 4 [avS (xO l i).key, avS (xO l i).key, avS ⟨#[]⟩, avS ⟨#[111, 97]⟩])), (63, avS r63), (73, (iO 4 [avS (xO l i).product, avS (xO l i).product, avS ⟨#[122, 122]⟩, avS ⟨#[]⟩])), (74, avS r74), (80, (iO 3 [avI (xO l i).count, avI 0, avI 100001])), (81, avI r81)], [.box gr ⟨rowL l, 35, cap * 5⟩], k + 1 + 4 * q + 1 + 1 + 1 + 1 + 1⟩ := by
          intro r63 hr63 r74 hr74 r81
          rw [hF]
          refine VA.all (rs := [39, 50]) (by decide +kernel) (by decide) ?_
          refine ⟨⟨_, rfl, .inl rfl, ?_⟩, ⟨_, rfl, .inl rfl, ?_⟩, trivial⟩
          ·
            refine OpE.buildSlice (zc := #[.int .i64 0, .int .i64 0, .int .i64 0]) rfl hB rfl Tryz.underlying22 Tryz.sizeOf3 Tryz.zeroValue3 (by decide) (by decide) (by kernel_rfl) rfl rfl ?_
            have hh := hS4 r63 hr63 r74 hr74 r81
            rw [hF] at hh
            exact VA.to hh (by decide +kernel) (Le.mk hB [0] ⟨rfl, rfl, rfl, rfl, rfl, rfl, rfl, rfl, rfl, rfl, rfl, rfl, rfl, rfl, rfl, rfl, rfl, rfl, rfl, rfl, rfl, rfl, rfl, rfl, rfl, rfl, rfl, trivial⟩ rfl rfl (Nat.le_refl _))
          ·
            refine OpE.buildSlice (zc := #[.int .i64 0, .int .i64 0, .int .i64 0]) rfl hB rfl Tryz.underlying22 Tryz.sizeOf3 Tryz.zeroValue3 (by decide) (by decide) (by kernel_rfl) rfl rfl ?_
            have hh := hS5 r63 hr63 r74 hr74 r81
            rw [hF] at hh
            exact VA.to hh (by decide +kernel) (Le.mk hB [0] ⟨rfl, rfl, rfl, rfl, rfl, rfl, rfl, rfl, rfl, rfl, rfl, rfl, rfl, rfl, rfl, rfl, rfl, rfl, rfl, rfl, rfl, rfl, rfl, rfl, rfl, rfl, rfl, trivial⟩ rfl rfl (Nat.le_refl _))
        have hS8 : ∀ (r63 : ByteArray) (hr63 : r63.size ≤ 1000 ∧ r63 ≠ ozK) (r74 : ByteArray) (hr74 : r74.size ≤ 1000), F 19 (lstB 67 [0, 1, 2, 3, 4, 5, 6, 7, 8, 9, 10, 11, 12, 13, 14, 15, 16, 17, 18, 19, 20, 21, 22, 23, 24, 25, 26, 27, 28, 29, 30, 31, 32, 34, 35, 36, 37, 38, 39, 41, 42, 43, 44, 45, 46, 47, 48, 49]) ⟨[(0, sp p), (53, sp p), (64, sp p), (75, sp p), (82, sp p), (89, sp p), (48, (pO gr (0 + i * 5))), (49, (pO gr (0 + i * 5))), (50, (pO gr (0 + i * 5))), (51, (pO gr (0 + i * 5))), (52, (pO gr (0 + i * 5))), (57, avS (xO l i).key), (61, avS (xO l i).key), (68, avS (xO l i).product), (72, avS (xO l i).product), (79, avI (xO l i).count), (86, avI (xO l i).ready), (93, avI (xO l i).due), (97, avI (xO l i).due), (5, .v (.slice (some ⟨gr, 0, none⟩) l.length cap)), (62, (iO 4 [avS (xO l i).key, avS (xO l i).key, avS ⟨#[]⟩, avS ⟨#[111, 97]⟩])), (63, avS r63), (73, (iO 4 [avS (xO l i).product, avS (xO l i).product, avS ⟨#[122, 122]⟩, avS ⟨#[]⟩])), (74, avS r74), (80, (iO 3 [avI (xO l i).count, avI 0, avI 100001])), (87, (iO 3 [avI (xO l i).ready, avI (-1), avI 345686400000]))], [.box gr ⟨rowL l, 35, cap * 5⟩], k + 1 + 4 * q + 1 + 1 + 1 + 1⟩ := by
          intro r63 hr63 r74 hr74
          rw [hF]
          refine VA.all (rs := [33, 50]) (by decide +kernel) (by decide) ?_
          refine ⟨⟨_, rfl, .inl rfl, ?_⟩, ⟨_, rfl, .inl rfl, ?_⟩, trivial⟩
          ·
            refine OpE.callT' (k + 1 + 4 * q + 1 + 1 + 1 + 1) rfl rfl hB rfl Tryz.call21 rfl (pick_X (by rfl) (by decide) (by decide) (by repeat (first | exact AllX.nil | refine AllX.cons ?_))) (by omega) ?_
            rintro _ ⟨r81, rfl⟩
            have hh := hS4 r63 hr63 r74 hr74 r81
            rw [hF] at hh
            exact VA.to hh (by decide +kernel) (Le.mk hB [0] ⟨rfl, rfl, rfl, rfl, rfl, rfl, rfl, rfl, rfl, rfl, rfl, rfl, rfl, rfl, rfl, rfl, rfl, rfl, rfl, rfl, rfl, rfl, rfl, rfl, rfl, rfl, rfl, trivial⟩ rfl rfl (Nat.le_refl _))
          ·
            refine OpE.buildSlice (zc := #[.int .i64 0, .int .i64 0, .int .i64 0]) rfl hB rfl Tryz.underlying22 Tryz.sizeOf3 Tryz.zeroValue3 (by decide) (by decide) (by kernel_rfl) rfl rfl ?_
            have hh := hS6 r63 hr63 r74 hr74
            rw [hF] at hh
            exact VA.to hh (by decide +kernel) (Le.mk hB [0] ⟨rfl, rfl, rfl, rfl, rfl, rfl, rfl, rfl, rfl, rfl, rfl, rfl, rfl, rfl, rfl, rfl, rfl, rfl, rfl, rfl, rfl, rfl, rfl, rfl, rfl, rfl, rfl, trivial⟩ rfl rfl (Nat.le_refl _))
        have hS9 : ∀ (r63 : ByteArray) (hr63 : r63.size ≤ 1000 ∧ r63 ≠ ozK) (r74 : ByteArray) (hr74 : r74.size ≤ 1000), F 19 (lstB 67 [0, 1, 2, 3, 4, 5, 6, 7, 8, 9, 10, 11, 12, 13, 14, 15, 16, 17, 18, 19, 20, 21, 22, 23, 24, 25, 26, 27, 28, 29, 30, 31, 32, 34, 35, 36, 37, 38, 41, 42, 43, 44, 45, 46, 47, 48, 49, 50]) ⟨[(0, sp p), (53, sp p), (64, sp p), (75, sp p), (82, sp p), (89, sp p), (48, (pO gr (0 + i * 5))), (49, (pO gr (0 + i * 5))), (50, (pO gr (0 + i * 5))), (51, (pO gr (0 + i * 5))), (52, (pO gr (0 + i * 5))), (57, avS (xO l i).key), (61, avS (xO l i).key), (68, avS (xO l i).product), (72, avS (xO l i).product), (79, avI (xO l i).count), (86, avI (xO l i).ready), (93, avI (xO l i).due), (97, avI (xO l i).due), (5, .v (.slice (some ⟨gr, 0, none⟩) l.length cap)), (62, (iO 4 [avS (xO l i).key, avS (xO l i).key, avS ⟨#[]⟩, avS ⟨#[111, 97]⟩])), (63, avS r63), (73, (iO 4 [avS (xO l i).product, avS (xO l i).product, avS ⟨#[122, 122]⟩, avS ⟨#[]⟩])), (74, avS r74), (80, (iO 3 [avI (xO l i).count, avI 0, avI 100001])), (98, (iO 3 [avI (xO l i).due, avI (xO l i).due, avI 345686400000]))], [.box gr ⟨rowL l, 35, cap * 5⟩], k + 1 + 4 * q + 1 + 1 + 1 + 1⟩ := by
          intro r63 hr63 r74 hr74
          rw [hF]
          refine VA.all (rs := [33, 39]) (by decide +kernel) (by decide) ?_
          refine ⟨⟨_, rfl, .inl rfl, ?_⟩, ⟨_, rfl, .inl rfl, ?_⟩, trivial⟩
          ·
            refine OpE.callT' (k + 1 + 4 * q + 1 + 1 + 1 + 1) rfl rfl hB rfl Tryz.call21 rfl (pick_X (by rfl) (by decide) (by decide) (by repeat (first | exact AllX.nil | refine AllX.cons ?_))) (by omega) ?_
            rintro _ ⟨r81, rfl⟩
            have hh := hS5 r63 hr63 r74 hr74 r81
            rw [hF] at hh
            exact VA.to hh (by decide +kernel) (Le.mk hB [0] ⟨rfl, rfl, rfl, rfl, rfl, rfl, rfl, rfl, rfl, rfl, rfl, rfl, rfl, rfl, rfl, rfl, rfl, rfl, rfl, rfl, rfl, rfl, rfl, rfl, rfl, rfl, rfl, trivial⟩ rfl rfl (Nat.le_refl _))
          ·
            refine OpE.buildSlice (zc := #[.int .i64 0, .int .i64 0, .int .i64 0]) rfl hB rfl Tryz.underlying22 Tryz.sizeOf3 Tryz.zeroValue3 (by decide) (by decide) (by kernel_rfl) rfl rfl ?_
            have hh := hS6 r63 hr63 r74 hr74
            rw [hF] at hh
            exact VA.to hh (by decide +kernel) (Le.mk hB [0] ⟨rfl, rfl, rfl, rfl, rfl, rfl, rfl, rfl, rfl, rfl, rfl, rfl, rfl, rfl, rfl, rfl, rfl, rfl, rfl, rfl, rfl, rfl, rfl, rfl, rfl, rfl, rfl, trivial⟩ rfl rfl (Nat.le_refl _))
        have hS10 : ∀ (r63 : ByteArray) (hr63 : r63.size ≤ 1000 ∧ r63 ≠ ozK) (r74 : ByteArray) (hr74 : r74.size ≤ 1000), F 19 (lstB 67 [0, 1, 2, 3, 4, 5, 6, 7, 8, 9, 10, 11, 12, 13, 14, 15, 16, 17, 18, 19, 20, 21, 22, 23, 24, 25, 26, 27, 28, 29, 30, 31, 34, 35, 36, 37, 38, 39, 41, 42, 43, 44, 45, 46, 47, 48, 49, 50]) ⟨[(0, sp p), (53, sp p), (64, sp p), (75, sp p), (82, sp p), (89, sp p), (48, (pO gr (0 + i * 5))), (49, (pO gr (0 + i * 5))), (50, (pO gr (0 + i * 5))), (51, (pO gr (0 + i * 5))), (52, (pO gr (0 + i * 5))), (57, avS (xO l i).key), (61, avS (xO l i).key), (68, avS (xO l i).product), (72, avS (xO l i).product), (79, avI (xO l i).count), (86, avI (xO l i).ready), (93, avI (xO l i).due), (97, avI (xO l i).due), (5, .v (.slice (some ⟨gr, 0, none⟩) l.length cap)), (62, (iO 4 [avS (xO l i).key, avS (xO l i).key, avS ⟨#[]⟩, avS ⟨#[111, 97]⟩])), (63, avS r63), (73, (iO 4 [avS (xO l i).product, avS (xO l i).product, avS ⟨#[122, 122]⟩, avS ⟨#[]⟩])), (74, avS r74), (87, (iO 3 [avI (xO l i).ready, avI (-1), avI 345686400000])), (98, (iO 3 [avI (xO l i).due, avI (xO l i).due, avI 345686400000]))], [.box gr ⟨rowL l, 35, cap * 5⟩], k + 1 + 4 * q + 1 + 1 + 1 + 1⟩ := by
          intro r63 hr63 r74 hr74
          rw [hF]
          refine VA.all (rs := [32]) (by decide +kernel) (by decide) ?_
          refine ⟨⟨_, rfl, .inl rfl, ?_⟩, trivial⟩
          refine OpE.buildSlice (zc := #[.int .i64 0, .int .i64 0, .int .i64 0]) rfl hB rfl Tryz.underlying22 Tryz.sizeOf3 Tryz.zeroValue3 (by decide) (by decide) (by kernel_rfl) rfl rfl ?_
          have hh := hS6 r63 hr63 r74 hr74
          rw [hF] at hh
          exact VA.to hh (by decide +kernel) (Le.mk hB [0] ⟨rfl, rfl, rfl, rfl, rfl, rfl, rfl, rfl, rfl, rfl, rfl, rfl, rfl, rfl, rfl, rfl, rfl, rfl, rfl, rfl, rfl, rfl, rfl, rfl, rfl, rfl, rfl, trivial⟩ rfl rfl (Nat.le_refl _))
        have hS11 : ∀ (r63 : ByteArray) (hr63 : r63.size ≤ 1000 ∧ r63 ≠ ozK), F 19 (lstB 67 [0, 1, 2, 3, 4, 5, 6, 7, 8, 9, 10, 11, 12, 13, 14, 15, 16, 17, 18, 19, 20, 21, 22, 23, 24, 25, 27, 28, 29, 30, 31, 32, 34, 35, 36, 37, 38, 39, 41, 42, 43, 44, 45, 46, 47, 48, 49, 50]) ⟨[(0, sp p), (53, sp p), (64, sp p), (75, sp p), (82, sp p), (89, sp p), (48, (pO gr (0 + i * 5))), (49, (pO gr (0 + i * 5))), (50, (pO gr (0 + i * 5))), (51, (pO gr (0 + i * 5))), (52, (pO gr (0 + i * 5))), (57, avS (xO l i).key), (61, avS (xO l i).key), (68, avS (xO l i).product), (72, avS (xO l i).product), (79, avI (xO l i).count), (86, avI (xO l i).ready), (93, avI (xO l i).due), (97, avI (xO l i).due), (5, .v (.slice (some ⟨gr, 0, none⟩) l.length cap)), (62, (iO 4 [avS (xO l i).key, avS (xO l i).key, avS ⟨#[]⟩, avS ⟨#[111, 97]⟩])), (63, avS r63), (73, (iO 4 [avS (xO l i).product, avS (xO l i).product, avS ⟨#[122, 122]⟩, avS ⟨#[]⟩])), (80, (iO 3 [avI (xO l i).count, avI 0, avI 100001])), (87, (iO 3 [avI (xO l i).ready, avI (-1), avI 345686400000])), (98, (iO 3 [avI (xO l i).due, avI (xO l i).due, avI 345686400000]))], [.box gr ⟨rowL l, 35, cap * 5⟩], k + 1 + 4 * q + 1 + 1 + 1⟩ := by
          intro r63 hr63
          rw [hF]
          refine VA.all (rs := [26]) (by decide +kernel) (by decide) ?_
          refine ⟨⟨_, rfl, .inl rfl, ?_⟩, trivial⟩
          refine OpE.callT' (k + 1 + 4 * q + 1 + 1 + 1) rfl rfl hB rfl Tryz.call32 rfl (some_T 1000 (by rfl) (by decide) (by decide) (AllS.cons (hok.getD i).2.1 (AllS.cons (hok.getD i).2.1 (AllS.cons (by decide) (AllS.cons (by decide) AllS.nil))))) (by omega) ?_
          rintro _ ⟨r74, hr74, rfl⟩
          have hh := hS6 r63 hr63 r74 hr74
          rw [hF] at hh
          exact VA.to hh (by decide +kernel) (Le.mk hB [0] ⟨rfl, rfl, rfl, rfl, rfl, rfl, rfl, rfl, rfl, rfl, rfl, rfl, rfl, rfl, rfl, rfl, rfl, rfl, rfl, rfl, rfl, rfl, rfl, rfl, rfl, rfl, rfl, trivial⟩ rfl rfl (Nat.le_refl _))
        have hS12 : ∀ (r63 : ByteArray) (hr63 : r63.size ≤ 1000 ∧ r63 ≠ ozK) (r74 : ByteArray) (hr74 : r74.size ≤ 1000), F 20 (lstB 67 [0, 1, 2, 3, 4, 5, 6, 7, 8, 9, 10, 11, 12, 13, 14, 15, 16, 17, 18, 19, 20, 21, 22, 23, 24, 25, 26, 27, 28, 29, 30, 31, 32, 34, 35, 36, 37, 38, 41, 42, 43, 44, 45, 46, 47, 48, 49]) ⟨[(0, sp p), (53, sp p), (64, sp p), (75, sp p), (82, sp p), (89, sp p), (48, (pO gr (0 + i * 5))), (49, (pO gr (0 + i * 5))), (50, (pO gr (0 + i * 5))), (51, (pO gr (0 + i * 5))), (52, (pO gr (0 + i * 5))), (57, avS (xO l i).key), (61, avS (xO l i).key), (68, avS (xO l i).product), (72, avS (xO l i).product), (79, avI (xO l i).count), (86, avI (xO l i).ready), (93, avI (xO l i).due), (97, avI (xO l i).due), (5, .v (.slice (some ⟨gr, 0, none⟩) l.length cap)), (62, (iO 4 [avS (xO l i).key, avS (xO l i).key, avS ⟨#[]⟩, avS ⟨#[111, 97]⟩])), (63, avS r63), (73, (iO 4 [avS (xO l i).product, avS (xO l i).product, avS ⟨#[122, 122]⟩, avS ⟨#[]⟩])), (74, avS r74), (80, (iO 3 [avI (xO l i).count, avI 0, avI 100001]))], [.box gr ⟨rowL l, 35, cap * 5⟩], k + 1 + 4 * q + 1 + 1 + 1 + 1⟩ := by
          intro r63 hr63 r74 hr74
          rw [hF]
          refine VA.all (rs := [33, 39, 50]) (by decide +kernel) (by decide) ?_
          refine ⟨⟨_, rfl, .inl rfl, ?_⟩, ⟨_, rfl, .inl rfl, ?_⟩, ⟨_, rfl, .inl rfl, ?_⟩, trivial⟩
          ·
            refine OpE.callT' (k + 1 + 4 * q + 1 + 1 + 1 + 1) rfl rfl hB rfl Tryz.call21 rfl (pick_X (by rfl) (by decide) (by decide) (by repeat (first | exact AllX.nil | refine AllX.cons ?_))) (by omega) ?_
            rintro _ ⟨r81, rfl⟩
            have hh := hS7 r63 hr63 r74 hr74 r81
            rw [hF] at hh
            exact VA.to hh (by decide +kernel) (Le.mk hB [0] ⟨rfl, rfl, rfl, rfl, rfl, rfl, rfl, rfl, rfl, rfl, rfl, rfl, rfl, rfl, rfl, rfl, rfl, rfl, rfl, rfl, rfl, rfl, rfl, rfl, rfl, rfl, trivial⟩ rfl rfl (Nat.le_refl _))
          ·
            refine OpE.buildSlice (zc := #[.int .i64 0, .int .i64 0, .int .i64 0]) rfl hB rfl Tryz.underlying22 Tryz.sizeOf3 Tryz.zeroValue3 (by decide) (by decide) (by kernel_rfl) rfl rfl ?_
            have hh := hS8 r63 hr63 r74 hr74
            rw [hF] at hh
            exact VA.to hh (by decide +kernel) (Le.mk hB [0] ⟨rfl, rfl, rfl, rfl, rfl, rfl, rfl, rfl, rfl, rfl, rfl, rfl, rfl, rfl, rfl, rfl, rfl, rfl, rfl, rfl, rfl, rfl, rfl, rfl, rfl, rfl, trivial⟩ rfl rfl (Nat.le_refl _))
          ·
            refine OpE.buildSlice (zc := #[.int .i64 0, .int .i64 0, .int .i64 0]) rfl hB rfl Tryz.underlying22 Tryz.sizeOf3 Tryz.zeroValue3 (by decide) (by decide) (by kernel_rfl) rfl rfl ?_
            have hh := hS9 r63 hr63 r74 hr74
            rw [hF] at hh
            exact VA.to hh (by decide +kernel) (Le.mk hB [0] ⟨rfl, rfl, rfl, rfl, rfl, rfl, rfl, rfl, rfl, rfl, rfl, rfl, rfl, rfl, rfl, rfl, rfl, rfl, rfl, rfl, rfl, rfl, rfl, rfl, rfl, rfl, trivial⟩ rfl rfl (Nat.le_refl _))
        have hS13 : ∀ (r63 : ByteArray) (hr63 : r63.size ≤ 1000 ∧ r63 ≠ ozK) (r74 : ByteArray) (hr74 : r74.size ≤ 1000), F 20 (lstB 67 [0, 1, 2, 3, 4, 5, 6, 7, 8, 9, 10, 11, 12, 13, 14, 15, 16, 17, 18, 19, 20, 21, 22, 23, 24, 25, 26, 27, 28, 29, 30, 31, 34, 35, 36, 37, 38, 39, 41, 42, 43, 44, 45, 46, 47, 48, 49]) ⟨[(0, sp p), (53, sp p), (64, sp p), (75, sp p), (82, sp p), (89, sp p), (48, (pO gr (0 + i * 5))), (49, (pO gr (0 + i * 5))), (50, (pO gr (0 + i * 5))), (51, (pO gr (0 + i * 5))), (52, (pO gr (0 + i * 5))), (57, avS (xO l i).key), (61, avS (xO l i).key), (68, avS (xO l i).product), (72, avS (xO l i).product), (79, avI (xO l i).count), (86, avI (xO l i).ready), (93, avI (xO l i).due), (97, avI (xO l i).due), (5, .v (.slice (some ⟨gr, 0, none⟩) l.length cap)), (62, (iO 4 [avS (xO l i).key, avS (xO l i).key, avS ⟨#[]⟩, avS ⟨#[111, 97]⟩])), (63, avS r63), (73, (iO 4 [avS (xO l i).product, avS (xO l i).product, avS ⟨#[122, 122]⟩, avS ⟨#[]⟩])), (74, avS r74), (87, (iO 3 [avI (xO l i).ready, avI (-1), avI 345686400000]))], [.box gr ⟨rowL l, 35, cap * 5⟩], k + 1 + 4 * q + 1 + 1 + 1 + 1⟩ := by
          intro r63 hr63 r74 hr74
          rw [hF]
          refine VA.all (rs := [32, 50]) (by decide +kernel) (by decide) ?_
          refine ⟨⟨_, rfl, .inl rfl, ?_⟩, ⟨_, rfl, .inl rfl, ?_⟩, trivial⟩
          ·
            refine OpE.buildSlice (zc := #[.int .i64 0, .int .i64 0, .int .i64 0]) rfl hB rfl Tryz.underlying22 Tryz.sizeOf3 Tryz.zeroValue3 (by decide) (by decide) (by kernel_rfl) rfl rfl ?_
            have hh := hS8 r63 hr63 r74 hr74
            rw [hF] at hh
            exact VA.to hh (by decide +kernel) (Le.mk hB [0] ⟨rfl, rfl, rfl, rfl, rfl, rfl, rfl, rfl, rfl, rfl, rfl, rfl, rfl, rfl, rfl, rfl, rfl, rfl, rfl, rfl, rfl, rfl, rfl, rfl, rfl, rfl, trivial⟩ rfl rfl (Nat.le_refl _))
          ·
            refine OpE.buildSlice (zc := #[.int .i64 0, .int .i64 0, .int .i64 0]) rfl hB rfl Tryz.underlying22 Tryz.sizeOf3 Tryz.zeroValue3 (by decide) (by decide) (by kernel_rfl) rfl rfl ?_
            have hh := hS10 r63 hr63 r74 hr74
            rw [hF] at hh
            exact VA.to hh (by decide +kernel) (Le.mk hB [0] ⟨rfl, rfl, rfl, rfl, rfl, rfl, rfl, rfl, rfl, rfl, rfl, rfl, rfl, rfl, rfl, rfl, rfl, rfl, rfl, rfl, rfl, rfl, rfl, rfl, rfl, rfl, trivial⟩ rfl rfl (Nat.le_refl _))
        have hS14 : ∀ (r63 : ByteArray) (hr63 : r63.size ≤ 1000 ∧ r63 ≠ ozK) (r74 : ByteArray) (hr74 : r74.size ≤ 1000), F 20 (lstB 67 [0, 1, 2, 3, 4, 5, 6, 7, 8, 9, 10, 11, 12, 13, 14, 15, 16, 17, 18, 19, 20, 21, 22, 23, 24, 25, 26, 27, 28, 29, 30, 31, 34, 35, 36, 37, 38, 41, 42, 43, 44, 45, 46, 47, 48, 49, 50]) ⟨[(0, sp p), (53, sp p), (64, sp p), (75, sp p), (82, sp p), (89, sp p), (48, (pO gr (0 + i * 5))), (49, (pO gr (0 + i * 5))), (50, (pO gr (0 + i * 5))), (51, (pO gr (0 + i * 5))), (52, (pO gr (0 + i * 5))), (57, avS (xO l i).key), (61, avS (xO l i).key), (68, avS (xO l i).product), (72, avS (xO l i).product), (79, avI (xO l i).count), (86, avI (xO l i).ready), (93, avI (xO l i).due), (97, avI (xO l i).due), (5, .v (.slice (some ⟨gr, 0, none⟩) l.length cap)), (62, (iO 4 [avS (xO l i).key, avS (xO l i).key, avS ⟨#[]⟩, avS ⟨#[111, 97]⟩])), (63, avS r63), (73, (iO 4 [avS (xO l i).product, avS (xO l i).product, avS ⟨#[122, 122]⟩, avS ⟨#[]⟩])), (74, avS r74), (98, (iO 3 [avI (xO l i).due, avI (xO l i).due, avI 345686400000]))], [.box gr ⟨rowL l, 35, cap * 5⟩], k + 1 + 4 * q + 1 + 1 + 1 + 1⟩ := by
          intro r63 hr63 r74 hr74
          rw [hF]
          refine VA.all (rs := [32, 39]) (by decide +kernel) (by decide) ?_
          refine ⟨⟨_, rfl, .inl rfl, ?_⟩, ⟨_, rfl, .inl rfl, ?_⟩, trivial⟩
          ·
            refine OpE.buildSlice (zc := #[.int .i64 0, .int .i64 0, .int .i64 0]) rfl hB rfl Tryz.underlying22 Tryz.sizeOf3 Tryz.zeroValue3 (by decide) (by decide) (by kernel_rfl) rfl rfl ?_
            have hh := hS9 r63 hr63 r74 hr74
            rw [hF] at hh
            exact VA.to hh (by decide +kernel) (Le.mk hB [0] ⟨rfl, rfl, rfl, rfl, rfl, rfl, rfl, rfl, rfl, rfl, rfl, rfl, rfl, rfl, rfl, rfl, rfl, rfl, rfl, rfl, rfl, rfl, rfl, rfl, rfl, rfl, trivial⟩ rfl rfl (Nat.le_refl _))
          ·
            refine OpE.buildSlice (zc := #[.int .i64 0, .int .i64 0, .int .i64 0]) rfl hB rfl Tryz.underlying22 Tryz.sizeOf3 Tryz.zeroValue3 (by decide) (by decide) (by kernel_rfl) rfl rfl ?_
            have hh := hS10 r63 hr63 r74 hr74
            rw [hF] at hh
            exact VA.to hh (by decide +kernel) (Le.mk hB [0] ⟨rfl, rfl, rfl, rfl, rfl, rfl, rfl, rfl, rfl, rfl, rfl, rfl, rfl, rfl, rfl, rfl, rfl, rfl, rfl, rfl, rfl, rfl, rfl, rfl, rfl, rfl, trivial⟩ rfl rfl (Nat.le_refl _))
        have hS15 : ∀ (r63 : ByteArray) (hr63 : r63.size ≤ 1000 ∧ r63 ≠ ozK), F 20 (lstB 67 [0, 1, 2, 3, 4, 5, 6, 7, 8, 9, 10, 11, 12, 13, 14, 15, 16, 17, 18, 19, 20, 21, 22, 23, 24, 25, 27, 28, 29, 30, 31, 32, 34, 35, 36, 37, 38, 39, 41, 42, 43, 44, 45, 46, 47, 48, 49]) ⟨[(0, sp p), (53, sp p), (64, sp p), (75, sp p), (82, sp p), (89, sp p), (48, (pO gr (0 + i * 5))), (49, (pO gr (0 + i * 5))), (50, (pO gr (0 + i * 5))), (51, (pO gr (0 + i * 5))), (52, (pO gr (0 + i * 5))), (57, avS (xO l i).key), (61, avS (xO l i).key), (68, avS (xO l i).product), (72, avS (xO l i).product), (79, avI (xO l i).count), (86, avI (xO l i).ready), (93, avI (xO l i).due), (97, avI (xO l i).due), (5, .v (.slice (some ⟨gr, 0, none⟩) l.length cap)), (62, (iO 4 [avS (xO l i).key, avS (xO l i).key, avS ⟨#[]⟩, avS ⟨#[111, 97]⟩])), (63, avS r63), (73, (iO 4 [avS (xO l i).product, avS (xO l i).product, avS ⟨#[122, 122]⟩, avS ⟨#[]⟩])), (80, (iO 3 [avI (xO l i).count, avI 0, avI 100001])), (87, (iO 3 [avI (xO l i).ready, avI (-1), avI 345686400000]))], [.box gr ⟨rowL l, 35, cap * 5⟩], k + 1 + 4 * q + 1 + 1 + 1⟩ := by
          intro r63 hr63
          rw [hF]
          refine VA.all (rs := [26, 50]) (by decide +kernel) (by decide) ?_
          refine ⟨⟨_, rfl, .inl rfl, ?_⟩, ⟨_, rfl, .inl rfl, ?_⟩, trivial⟩
          ·
            refine OpE.callT' (k + 1 + 4 * q + 1 + 1 + 1) rfl rfl hB rfl Tryz.call32 rfl (some_T 1000 (by rfl) (by decide) (by decide) (AllS.cons (hok.getD i).2.1 (AllS.cons (hok.getD i).2.1 (AllS.cons (by decide) (AllS.cons (by decide) AllS.nil))))) (by omega) ?_
            rintro _ ⟨r74, hr74, rfl⟩
            have hh := hS8 r63 hr63 r74 hr74
            rw [hF] at hh
            exact VA.to hh (by decide +kernel) (Le.mk hB [0] ⟨rfl, rfl, rfl, rfl, rfl, rfl, rfl, rfl, rfl, rfl, rfl, rfl, rfl, rfl, rfl, rfl, rfl, rfl, rfl, rfl, rfl, rfl, rfl, rfl, rfl, rfl, trivial⟩ rfl rfl (Nat.le_refl _))
          ·
            refine OpE.buildSlice (zc := #[.int .i64 0, .int .i64 0, .int .i64 0]) rfl hB rfl Tryz.underlying22 Tryz.sizeOf3 Tryz.zeroValue3 (by decide) (by decide) (by kernel_rfl) rfl rfl ?_
            have hh := hS11 r63 hr63
            rw [hF] at hh
            exact VA.to hh (by decide +kernel) (Le.mk hB [0] ⟨rfl, rfl, rfl, rfl, rfl, rfl, rfl, rfl, rfl, rfl, rfl, rfl, rfl, rfl, rfl, rfl, rfl, rfl, rfl, rfl, rfl, rfl, rfl, rfl, rfl, rfl, trivial⟩ rfl rfl (Nat.le_refl _))
        have hS16 : ∀ (r63 : ByteArray) (hr63 : r63.size ≤ 1000 ∧ r63 ≠ ozK), F 20 (lstB 67 [0, 1, 2, 3, 4, 5, 6, 7, 8, 9, 10, 11, 12, 13, 14, 15, 16, 17, 18, 19, 20, 21, 22, 23, 24, 25, 27, 28, 29, 30, 31, 32, 34, 35, 36, 37, 38, 41, 42, 43, 44, 45, 46, 47, 48, 49, 50]) ⟨[(0, sp p), (53, sp p), (64, sp p), (75, sp p), (82, sp p), (89, sp p), (48, (pO gr (0 + i * 5))), (49, (pO gr (0 + i * 5))), (50, (pO gr (0 + i * 5))), (51, (pO gr (0 + i * 5))), (52, (pO gr (0 + i * 5))), (57, avS (xO l i).key), (61, avS (xO l i).key), (68, avS (xO l i).product), (72, avS (xO l i).product), (79, avI (xO l i).count), (86, avI (xO l i).ready), (93, avI (xO l i).due), (97, avI (xO l i).due), (5, .v (.slice (some ⟨gr, 0, none⟩) l.length cap)), (62, (iO 4 [avS (xO l i).key, avS (xO l i).key, avS ⟨#[]⟩, avS ⟨#[111, 97]⟩])), (63, avS r63), (73, (iO 4 [avS (xO l i).product, avS (xO l i).product, avS ⟨#[122, 122]⟩, avS ⟨#[]⟩])), (80, (iO 3 [avI (xO l i).count, avI 0, avI 100001])), (98, (iO 3 [avI (xO l i).due, avI (xO l i).due, avI 345686400000]))], [.box gr ⟨rowL l, 35, cap * 5⟩], k + 1 + 4 * q + 1 + 1 + 1⟩ := by
          intro r63 hr63
          rw [hF]
          refine VA.all (rs := [26, 39]) (by decide +kernel) (by decide) ?_
          refine ⟨⟨_, rfl, .inl rfl, ?_⟩, ⟨_, rfl, .inl rfl, ?_⟩, trivial⟩
          ·
            refine OpE.callT' (k + 1 + 4 * q + 1 + 1 + 1) rfl rfl hB rfl Tryz.call32 rfl (some_T 1000 (by rfl) (by decide) (by decide) (AllS.cons (hok.getD i).2.1 (AllS.cons (hok.getD i).2.1 (AllS.cons (by decide) (AllS.cons (by decide) AllS.nil))))) (by omega) ?_
            rintro _ ⟨r74, hr74, rfl⟩
            have hh := hS9 r63 hr63 r74 hr74
            rw [hF] at hh
            exact VA.to hh (by decide +kernel) (Le.mk hB [0] ⟨rfl, rfl, rfl, rfl, rfl, rfl, rfl, rfl, rfl, rfl, rfl, rfl, rfl, rfl, rfl, rfl, rfl, rfl, rfl, rfl, rfl, rfl, rfl, rfl, rfl, rfl, trivial⟩ rfl rfl (Nat.le_refl _))
          ·
            refine OpE.buildSlice (zc := #[.int .i64 0, .int .i64 0, .int .i64 0]) rfl hB rfl Tryz.underlying22 Tryz.sizeOf3 Tryz.zeroValue3 (by decide) (by decide) (by kernel_rfl) rfl rfl ?_
            have hh := hS11 r63 hr63
            rw [hF] at hh
            exact VA.to hh (by decide +kernel) (Le.mk hB [0] ⟨rfl, rfl, rfl, rfl, rfl, rfl, rfl, rfl, rfl, rfl, rfl, rfl, rfl, rfl, rfl, rfl, rfl, rfl, rfl, rfl, rfl, rfl, rfl, rfl, rfl, rfl, trivial⟩ rfl rfl (Nat.le_refl _))
        have hS17 : ∀ (r63 : ByteArray) (hr63 : r63.size ≤ 1000 ∧ r63 ≠ ozK), F 20 (lstB 67 [0, 1, 2, 3, 4, 5, 6, 7, 8, 9, 10, 11, 12, 13, 14, 15, 16, 17, 18, 19, 20, 21, 22, 23, 24, 25, 27, 28, 29, 30, 31, 34, 35, 36, 37, 38, 39, 41, 42, 43, 44, 45, 46, 47, 48, 49, 50]) ⟨[(0, sp p), (53, sp p), (64, sp p), (75, sp p), (82, sp p), (89, sp p), (48, (pO gr (0 + i * 5))), (49, (pO gr (0 + i * 5))), (50, (pO gr (0 + i * 5))), (51, (pO gr (0 + i * 5))), (52, (pO gr (0 + i * 5))), (57, avS (xO l i).key), (61, avS (xO l i).key), (68, avS (xO l i).product), (72, avS (xO l i).product), (79, avI (xO l i).count), (86, avI (xO l i).ready), (93, avI (xO l i).due), (97, avI (xO l i).due), (5, .v (.slice (some ⟨gr, 0, none⟩) l.length cap)), (62, (iO 4 [avS (xO l i).key, avS (xO l i).key, avS ⟨#[]⟩, avS ⟨#[111, 97]⟩])), (63, avS r63), (73, (iO 4 [avS (xO l i).product, avS (xO l i).product, avS ⟨#[122, 122]⟩, avS ⟨#[]⟩])), (87, (iO 3 [avI (xO l i).ready, avI (-1), avI 345686400000])), (98, (iO 3 [avI (xO l i).due, avI (xO l i).due, avI 345686400000]))], [.box gr ⟨rowL l, 35, cap * 5⟩], k + 1 + 4 * q + 1 + 1 + 1⟩ := by
          intro r63 hr63
          rw [hF]
          refine VA.all (rs := [26, 32]) (by decide +kernel) (by decide) ?_
          refine ⟨⟨_, rfl, .inl rfl, ?_⟩, ⟨_, rfl, .inl rfl, ?_⟩, trivial⟩
          ·
            refine OpE.callT' (k + 1 + 4 * q + 1 + 1 + 1) rfl rfl hB rfl Tryz.call32 rfl (some_T 1000 (by rfl) (by decide) (by decide) (AllS.cons (hok.getD i).2.1 (AllS.cons (hok.getD i).2.1 (AllS.cons (by decide) (AllS.cons (by decide) AllS.nil))))) (by omega) ?_
            rintro _ ⟨r74, hr74, rfl⟩
            have hh := hS10 r63 hr63 r74 hr74
            rw [hF] at hh
            exact VA.to hh (by decide +kernel) (Le.mk hB [0] ⟨rfl, rfl, rfl, rfl, rfl, rfl, rfl, rfl, rfl, rfl, rfl, rfl, rfl, rfl, rfl, rfl, rfl, rfl, rfl, rfl, rfl, rfl, rfl, rfl, rfl, rfl, trivial⟩ rfl rfl (Nat.le_refl _))
          ·
            refine OpE.buildSlice (zc := #[.int .i64 0, .int .i64 0, .int .i64 0]) rfl hB rfl Tryz.underlying22 Tryz.sizeOf3 Tryz.zeroValue3 (by decide) (by decide) (by kernel_rfl) rfl rfl ?_
            have hh := hS11 r63 hr63
            rw [hF] at hh
            exact VA.to hh (by decide +kernel) (Le.mk hB [0] ⟨rfl, rfl, rfl, rfl, rfl, rfl, rfl, rfl, rfl, rfl, rfl, rfl, rfl, rfl, rfl, rfl, rfl, rfl, rfl, rfl, rfl, rfl, rfl, rfl, rfl, rfl, trivial⟩ rfl rfl (Nat.le_refl _))
        have hS18 : ∀ (r63 : ByteArray) (hr63 : r63.size ≤ 1000 ∧ r63 ≠ ozK), F 20 (lstB 67 [0, 1, 2, 3, 4, 5, 6, 7, 8, 9, 10, 11, 12, 13, 14, 15, 16, 17, 18, 19, 20, 21, 22, 23, 24, 27, 28, 29, 30, 31, 32, 34, 35, 36, 37, 38, 39, 41, 42, 43, 44, 45, 46, 47, 48, 49, 50]) ⟨[(0, sp p), (53, sp p), (64, sp p), (75, sp p), (82, sp p), (89, sp p), (48, (pO gr (0 + i * 5))), (49, (pO gr (0 + i * 5))), (50, (pO gr (0 + i * 5))), (51, (pO gr (0 + i * 5))), (52, (pO gr (0 + i * 5))), (57, avS (xO l i).key), (61, avS (xO l i).key), (68, avS (xO l i).product), (72, avS (xO l i).product), (79, avI (xO l i).count), (86, avI (xO l i).ready), (93, avI (xO l i).due), (97, avI (xO l i).due), (5, .v (.slice (some ⟨gr, 0, none⟩) l.length cap)), (62, (iO 4 [avS (xO l i).key, avS (xO l i).key, avS ⟨#[]⟩, avS ⟨#[111, 97]⟩])), (63, avS r63), (80, (iO 3 [avI (xO l i).count, avI 0, avI 100001])), (87, (iO 3 [avI (xO l i).ready, avI (-1), avI 345686400000])), (98, (iO 3 [avI (xO l i).due, avI (xO l i).due, avI 345686400000]))], [.box gr ⟨rowL l, 35, cap * 5⟩], k + 1 + 4 * q + 1 + 1 + 1⟩ := by
          intro r63 hr63
          rw [hF]
          refine VA.all (rs := [25]) (by decide +kernel) (by decide) ?_
          refine ⟨⟨_, rfl, .inl rfl, ?_⟩, trivial⟩
          refine OpE.buildSlice (zc := #[.string ⟨#[]⟩, .string ⟨#[]⟩, .string ⟨#[]⟩, .string ⟨#[]⟩]) rfl hB rfl Tryz.underlying95 Tryz.sizeOf9 Tryz.zeroValue9 (by decide) (by decide) (by kernel_rfl) rfl rfl ?_
          have hh := hS11 r63 hr63
          rw [hF] at hh
          exact VA.to hh (by decide +kernel) (Le.mk hB [0] ⟨rfl, rfl, rfl, rfl, rfl, rfl, rfl, rfl, rfl, rfl, rfl, rfl, rfl, rfl, rfl, rfl, rfl, rfl, rfl, rfl, rfl, rfl, rfl, rfl, rfl, rfl, trivial⟩ rfl rfl (Nat.le_refl _))
        have hS19 : F 20 (lstB 67 [0, 1, 2, 3, 4, 5, 6, 7, 8, 9, 10, 11, 12, 13, 14, 16, 17, 18, 19, 20, 21, 22, 23, 24, 25, 27, 28, 29, 30, 31, 32, 34, 35, 36, 37, 38, 39, 41, 42, 43, 44, 45, 46, 47, 48, 49, 50]) ⟨[(0, sp p), (53, sp p), (64, sp p), (75, sp p), (82, sp p), (89, sp p), (48, (pO gr (0 + i * 5))), (49, (pO gr (0 + i * 5))), (50, (pO gr (0 + i * 5))), (51, (pO gr (0 + i * 5))), (52, (pO gr (0 + i * 5))), (57, avS (xO l i).key), (61, avS (xO l i).key), (68, avS (xO l i).product), (72, avS (xO l i).product), (79, avI (xO l i).count), (86, avI (xO l i).ready), (93, avI (xO l i).due), (97, avI (xO l i).due), (5, .v (.slice (some ⟨gr, 0, none⟩) l.length cap)), (62, (iO 4 [avS (xO l i).key, avS (xO l i).key, avS ⟨#[]⟩, avS ⟨#[111, 97]⟩])), (73, (iO 4 [avS (xO l i).product, avS (xO l i).product, avS ⟨#[122, 122]⟩, avS ⟨#[]⟩])), (80, (iO 3 [avI (xO l i).count, avI 0, avI 100001])), (87, (iO 3 [avI (xO l i).ready, avI (-1), avI 345686400000])), (98, (iO 3 [avI (xO l i).due, avI (xO l i).due, avI 345686400000]))], [.box gr ⟨rowL l, 35, cap * 5⟩], k + 1 + 4 * q + 1 + 1⟩ := by
          rw [hF]
          refine VA.all (rs := [15]) (by decide +kernel) (by decide) ?_
          refine ⟨⟨_, rfl, .inl rfl, ?_⟩, trivial⟩
          refine OpE.callT' (k + 1 + 4 * q + 1 + 1) rfl rfl hB rfl Tryz.call32 rfl (some_Q (by rfl) (by decide) (by decide) (AllQ.cons ⟨(hok.getD i).1, (hok.getD i).2.2⟩ (AllQ.cons ⟨(hok.getD i).1, (hok.getD i).2.2⟩ (AllQ.cons (by decide) (AllQ.cons (by decide) AllQ.nil))))) (by omega) ?_
          rintro _ ⟨r63, hr63, rfl⟩
          have hh := hS11 r63 hr63
          rw [hF] at hh
          exact VA.to hh (by decide +kernel) (Le.mk hB [0] ⟨rfl, rfl, rfl, rfl, rfl, rfl, rfl, rfl, rfl, rfl, rfl, rfl, rfl, rfl, rfl, rfl, rfl, rfl, rfl, rfl, rfl, rfl, rfl, rfl, rfl, rfl, trivial⟩ rfl rfl (Nat.le_refl _))
        have hS20 : ∀ (r63 : ByteArray) (hr63 : r63.size ≤ 1000 ∧ r63 ≠ ozK) (r74 : ByteArray) (hr74 : r74.size ≤ 1000), F 21 (lstB 67 [0, 1, 2, 3, 4, 5, 6, 7, 8, 9, 10, 11, 12, 13, 14, 15, 16, 17, 18, 19, 20, 21, 22, 23, 24, 25, 26, 27, 28, 29, 30, 31, 34, 35, 36, 37, 38, 41, 42, 43, 44, 45, 46, 47, 48, 49]) ⟨[(0, sp p), (53, sp p), (64, sp p), (75, sp p), (82, sp p), (89, sp p), (48, (pO gr (0 + i * 5))), (49, (pO gr (0 + i * 5))), (50, (pO gr (0 + i * 5))), (51, (pO gr (0 + i * 5))), (52, (pO gr (0 + i * 5))), (57, avS (xO l i).key), (61, avS (xO l i).key), (68, avS (xO l i).product), (72, avS (xO l i).product), (79, avI (xO l i).count), (86, avI (xO l i).ready), (93, avI (xO l i).due), (97, avI (xO l i).due), (5, .v (.slice (some ⟨gr, 0, none⟩) l.length cap)), (62, (iO 4 [avS (xO l i).key, avS (xO l i).key, avS ⟨#[]⟩, avS ⟨#[111, 97]⟩])), (63, avS r63), (73, (iO 4 [avS (xO l i).product, avS (xO l i).product, avS ⟨#[122, 122]⟩, avS ⟨#[]⟩])), (74, avS r74)], [.box gr ⟨rowL l, 35, cap * 5⟩], k + 1 + 4 * q + 1 + 1 + 1 + 1⟩ := by
          intro r63 hr63 r74 hr74
          rw [hF]
          refine VA.all (rs := [32, 39, 50]) (by decide +kernel) (by decide) ?_
          refine ⟨⟨_, rfl, .inl rfl, ?_⟩, ⟨_, rfl, .inl rfl, ?_⟩, ⟨_, rfl, .inl rfl, ?_⟩, trivial⟩
          ·
            refine OpE.buildSlice (zc := #[.int .i64 0, .int .i64 0, .int .i64 0]) rfl hB rfl Tryz.underlying22 Tryz.sizeOf3 Tryz.zeroValue3 (by decide) (by decide) (by kernel_rfl) rfl rfl ?_
            have hh := hS12 r63 hr63 r74 hr74
            rw [hF] at hh
            exact VA.to hh (by decide +kernel) (Le.mk hB [0] ⟨rfl, rfl, rfl, rfl, rfl, rfl, rfl, rfl, rfl, rfl, rfl, rfl, rfl, rfl, rfl, rfl, rfl, rfl, rfl, rfl, rfl, rfl, rfl, rfl, rfl, trivial⟩ rfl rfl (Nat.le_refl _))
          ·
            refine OpE.buildSlice (zc := #[.int .i64 0, .int .i64 0, .int .i64 0]) rfl hB rfl Tryz.underlying22 Tryz.sizeOf3 Tryz.zeroValue3 (by decide) (by decide) (by kernel_rfl) rfl rfl ?_
            have hh := hS13 r63 hr63 r74 hr74
            rw [hF] at hh
            exact VA.to hh (by decide +kernel) (Le.mk hB [0] ⟨rfl, rfl, rfl, rfl, rfl, rfl, rfl, rfl, rfl, rfl, rfl, rfl, rfl, rfl, rfl, rfl, rfl, rfl, rfl, rfl, rfl, rfl, rfl, rfl, rfl, trivial⟩ rfl rfl (Nat.le_refl _))
          ·
            refine OpE.buildSlice (zc := #[.int .i64 0, .int .i64 0, .int .i64 0]) rfl hB rfl Tryz.underlying22 Tryz.sizeOf3 Tryz.zeroValue3 (by decide) (by decide) (by kernel_rfl) rfl rfl ?_
            have hh := hS14 r63 hr63 r74 hr74
            rw [hF] at hh
            exact VA.to hh (by decide +kernel) (Le.mk hB [0] ⟨rfl, rfl, rfl, rfl, rfl, rfl, rfl, rfl, rfl, rfl, rfl, rfl, rfl, rfl, rfl, rfl, rfl, rfl, rfl, rfl, rfl, rfl, rfl, rfl, rfl, trivial⟩ rfl rfl (Nat.le_refl _))
        have hS21 : ∀ (r63 : ByteArray) (hr63 : r63.size ≤ 1000 ∧ r63 ≠ ozK), F 21 (lstB 67 [0, 1, 2, 3, 4, 5, 6, 7, 8, 9, 10, 11, 12, 13, 14, 15, 16, 17, 18, 19, 20, 21, 22, 23, 24, 25, 27, 28, 29, 30, 31, 32, 34, 35, 36, 37, 38, 41, 42, 43, 44, 45, 46, 47, 48, 49]) ⟨[(0, sp p), (53, sp p), (64, sp p), (75, sp p), (82, sp p), (89, sp p), (48, (pO gr (0 + i * 5))), (49, (pO gr (0 + i * 5))), (50, (pO gr (0 + i * 5))), (51, (pO gr (0 + i * 5))), (52, (pO gr (0 + i * 5))), (57, avS (xO l i).key), (61, avS (xO l i).key), (68, avS (xO l i).product), (72, avS (xO l i).product), (79, avI (xO l i).count), (86, avI (xO l i).ready), (93, avI (xO l i).due), (97, avI (xO l i).due), (5, .v (.slice (some ⟨gr, 0, none⟩) l.length cap)), (62, (iO 4 [avS (xO l i).key, avS (xO l i).key, avS ⟨#[]⟩, avS ⟨#[111, 97]⟩])), (63, avS r63), (73, (iO 4 [avS (xO l i).product, avS (xO l i).product, avS ⟨#[122, 122]⟩, avS ⟨#[]⟩])), (80, (iO 3 [avI (xO l i).count, avI 0, avI 100001]))], [.box gr ⟨rowL l, 35, cap * 5⟩], k + 1 + 4 * q + 1 + 1 + 1⟩ := by
          intro r63 hr63
          rw [hF]
          refine VA.all (rs := [26, 39, 50]) (by decide +kernel) (by decide) ?_
          refine ⟨⟨_, rfl, .inl rfl, ?_⟩, ⟨_, rfl, .inl rfl, ?_⟩, ⟨_, rfl, .inl rfl, ?_⟩, trivial⟩
          ·
            refine OpE.callT' (k + 1 + 4 * q + 1 + 1 + 1) rfl rfl hB rfl Tryz.call32 rfl (some_T 1000 (by rfl) (by decide) (by decide) (AllS.cons (hok.getD i).2.1 (AllS.cons (hok.getD i).2.1 (AllS.cons (by decide) (AllS.cons (by decide) AllS.nil))))) (by omega) ?_
            rintro _ ⟨r74, hr74, rfl⟩
            have hh := hS12 r63 hr63 r74 hr74
            rw [hF] at hh
            exact VA.to hh (by decide +kernel) (Le.mk hB [0] ⟨rfl, rfl, rfl, rfl, rfl, rfl, rfl, rfl, rfl, rfl, rfl, rfl, rfl, rfl, rfl, rfl, rfl, rfl, rfl, rfl, rfl, rfl, rfl, rfl, rfl, trivial⟩ rfl rfl (Nat.le_refl _))
          ·
            refine OpE.buildSlice (zc := #[.int .i64 0, .int .i64 0, .int .i64 0]) rfl hB rfl Tryz.underlying22 Tryz.sizeOf3 Tryz.zeroValue3 (by decide) (by decide) (by kernel_rfl) rfl rfl ?_
            have hh := hS15 r63 hr63
            rw [hF] at hh
            exact VA.to hh (by decide +kernel) (Le.mk hB [0] ⟨rfl, rfl, rfl, rfl, rfl, rfl, rfl, rfl, rfl, rfl, rfl, rfl, rfl, rfl, rfl, rfl, rfl, rfl, rfl, rfl, rfl, rfl, rfl, rfl, rfl, trivial⟩ rfl rfl (Nat.le_refl _))
          ·
            refine OpE.buildSlice (zc := #[.int .i64 0, .int .i64 0, .int .i64 0]) rfl hB rfl Tryz.underlying22 Tryz.sizeOf3 Tryz.zeroValue3 (by decide) (by decide) (by kernel_rfl) rfl rfl ?_
            have hh := hS16 r63 hr63
            rw [hF] at hh
            exact VA.to hh (by decide +kernel) (Le.mk hB [0] ⟨rfl, rfl, rfl, rfl, rfl, rfl, rfl, rfl, rfl, rfl, rfl, rfl, rfl, rfl, rfl, rfl, rfl, rfl, rfl, rfl, rfl, rfl, rfl, rfl, rfl, trivial⟩ rfl rfl (Nat.le_refl _))
        have hS22 : ∀ (r63 : ByteArray) (hr63 : r63.size ≤ 1000 ∧ r63 ≠ ozK), F 21 (lstB 67 [0, 1, 2, 3, 4, 5, 6, 7, 8, 9, 10, 11, 12, 13, 14, 15, 16, 17, 18, 19, 20, 21, 22, 23, 24, 25, 27, 28, 29, 30, 31, 34, 35, 36, 37, 38, 39, 41, 42, 43, 44, 45, 46, 47, 48, 49]) ⟨[(0, sp p), (53, sp p), (64, sp p), (75, sp p), (82, sp p), (89, sp p), (48, (pO gr (0 + i * 5))), (49, (pO gr (0 + i * 5))), (50, (pO gr (0 + i * 5))), (51, (pO gr (0 + i * 5))), (52, (pO gr (0 + i * 5))), (57, avS (xO l i).key), (61, avS (xO l i).key), (68, avS (xO l i).product), (72, avS (xO l i).product), (79, avI (xO l i).count), (86, avI (xO l i).ready), (93, avI (xO l i).due), (97, avI (xO l i).due), (5, .v (.slice (some ⟨gr, 0, none⟩) l.length cap)), (62, (iO 4 [avS (xO l i).key, avS (xO l i).key, avS ⟨#[]⟩, avS ⟨#[111, 97]⟩])), (63, avS r63), (73, (iO 4 [avS (xO l i).product, avS (xO l i).product, avS ⟨#[122, 122]⟩, avS ⟨#[]⟩])), (87, (iO 3 [avI (xO l i).ready, avI (-1), avI 345686400000]))], [.box gr ⟨rowL l, 35, cap * 5⟩], k + 1 + 4 * q + 1 + 1 + 1⟩ := by
          intro r63 hr63
          rw [hF]
          refine VA.all (rs := [26, 32, 50]) (by decide +kernel) (by decide) ?_
          refine ⟨⟨_, rfl, .inl rfl, ?_⟩, ⟨_, rfl, .inl rfl, ?_⟩, ⟨_, rfl, .inl rfl, ?_⟩, trivial⟩
          ·
            refine OpE.callT' (k + 1 + 4 * q + 1 + 1 + 1) rfl rfl hB rfl Tryz.call32 rfl (some_T 1000 (by rfl) (by decide) (by decide) (AllS.cons (hok.getD i).2.1 (AllS.cons (hok.getD i).2.1 (AllS.cons (by decide) (AllS.cons (by decide) AllS.nil))))) (by omega) ?_
            rintro _ ⟨r74, hr74, rfl⟩
            have hh := hS13 r63 hr63 r74 hr74
            rw [hF] at hh
            exact VA.to hh (by decide +kernel) (Le.mk hB [0] ⟨rfl, rfl, rfl, rfl, rfl, rfl, rfl, rfl, rfl, rfl, rfl, rfl, rfl, rfl, rfl, rfl, rfl, rfl, rfl, rfl, rfl, rfl, rfl, rfl, rfl, trivial⟩ rfl rfl (Nat.le_refl _))
          ·
            refine OpE.buildSlice (zc := #[.int .i64 0, .int .i64 0, .int .i64 0]) rfl hB rfl Tryz.underlying22 Tryz.sizeOf3 Tryz.zeroValue3 (by decide) (by decide) (by kernel_rfl) rfl rfl ?_
            have hh := hS15 r63 hr63
            rw [hF] at hh
            exact VA.to hh (by decide +kernel) (Le.mk hB [0] ⟨rfl, rfl, rfl, rfl, rfl, rfl, rfl, rfl, rfl, rfl, rfl, rfl, rfl, rfl, rfl, rfl, rfl, rfl, rfl, rfl, rfl, rfl, rfl, rfl, rfl, trivial⟩ rfl rfl (Nat.le_refl _))
          ·
            refine OpE.buildSlice (zc := #[.int .i64 0, .int .i64 0, .int .i64 0]) rfl hB rfl Tryz.underlying22 Tryz.sizeOf3 Tryz.zeroValue3 (by decide) (by decide) (by kernel_rfl) rfl rfl ?_
            have hh := hS17 r63 hr63
            rw [hF] at hh
            exact VA.to hh (by decide +kernel) (Le.mk hB [0] ⟨rfl, rfl, rfl, rfl, rfl, rfl, rfl, rfl, rfl, rfl, rfl, rfl, rfl, rfl, rfl, rfl, rfl, rfl, rfl, rfl, rfl, rfl, rfl, rfl, rfl, trivial⟩ rfl rfl (Nat.le_refl _))
        have hS23 : ∀ (r63 : ByteArray) (hr63 : r63.size ≤ 1000 ∧ r63 ≠ ozK), F 21 (lstB 67 [0, 1, 2, 3, 4, 5, 6, 7, 8, 9, 10, 11, 12, 13, 14, 15, 16, 17, 18, 19, 20, 21, 22, 23, 24, 25, 27, 28, 29, 30, 31, 34, 35, 36, 37, 38, 41, 42, 43, 44, 45, 46, 47, 48, 49, 50]) ⟨[(0, sp p), (53, sp p), (64, sp p), (75, sp p), (82, sp p), (89, sp p), (48, (pO gr (0 + i * 5))), (49, (pO gr (0 + i * 5))), (50, (pO gr (0 + i * 5))), (51, (pO gr (0 + i * 5))), (52, (pO gr (0 + i * 5))), (57, avS (xO l i).key), (61, avS (xO l i).key), (68, avS (xO l i).product), (72, avS (xO l i).product), (79, avI (xO l i).count), (86, avI (xO l i).ready), (93, avI (xO l i).due), (97, avI (xO l i).due), (5, .v (.slice (some ⟨gr, 0, none⟩) l.length cap)), (62, (iO 4 [avS (xO l i).key, avS (xO l i).key, avS ⟨#[]⟩, avS ⟨#[111, 97]⟩])), (63, avS r63), (73, (iO 4 [avS (xO l i).product, avS (xO l i).product, avS ⟨#[122, 122]⟩, avS ⟨#[]⟩])), (98, (iO 3 [avI (xO l i).due, avI (xO l i).due, avI 345686400000]))], [.box gr ⟨rowL l, 35, cap * 5⟩], k + 1 + 4 * q + 1 + 1 + 1⟩ := by
          intro r63 hr63
          rw [hF]
          refine VA.all (rs := [26, 32, 39]) (by decide +kernel) (by decide) ?_
          refine ⟨⟨_, rfl, .inl rfl, ?_⟩, ⟨_, rfl, .inl rfl, ?_⟩, ⟨_, rfl, .inl rfl, ?_⟩, trivial⟩
          ·
            refine OpE.callT' (k + 1 + 4 * q + 1 + 1 + 1) rfl rfl hB rfl Tryz.call32 rfl (some_T 1000 (by rfl) (by decide) (by decide) (AllS.cons (hok.getD i).2.1 (AllS.cons (hok.getD i).2.1 (AllS.cons (by decide) (AllS.cons (by decide) AllS.nil))))) (by omega) ?_
            rintro _ ⟨r74, hr74, rfl⟩
            have hh := hS14 r63 hr63 r74 hr74
            rw [hF] at hh
            exact VA.to hh (by decide +kernel) (Le.mk hB [0] ⟨rfl, rfl, rfl, rfl, rfl, rfl, rfl, rfl, rfl, rfl, rfl, rfl, rfl, rfl, rfl, rfl, rfl, rfl, rfl, rfl, rfl, rfl, rfl, rfl, rfl, trivial⟩ rfl rfl (Nat.le_refl _))
          ·
            refine OpE.buildSlice (zc := #[.int .i64 0, .int .i64 0, .int .i64 0]) rfl hB rfl Tryz.underlying22 Tryz.sizeOf3 Tryz.zeroValue3 (by decide) (by decide) (by kernel_rfl) rfl rfl ?_
            have hh := hS16 r63 hr63
            rw [hF] at hh
            exact VA.to hh (by decide +kernel) (Le.mk hB [0] ⟨rfl, rfl, rfl, rfl, rfl, rfl, rfl, rfl, rfl, rfl, rfl, rfl, rfl, rfl, rfl, rfl, rfl, rfl, rfl, rfl, rfl, rfl, rfl, rfl, rfl, trivial⟩ rfl rfl (Nat.le_refl _))
          ·
            refine OpE.buildSlice (zc := #[.int .i64 0, .int .i64 0, .int .i64 0]) rfl hB rfl Tryz.underlying22 Tryz.sizeOf3 Tryz.zeroValue3 (by decide) (by decide) (by kernel_rfl) rfl rfl ?_
            have hh := hS17 r63 hr63
            rw [hF] at hh
            exact VA.to hh (by decide +kernel) (Le.mk hB [0] ⟨rfl, rfl, rfl, rfl, rfl, rfl, rfl, rfl, rfl, rfl, rfl, rfl, rfl, rfl, rfl, rfl, rfl, rfl, rfl, rfl, rfl, rfl, rfl, rfl, rfl, trivial⟩ rfl rfl (Nat.le_refl _))
        have hS24 : ∀ (r63 : ByteArray) (hr63 : r63.size ≤ 1000 ∧ r63 ≠ ozK), F 21 (lstB 67 [0, 1, 2, 3, 4, 5, 6, 7, 8, 9, 10, 11, 12, 13, 14, 15, 16, 17, 18, 19, 20, 21, 22, 23, 24, 27, 28, 29, 30, 31, 32, 34, 35, 36, 37, 38, 39, 41, 42, 43, 44, 45, 46, 47, 48, 49]) ⟨[(0, sp p), (53, sp p), (64, sp p), (75, sp p), (82, sp p), (89, sp p), (48, (pO gr (0 + i * 5))), (49, (pO gr (0 + i * 5))), (50, (pO gr (0 + i * 5))), (51, (pO gr (0 + i * 5))), (52, (pO gr (0 + i * 5))), (57, avS (xO l i).key), (61, avS (xO l i).key), (68, avS (xO l i).product), (72, avS (xO l i).product), (79, avI (xO l i).count), (86, avI (xO l i).ready), (93, avI (xO l i).due), (97, avI (xO l i).due), (5, .v (.slice (some ⟨gr, 0, none⟩) l.length cap)), (62, (iO 4 [avS (xO l i).key, avS (xO l i).key, avS ⟨#[]⟩, avS ⟨#[111, 97]⟩])), (63, avS r63), (80, (iO 3 [avI (xO l i).count, avI 0, avI 100001])), (87, (iO 3 [avI (xO l i).ready, avI (-1), avI 345686400000]))], [.box gr ⟨rowL l, 35, cap * 5⟩], k + 1 + 4 * q + 1 + 1 + 1⟩ := by
          intro r63 hr63
          rw [hF]
          refine VA.all (rs := [25, 50]) (by decide +kernel) (by decide) ?_
          refine ⟨⟨_, rfl, .inl rfl, ?_⟩, ⟨_, rfl, .inl rfl, ?_⟩, trivial⟩
          ·
            refine OpE.buildSlice (zc := #[.string ⟨#[]⟩, .string ⟨#[]⟩, .string ⟨#[]⟩, .string ⟨#[]⟩]) rfl hB rfl Tryz.underlying95 Tryz.sizeOf9 Tryz.zeroValue9 (by decide) (by decide) (by kernel_rfl) rfl rfl ?_
            have hh := hS15 r63 hr63
            rw [hF] at hh
            exact VA.to hh (by decide +kernel) (Le.mk hB [0] ⟨rfl, rfl, rfl, rfl, rfl, rfl, rfl, rfl, rfl, rfl, rfl, rfl, rfl, rfl, rfl, rfl, rfl, rfl, rfl, rfl, rfl, rfl, rfl, rfl, rfl, trivial⟩ rfl rfl (Nat.le_refl _))
          ·
            refine OpE.buildSlice (zc := #[.int .i64 0, .int .i64 0, .int .i64 0]) rfl hB rfl Tryz.underlying22 Tryz.sizeOf3 Tryz.zeroValue3 (by decide) (by decide) (by kernel_rfl) rfl rfl ?_
            have hh := hS18 r63 hr63
            rw [hF] at hh
            exact VA.to hh (by decide +kernel) (Le.mk hB [0] ⟨rfl, rfl, rfl, rfl, rfl, rfl, rfl, rfl, rfl, rfl, rfl, rfl, rfl, rfl, rfl, rfl, rfl, rfl, rfl, rfl, rfl, rfl, rfl, rfl, rfl, trivial⟩ rfl rfl (Nat.le_refl _))
        have hS25 : ∀ (r63 : ByteArray) (hr63 : r63.size ≤ 1000 ∧ r63 ≠ ozK), F 21 (lstB 67 [0, 1, 2, 3, 4, 5, 6, 7, 8, 9, 10, 11, 12, 13, 14, 15, 16, 17, 18, 19, 20, 21, 22, 23, 24, 27, 28, 29, 30, 31, 32, 34, 35, 36, 37, 38, 41, 42, 43, 44, 45, 46, 47, 48, 49, 50]) ⟨[(0, sp p), (53, sp p), (64, sp p), (75, sp p), (82, sp p), (89, sp p), (48, (pO gr (0 + i * 5))), (49, (pO gr (0 + i * 5))), (50, (pO gr (0 + i * 5))), (51, (pO gr (0 + i * 5))), (52, (pO gr (0 + i * 5))), (57, avS (xO l i).key), (61, avS (xO l i).key), (68, avS (xO l i).product), (72, avS (xO l i).product), (79, avI (xO l i).count), (86, avI (xO l i).ready), (93, avI (xO l i).due), (97, avI (xO l i).due), (5, .v (.slice (some ⟨gr, 0, none⟩) l.length cap)), (62, (iO 4 [avS (xO l i).key, avS (xO l i).key, avS ⟨#[]⟩, avS ⟨#[111, 97]⟩])), (63, avS r63), (80, (iO 3 [avI (xO l i).count, avI 0, avI 100001])), (98, (iO 3 [avI (xO l i).due, avI (xO l i).due, avI 345686400000]))], [.box gr ⟨rowL l, 35, cap * 5⟩], k + 1 + 4 * q + 1 + 1 + 1⟩ := by
          intro r63 hr63
          rw [hF]
          refine VA.all (rs := [25, 39]) (by decide +kernel) (by decide) ?_
          refine ⟨⟨_, rfl, .inl rfl, ?_⟩, ⟨_, rfl, .inl rfl, ?_⟩, trivial⟩
          ·
            refine OpE.buildSlice (zc := #[.string ⟨#[]⟩, .string ⟨#[]⟩, .string ⟨#[]⟩, .string ⟨#[]⟩]) rfl hB rfl Tryz.underlying95 Tryz.sizeOf9 Tryz.zeroValue9 (by decide) (by decide) (by kernel_rfl) rfl rfl ?_
            have hh := hS16 r63 hr63
            rw [hF] at hh
            exact VA.to hh (by decide +kernel) (Le.mk hB [0] ⟨rfl, rfl, rfl, rfl, rfl, rfl, rfl, rfl, rfl, rfl, rfl, rfl, rfl, rfl, rfl, rfl, rfl, rfl, rfl, rfl, rfl, rfl, rfl, rfl, rfl, trivial⟩ rfl rfl (Nat.le_refl _))
          ·
            refine OpE.buildSlice (zc := #[.int .i64 0, .int .i64 0, .int .i64 0]) rfl hB rfl Tryz.underlying22 Tryz.sizeOf3 Tryz.zeroValue3 (by decide) (by decide) (by kernel_rfl) rfl rfl ?_
            have hh := hS18 r63 hr63
            rw [hF] at hh
            exact VA.to hh (by decide +kernel) (Le.mk hB [0] ⟨rfl, rfl, rfl, rfl, rfl, rfl, rfl, rfl, rfl, rfl, rfl, rfl, rfl, rfl, rfl, rfl, rfl, rfl, rfl, rfl, rfl, rfl, rfl, rfl, rfl, trivial⟩ rfl rfl (Nat.le_refl _))
        have hS26 : ∀ (r63 : ByteArray) (hr63 : r63.size ≤ 1000 ∧ r63 ≠ ozK), F 21 (lstB 67 [0, 1, 2, 3, 4, 5, 6, 7, 8, 9, 10, 11, 12, 13, 14, 15, 16, 17, 18, 19, 20, 21, 22, 23, 24, 27, 28, 29, 30, 31, 34, 35, 36, 37, 38, 39, 41, 42, 43, 44, 45, 46, 47, 48, 49, 50]) ⟨[(0, sp p), (53, sp p), (64, sp p), (75, sp p), (82, sp p), (89, sp p), (48, (pO gr (0 + i * 5))), (49, (pO gr (0 + i * 5))), (50, (pO gr (0 + i * 5))), (51, (pO gr (0 + i * 5))), (52, (pO gr (0 + i * 5))), (57, avS (xO l i).key), (61, avS (xO l i).key), (68, avS (xO l i).product), (72, avS (xO l i).product), (79, avI (xO l i).count), (86, avI (xO l i).ready), (93, avI (xO l i).due), (97, avI (xO l i).due), (5, .v (.slice (some ⟨gr, 0, none⟩) l.length cap)), (62, (iO 4 [avS (xO l i).key, avS (xO l i).key, avS ⟨#[]⟩, avS ⟨#[111, 97]⟩])), (63, avS r63), (87, (iO 3 [avI (xO l i).ready, avI (-1), avI 345686400000])), (98, (iO 3 [avI (xO l i).due, avI (xO l i).due, avI 345686400000]))], [.box gr ⟨rowL l, 35, cap * 5⟩], k + 1 + 4 * q + 1 + 1 + 1⟩ := by
          intro r63 hr63
          rw [hF]
          refine VA.all (rs := [25, 32]) (by decide +kernel) (by decide) ?_
          refine ⟨⟨_, rfl, .inl rfl, ?_⟩, ⟨_, rfl, .inl rfl, ?_⟩, trivial⟩
          ·
            refine OpE.buildSlice (zc := #[.string ⟨#[]⟩, .string ⟨#[]⟩, .string ⟨#[]⟩, .string ⟨#[]⟩]) rfl hB rfl Tryz.underlying95 Tryz.sizeOf9 Tryz.zeroValue9 (by decide) (by decide) (by kernel_rfl) rfl rfl ?_
            have hh := hS17 r63 hr63
            rw [hF] at hh
            exact VA.to hh (by decide +kernel) (Le.mk hB [0] ⟨rfl, rfl, rfl, rfl, rfl, rfl, rfl, rfl, rfl, rfl, rfl, rfl, rfl, rfl, rfl, rfl, rfl, rfl, rfl, rfl, rfl, rfl, rfl, rfl, rfl, trivial⟩ rfl rfl (Nat.le_refl _))
          ·
            refine OpE.buildSlice (zc := #[.int .i64 0, .int .i64 0, .int .i64 0]) rfl hB rfl Tryz.underlying22 Tryz.sizeOf3 Tryz.zeroValue3 (by decide) (by decide) (by kernel_rfl) rfl rfl ?_
            have hh := hS18 r63 hr63
            rw [hF] at hh
            exact VA.to hh (by decide +kernel) (Le.mk hB [0] ⟨rfl, rfl, rfl, rfl, rfl, rfl, rfl, rfl, rfl, rfl, rfl, rfl, rfl, rfl, rfl, rfl, rfl, rfl, rfl, rfl, rfl, rfl, rfl, rfl, rfl, trivial⟩ rfl rfl (Nat.le_refl _))
        have hS27 : F 21 (lstB 67 [0, 1, 2, 3, 4, 5, 6, 7, 8, 9, 10, 11, 12, 13, 14, 16, 17, 18, 19, 20, 21, 22, 23, 24, 25, 27, 28, 29, 30, 31, 32, 34, 35, 36, 37, 38, 39, 41, 42, 43, 44, 45, 46, 47, 48, 49]) ⟨[(0, sp p), (53, sp p), (64, sp p), (75, sp p), (82, sp p), (89, sp p), (48, (pO gr (0 + i * 5))), (49, (pO gr (0 + i * 5))), (50, (pO gr (0 + i * 5))), (51, (pO gr (0 + i * 5))), (52, (pO gr (0 + i * 5))), (57, avS (xO l i).key), (61, avS (xO l i).key), (68, avS (xO l i).product), (72, avS (xO l i).product), (79, avI (xO l i).count), (86, avI (xO l i).ready), (93, avI (xO l i).due), (97, avI (xO l i).due), (5, .v (.slice (some ⟨gr, 0, none⟩) l.length cap)), (62, (iO 4 [avS (xO l i).key, avS (xO l i).key, avS ⟨#[]⟩, avS ⟨#[111, 97]⟩])), (73, (iO 4 [avS (xO l i).product, avS (xO l i).product, avS ⟨#[122, 122]⟩, avS ⟨#[]⟩])), (80, (iO 3 [avI (xO l i).count, avI 0, avI 100001])), (87, (iO 3 [avI (xO l i).ready, avI (-1), avI 345686400000]))], [.box gr ⟨rowL l, 35, cap * 5⟩], k + 1 + 4 * q + 1 + 1⟩ := by
          rw [hF]
          refine VA.all (rs := [15, 50]) (by decide +kernel) (by decide) ?_
          refine ⟨⟨_, rfl, .inl rfl, ?_⟩, ⟨_, rfl, .inl rfl, ?_⟩, trivial⟩
          ·
            refine OpE.callT' (k + 1 + 4 * q + 1 + 1) rfl rfl hB rfl Tryz.call32 rfl (some_Q (by rfl) (by decide) (by decide) (AllQ.cons ⟨(hok.getD i).1, (hok.getD i).2.2⟩ (AllQ.cons ⟨(hok.getD i).1, (hok.getD i).2.2⟩ (AllQ.cons (by decide) (AllQ.cons (by decide) AllQ.nil))))) (by omega) ?_
            rintro _ ⟨r63, hr63, rfl⟩
            have hh := hS15 r63 hr63
            rw [hF] at hh
            exact VA.to hh (by decide +kernel) (Le.mk hB [0] ⟨rfl, rfl, rfl, rfl, rfl, rfl, rfl, rfl, rfl, rfl, rfl, rfl, rfl, rfl, rfl, rfl, rfl, rfl, rfl, rfl, rfl, rfl, rfl, rfl, rfl, trivial⟩ rfl rfl (Nat.le_refl _))
          ·
            refine OpE.buildSlice (zc := #[.int .i64 0, .int .i64 0, .int .i64 0]) rfl hB rfl Tryz.underlying22 Tryz.sizeOf3 Tryz.zeroValue3 (by decide) (by decide) (by kernel_rfl) rfl rfl ?_
            have hh := hS19 
            rw [hF] at hh
            exact VA.to hh (by decide +kernel) (Le.mk hB [0] ⟨rfl, rfl, rfl, rfl, rfl, rfl, rfl, rfl, rfl, rfl, rfl, rfl, rfl, rfl, rfl, rfl, rfl, rfl, rfl, rfl, rfl, rfl, rfl, rfl, rfl, trivial⟩ rfl rfl (Nat.le_refl _))
        have hS28 : F 21 (lstB 67 [0, 1, 2, 3, 4, 5, 6, 7, 8, 9, 10, 11, 12, 13, 14, 16, 17, 18, 19, 20, 21, 22, 23, 24, 25, 27, 28, 29, 30, 31, 32, 34, 35, 36, 37, 38, 41, 42, 43, 44, 45, 46, 47, 48, 49, 50]) ⟨[(0, sp p), (53, sp p), (64, sp p), (75, sp p), (82, sp p), (89, sp p), (48, (pO gr (0 + i * 5))), (49, (pO gr (0 + i * 5))), (50, (pO gr (0 + i * 5))), (51, (pO gr (0 + i * 5))), (52, (pO gr (0 + i * 5))), (57, avS (xO l i).key), (61, avS (xO l i).key), (68, avS (xO l i).product), (72, avS (xO l i).product), (79, avI (xO l i).count), (86, avI (xO l i).ready), (93, avI (xO l i).due), (97, avI (xO l i).due), (5, .v (.slice (some ⟨gr, 0, none⟩) l.length cap)), (62, (iO 4 [avS (xO l i).key, avS (xO l i).key, avS ⟨#[]⟩, avS ⟨#[111, 97]⟩])), (73, (iO 4 [avS (xO l i).product, avS (xO l i).product, avS ⟨#[122, 122]⟩, avS ⟨#[]⟩])), (80, (iO 3 [avI (xO l i).count, avI 0, avI 100001])), (98, (iO 3 [avI (xO l i).due, avI (xO l i).due, avI 345686400000]))], [.box gr ⟨rowL l, 35, cap * 5⟩], k + 1 + 4 * q + 1 + 1⟩ := by
          rw [hF]
          refine VA.all (rs := [15, 39]) (by decide +kernel) (by decide) ?_
          refine ⟨⟨_, rfl, .inl rfl, ?_⟩, ⟨_, rfl, .inl rfl, ?_⟩, trivial⟩
          ·
            refine OpE.callT' (k + 1 + 4 * q + 1 + 1) rfl rfl hB rfl Tryz.call32 rfl (some_Q (by rfl) (by decide) (by decide) (AllQ.cons ⟨(hok.getD i).1, (hok.getD i).2.2⟩ (AllQ.cons ⟨(hok.getD i).1, (hok.getD i).2.2⟩ (AllQ.cons (by decide) (AllQ.cons (by decide) AllQ.nil))))) (by omega) ?_
            rintro _ ⟨r63, hr63, rfl⟩
            have hh := hS16 r63 hr63
            rw [hF] at hh
            exact VA.to hh (by decide +kernel) (Le.mk hB [0] ⟨rfl, rfl, rfl, rfl, rfl, rfl, rfl, rfl, rfl, rfl, rfl, rfl, rfl, rfl, rfl, rfl, rfl, rfl, rfl, rfl, rfl, rfl, rfl, rfl, rfl, trivial⟩ rfl rfl (Nat.le_refl _))
          ·
            refine OpE.buildSlice (zc := #[.int .i64 0, .int .i64 0, .int .i64 0]) rfl hB rfl Tryz.underlying22 Tryz.sizeOf3 Tryz.zeroValue3 (by decide) (by decide) (by kernel_rfl) rfl rfl ?_
            have hh := hS19 
            rw [hF] at hh
            exact VA.to hh (by decide +kernel) (Le.mk hB [0] ⟨rfl, rfl, rfl, rfl, rfl, rfl, rfl, rfl, rfl, rfl, rfl, rfl, rfl, rfl, rfl, rfl, rfl, rfl, rfl, rfl, rfl, rfl, rfl, rfl, rfl, trivial⟩ rfl rfl (Nat.le_refl _))
        have hS29 : F 21 (lstB 67 [0, 1, 2, 3, 4, 5, 6, 7, 8, 9, 10, 11, 12, 13, 14, 16, 17, 18, 19, 20, 21, 22, 23, 24, 25, 27, 28, 29, 30, 31, 34, 35, 36, 37, 38, 39, 41, 42, 43, 44, 45, 46, 47, 48, 49, 50]) ⟨[(0, sp p), (53, sp p), (64, sp p), (75, sp p), (82, sp p), (89, sp p), (48, (pO gr (0 + i * 5))), (49, (pO gr (0 + i * 5))), (50, (pO gr (0 + i * 5))), (51, (pO gr (0 + i * 5))), (52, (pO gr (0 + i * 5))), (57, avS (xO l i).key), (61, avS (xO l i).key), (68, avS (xO l i).product), (72, avS (xO l i).product), (79, avI (xO l i).count), (86, avI (xO l i).ready), (93, avI (xO l i).due), (97, avI (xO l i).due), (5, .v (.slice (some ⟨gr, 0, none⟩) l.length cap)), (62, (iO 4 [avS (xO l i).key, avS (xO l i).key, avS ⟨#[]⟩, avS ⟨#[111, 97]⟩])), (73, (iO 4 [avS (xO l i).product, avS (xO l i).product, avS ⟨#[122, 122]⟩, avS ⟨#[]⟩])), (87, (iO 3 [avI (xO l i).ready, avI (-1), avI 345686400000])), (98, (iO 3 [avI (xO l i).due, avI (xO l i).due, avI 345686400000]))], [.box gr ⟨rowL l, 35, cap * 5⟩], k + 1 + 4 * q + 1 + 1⟩ := by
          rw [hF]
          refine VA.all (rs := [15, 32]) (by decide +kernel) (by decide) ?_
          refine ⟨⟨_, rfl, .inl rfl, ?_⟩, ⟨_, rfl, .inl rfl, ?_⟩, trivial⟩
          ·
            refine OpE.callT' (k + 1 + 4 * q + 1 + 1) rfl rfl hB rfl Tryz.call32 rfl (some_Q (by rfl) (by decide) (by decide) (AllQ.cons ⟨(hok.getD i).1, (hok.getD i).2.2⟩ (AllQ.cons ⟨(hok.getD i).1, (hok.getD i).2.2⟩ (AllQ.cons (by decide) (AllQ.cons (by decide) AllQ.nil))))) (by omega) ?_
            rintro _ ⟨r63, hr63, rfl⟩
            have hh := hS17 r63 hr63
            rw [hF] at hh
            exact VA.to hh (by decide +kernel) (Le.mk hB [0] ⟨rfl, rfl, rfl, rfl, rfl, rfl, rfl, rfl, rfl, rfl, rfl, rfl, rfl, rfl, rfl, rfl, rfl, rfl, rfl, rfl, rfl, rfl, rfl, rfl, rfl, trivial⟩ rfl rfl (Nat.le_refl _))
          ·
            refine OpE.buildSlice (zc := #[.int .i64 0, .int .i64 0, .int .i64 0]) rfl hB rfl Tryz.underlying22 Tryz.sizeOf3 Tryz.zeroValue3 (by decide) (by decide) (by kernel_rfl) rfl rfl ?_
            have hh := hS19 
            rw [hF] at hh
            exact VA.to hh (by decide +kernel) (Le.mk hB [0] ⟨rfl, rfl, rfl, rfl, rfl, rfl, rfl, rfl, rfl, rfl, rfl, rfl, rfl, rfl, rfl, rfl, rfl, rfl, rfl, rfl, rfl, rfl, rfl, rfl, rfl, trivial⟩ rfl rfl (Nat.le_refl _))
        have hS30 : F 21 (lstB 67 [0, 1, 2, 3, 4, 5, 6, 7, 8, 9, 10, 11, 12, 13, 14, 16, 17, 18, 19, 20, 21, 22, 23, 24, 27, 28, 29, 30, 31, 32, 34, 35, 36, 37, 38, 39, 41, 42, 43, 44, 45, 46, 47, 48, 49, 50]) ⟨[(0, sp p), (53, sp p), (64, sp p), (75, sp p), (82, sp p), (89, sp p), (48, (pO gr (0 + i * 5))), (49, (pO gr (0 + i * 5))), (50, (pO gr (0 + i * 5))), (51, (pO gr (0 + i * 5))), (52, (pO gr (0 + i * 5))), (57, avS (xO l i).key), (61, avS (xO l i).key), (68, avS (xO l i).product), (72, avS (xO l i).product), (79, avI (xO l i).count), (86, avI (xO l i).ready), (93, avI (xO l i).due), (97, avI (xO l i).due), (5, .v (.slice (some ⟨gr, 0, none⟩) l.length cap)), (62, (iO 4 [avS (xO l i).key, avS (xO l i).key, avS ⟨#[]⟩, avS ⟨#[111, 97]⟩])), (80, (iO 3 [avI (xO l i).count, avI 0, avI 100001])), (87, (iO 3 [avI (xO l i).ready, avI (-1), avI 345686400000])), (98, (iO 3 [avI (xO l i).due, avI (xO l i).due, avI 345686400000]))], [.box gr ⟨rowL l, 35, cap * 5⟩], k + 1 + 4 * q + 1 + 1⟩ := by
          rw [hF]
          refine VA.all (rs := [15, 25]) (by decide +kernel) (by decide) ?_
          refine ⟨⟨_, rfl, .inl rfl, ?_⟩, ⟨_, rfl, .inl rfl, ?_⟩, trivial⟩
          ·
            refine OpE.callT' (k + 1 + 4 * q + 1 + 1) rfl rfl hB rfl Tryz.call32 rfl (some_Q (by rfl) (by decide) (by decide) (AllQ.cons ⟨(hok.getD i).1, (hok.getD i).2.2⟩ (AllQ.cons ⟨(hok.getD i).1, (hok.getD i).2.2⟩ (AllQ.cons (by decide) (AllQ.cons (by decide) AllQ.nil))))) (by omega) ?_
            rintro _ ⟨r63, hr63, rfl⟩
            have hh := hS18 r63 hr63
            rw [hF] at hh
            exact VA.to hh (by decide +kernel) (Le.mk hB [0] ⟨rfl, rfl, rfl, rfl, rfl, rfl, rfl, rfl, rfl, rfl, rfl, rfl, rfl, rfl, rfl, rfl, rfl, rfl, rfl, rfl, rfl, rfl, rfl, rfl, rfl, trivial⟩ rfl rfl (Nat.le_refl _))
          ·
            refine OpE.buildSlice (zc := #[.string ⟨#[]⟩, .string ⟨#[]⟩, .string ⟨#[]⟩, .string ⟨#[]⟩]) rfl hB rfl Tryz.underlying95 Tryz.sizeOf9 Tryz.zeroValue9 (by decide) (by decide) (by kernel_rfl) rfl rfl ?_
            have hh := hS19 
            rw [hF] at hh
            exact VA.to hh (by decide +kernel) (Le.mk hB [0] ⟨rfl, rfl, rfl, rfl, rfl, rfl, rfl, rfl, rfl, rfl, rfl, rfl, rfl, rfl, rfl, rfl, rfl, rfl, rfl, rfl, rfl, rfl, rfl, rfl, rfl, trivial⟩ rfl rfl (Nat.le_refl _))
        have hS31 : F 21 (lstB 67 [0, 1, 2, 3, 4, 5, 6, 7, 8, 9, 10, 11, 12, 13, 16, 17, 18, 19, 20, 21, 22, 23, 24, 25, 27, 28, 29, 30, 31, 32, 34, 35, 36, 37, 38, 39, 41, 42, 43, 44, 45, 46, 47, 48, 49, 50]) ⟨[(0, sp p), (53, sp p), (64, sp p), (75, sp p), (82, sp p), (89, sp p), (48, (pO gr (0 + i * 5))), (49, (pO gr (0 + i * 5))), (50, (pO gr (0 + i * 5))), (51, (pO gr (0 + i * 5))), (52, (pO gr (0 + i * 5))), (57, avS (xO l i).key), (61, avS (xO l i).key), (68, avS (xO l i).product), (72, avS (xO l i).product), (79, avI (xO l i).count), (86, avI (xO l i).ready), (93, avI (xO l i).due), (97, avI (xO l i).due), (5, .v (.slice (some ⟨gr, 0, none⟩) l.length cap)), (73, (iO 4 [avS (xO l i).product, avS (xO l i).product, avS ⟨#[122, 122]⟩, avS ⟨#[]⟩])), (80, (iO 3 [avI (xO l i).count, avI 0, avI 100001])), (87, (iO 3 [avI (xO l i).ready, avI (-1), avI 345686400000])), (98, (iO 3 [avI (xO l i).due, avI (xO l i).due, avI 345686400000]))], [.box gr ⟨rowL l, 35, cap * 5⟩], k + 1 + 4 * q + 1 + 1⟩ := by
          rw [hF]
          refine VA.all (rs := [14]) (by decide +kernel) (by decide) ?_
          refine ⟨⟨_, rfl, .inl rfl, ?_⟩, trivial⟩
          refine OpE.buildSlice (zc := #[.string ⟨#[]⟩, .string ⟨#[]⟩, .string ⟨#[]⟩, .string ⟨#[]⟩]) rfl hB rfl Tryz.underlying95 Tryz.sizeOf9 Tryz.zeroValue9 (by decide) (by decide) (by kernel_rfl) rfl rfl ?_
          have hh := hS19 
          rw [hF] at hh
          exact VA.to hh (by decide +kernel) (Le.mk hB [0] ⟨rfl, rfl, rfl, rfl, rfl, rfl, rfl, rfl, rfl, rfl, rfl, rfl, rfl, rfl, rfl, rfl, rfl, rfl, rfl, rfl, rfl, rfl, rfl, rfl, rfl, trivial⟩ rfl rfl (Nat.le_refl _))
        have hS32 : ∀ (r63 : ByteArray) (hr63 : r63.size ≤ 1000 ∧ r63 ≠ ozK), F 22 (lstB 67 [0, 1, 2, 3, 4, 5, 6, 7, 8, 9, 10, 11, 12, 13, 14, 15, 16, 17, 18, 19, 20, 21, 22, 23, 24, 25, 27, 28, 29, 30, 31, 34, 35, 36, 37, 38, 41, 42, 43, 44, 45, 46, 47, 48, 49]) ⟨[(0, sp p), (53, sp p), (64, sp p), (75, sp p), (82, sp p), (89, sp p), (48, (pO gr (0 + i * 5))), (49, (pO gr (0 + i * 5))), (50, (pO gr (0 + i * 5))), (51, (pO gr (0 + i * 5))), (52, (pO gr (0 + i * 5))), (57, avS (xO l i).key), (61, avS (xO l i).key), (68, avS (xO l i).product), (72, avS (xO l i).product), (79, avI (xO l i).count), (86, avI (xO l i).ready), (93, avI (xO l i).due), (97, avI (xO l i).due), (5, .v (.slice (some ⟨gr, 0, none⟩) l.length cap)), (62, (iO 4 [avS (xO l i).key, avS (xO l i).key, avS ⟨#[]⟩, avS ⟨#[111, 97]⟩])), (63, avS r63), (73, (iO 4 [avS (xO l i).product, avS (xO l i).product, avS ⟨#[122, 122]⟩, avS ⟨#[]⟩]))], [.box gr ⟨rowL l, 35, cap * 5⟩], k + 1 + 4 * q + 1 + 1 + 1⟩ := by
          intro r63 hr63
          rw [hF]
          refine VA.all (rs := [26, 32, 39, 50]) (by decide +kernel) (by decide) ?_
          refine ⟨⟨_, rfl, .inl rfl, ?_⟩, ⟨_, rfl, .inl rfl, ?_⟩, ⟨_, rfl, .inl rfl, ?_⟩, ⟨_, rfl, .inl rfl, ?_⟩, trivial⟩
          ·
            refine OpE.callT' (k + 1 + 4 * q + 1 + 1 + 1) rfl rfl hB rfl Tryz.call32 rfl (some_T 1000 (by rfl) (by decide) (by decide) (AllS.cons (hok.getD i).2.1 (AllS.cons (hok.getD i).2.1 (AllS.cons (by decide) (AllS.cons (by decide) AllS.nil))))) (by omega) ?_
            rintro _ ⟨r74, hr74, rfl⟩
            have hh := hS20 r63 hr63 r74 hr74
            rw [hF] at hh
            exact VA.to hh (by decide +kernel) (Le.mk hB [0] ⟨rfl, rfl, rfl, rfl, rfl, rfl, rfl, rfl, rfl, rfl, rfl, rfl, rfl, rfl, rfl, rfl, rfl, rfl, rfl, rfl, rfl, rfl, rfl, rfl, trivial⟩ rfl rfl (Nat.le_refl _))
          ·
            refine OpE.buildSlice (zc := #[.int .i64 0, .int .i64 0, .int .i64 0]) rfl hB rfl Tryz.underlying22 Tryz.sizeOf3 Tryz.zeroValue3 (by decide) (by decide) (by kernel_rfl) rfl rfl ?_
            have hh := hS21 r63 hr63
            rw [hF] at hh
            exact VA.to hh (by decide +kernel) (Le.mk hB [0] ⟨rfl, rfl, rfl, rfl, rfl, rfl, rfl, rfl, rfl, rfl, rfl, rfl, rfl, rfl, rfl, rfl, rfl, rfl, rfl, rfl, rfl, rfl, rfl, rfl, trivial⟩ rfl rfl (Nat.le_refl _))
          ·
            refine OpE.buildSlice (zc := #[.int .i64 0, .int .i64 0, .int .i64 0]) rfl hB rfl Tryz.underlying22 Tryz.sizeOf3 Tryz.zeroValue3 (by decide) (by decide) (by kernel_rfl) rfl rfl ?_
            have hh := hS22 r63 hr63
            rw [hF] at hh
            exact VA.to hh (by decide +kernel) (Le.mk hB [0] ⟨rfl, rfl, rfl, rfl, rfl, rfl, rfl, rfl, rfl, rfl, rfl, rfl, rfl, rfl, rfl, rfl, rfl, rfl, rfl, rfl, rfl, rfl, rfl, rfl, trivial⟩ rfl rfl (Nat.le_refl _))
          ·
            refine OpE.buildSlice (zc := #[.int .i64 0, .int .i64 0, .int .i64 0]) rfl hB rfl Tryz.underlying22 Tryz.sizeOf3 Tryz.zeroValue3 (by decide) (by decide) (by kernel_rfl) rfl rfl ?_
            have hh := hS23 r63 hr63
            rw [hF] at hh
            exact VA.to hh (by decide +kernel) (Le.mk hB [0] ⟨rfl, rfl, rfl, rfl, rfl, rfl, rfl, rfl, rfl, rfl, rfl, rfl, rfl, rfl, rfl, rfl, rfl, rfl, rfl, rfl, rfl, rfl, rfl, rfl, trivial⟩ rfl rfl (Nat.le_refl _))
        have hS33 : ∀ (r63 : ByteArray) (hr63 : r63.size ≤ 1000 ∧ r63 ≠ ozK), F 22 (lstB 67 [0, 1, 2, 3, 4, 5, 6, 7, 8, 9, 10, 11, 12, 13, 14, 15, 16, 17, 18, 19, 20, 21, 22, 23, 24, 27, 28, 29, 30, 31, 32, 34, 35, 36, 37, 38, 41, 42, 43, 44, 45, 46, 47, 48, 49]) ⟨[(0, sp p), (53, sp p), (64, sp p), (75, sp p), (82, sp p), (89, sp p), (48, (pO gr (0 + i * 5))), (49, (pO gr (0 + i * 5))), (50, (pO gr (0 + i * 5))), (51, (pO gr (0 + i * 5))), (52, (pO gr (0 + i * 5))), (57, avS (xO l i).key), (61, avS (xO l i).key), (68, avS (xO l i).product), (72, avS (xO l i).product), (79, avI (xO l i).count), (86, avI (xO l i).ready), (93, avI (xO l i).due), (97, avI (xO l i).due), (5, .v (.slice (some ⟨gr, 0, none⟩) l.length cap)), (62, (iO 4 [avS (xO l i).key, avS (xO l i).key, avS ⟨#[]⟩, avS ⟨#[111, 97]⟩])), (63, avS r63), (80, (iO 3 [avI (xO l i).count, avI 0, avI 100001]))], [.box gr ⟨rowL l, 35, cap * 5⟩], k + 1 + 4 * q + 1 + 1 + 1⟩ := by
          intro r63 hr63
          rw [hF]
          refine VA.all (rs := [25, 39, 50]) (by decide +kernel) (by decide) ?_
          refine ⟨⟨_, rfl, .inl rfl, ?_⟩, ⟨_, rfl, .inl rfl, ?_⟩, ⟨_, rfl, .inl rfl, ?_⟩, trivial⟩
          ·
            refine OpE.buildSlice (zc := #[.string ⟨#[]⟩, .string ⟨#[]⟩, .string ⟨#[]⟩, .string ⟨#[]⟩]) rfl hB rfl Tryz.underlying95 Tryz.sizeOf9 Tryz.zeroValue9 (by decide) (by decide) (by kernel_rfl) rfl rfl ?_
            have hh := hS21 r63 hr63
            rw [hF] at hh
            exact VA.to hh (by decide +kernel) (Le.mk hB [0] ⟨rfl, rfl, rfl, rfl, rfl, rfl, rfl, rfl, rfl, rfl, rfl, rfl, rfl, rfl, rfl, rfl, rfl, rfl, rfl, rfl, rfl, rfl, rfl, rfl, trivial⟩ rfl rfl (Nat.le_refl _))
          ·
            refine OpE.buildSlice (zc := #[.int .i64 0, .int .i64 0, .int .i64 0]) rfl hB rfl Tryz.underlying22 Tryz.sizeOf3 Tryz.zeroValue3 (by decide) (by decide) (by kernel_rfl) rfl rfl ?_
            have hh := hS24 r63 hr63
            rw [hF] at hh
            exact VA.to hh (by decide +kernel) (Le.mk hB [0] ⟨rfl, rfl, rfl, rfl, rfl, rfl, rfl, rfl, rfl, rfl, rfl, rfl, rfl, rfl, rfl, rfl, rfl, rfl, rfl, rfl, rfl, rfl, rfl, rfl, trivial⟩ rfl rfl (Nat.le_refl _))
          ·
            refine OpE.buildSlice (zc := #[.int .i64 0, .int .i64 0, .int .i64 0]) rfl hB rfl Tryz.underlying22 Tryz.sizeOf3 Tryz.zeroValue3 (by decide) (by decide) (by kernel_rfl) rfl rfl ?_
            have hh := hS25 r63 hr63
            rw [hF] at hh
            exact VA.to hh (by decide +kernel) (Le.mk hB [0] ⟨rfl, rfl, rfl, rfl, rfl, rfl, rfl, rfl, rfl, rfl, rfl, rfl, rfl, rfl, rfl, rfl, rfl, rfl, rfl, rfl, rfl, rfl, rfl, rfl, trivial⟩ rfl rfl (Nat.le_refl _))
        have hS34 : ∀ (r63 : ByteArray) (hr63 : r63.size ≤ 1000 ∧ r63 ≠ ozK), F 22 (lstB 67 [0, 1, 2, 3, 4, 5, 6, 7, 8, 9, 10, 11, 12, 13, 14, 15, 16, 17, 18, 19, 20, 21, 22, 23, 24, 27, 28, 29, 30, 31, 34, 35, 36, 37, 38, 39, 41, 42, 43, 44, 45, 46, 47, 48, 49]) ⟨[(0, sp p), (53, sp p), (64, sp p), (75, sp p), (82, sp p), (89, sp p), (48, (pO gr (0 + i * 5))), (49, (pO gr (0 + i * 5))), (50, (pO gr (0 + i * 5))), (51, (pO gr (0 + i * 5))), (52, (pO gr (0 + i * 5))), (57, avS (xO l i).key), (61, avS (xO l i).key), (68, avS (xO l i).product), (72, avS (xO l i).product), (79, avI (xO l i).count), (86, avI (xO l i).ready), (93, avI (xO l i).due), (97, avI (xO l i).due), (5, .v (.slice (some ⟨gr, 0, none⟩) l.length cap)), (62, (iO 4 [avS (xO l i).key, avS (xO l i).key, avS ⟨#[]⟩, avS ⟨#[111, 97]⟩])), (63, avS r63), (87, (iO 3 [avI (xO l i).ready, avI (-1), avI 345686400000]))], [.box gr ⟨rowL l, 35, cap * 5⟩], k + 1 + 4 * q + 1 + 1 + 1⟩ := by
          intro r63 hr63
          rw [hF]
          refine VA.all (rs := [25, 32, 50]) (by decide +kernel) (by decide) ?_
          refine ⟨⟨_, rfl, .inl rfl, ?_⟩, ⟨_, rfl, .inl rfl, ?_⟩, ⟨_, rfl, .inl rfl, ?_⟩, trivial⟩
          ·
            refine OpE.buildSlice (zc := #[.string ⟨#[]⟩, .string ⟨#[]⟩, .string ⟨#[]⟩, .string ⟨#[]⟩]) rfl hB rfl Tryz.underlying95 Tryz.sizeOf9 Tryz.zeroValue9 (by decide) (by decide) (by kernel_rfl) rfl rfl ?_
            have hh := hS22 r63 hr63
            rw [hF] at hh
            exact VA.to hh (by decide +kernel) (Le.mk hB [0] ⟨rfl, rfl, rfl, rfl, rfl, rfl, rfl, rfl, rfl, rfl, rfl, rfl, rfl, rfl, rfl, rfl, rfl, rfl, rfl, rfl, rfl, rfl, rfl, rfl, trivial⟩ rfl rfl (Nat.le_refl _))
          ·
            refine OpE.buildSlice (zc := #[.int .i64 0, .int .i64 0, .int .i64 0]) rfl hB rfl Tryz.underlying22 Tryz.sizeOf3 Tryz.zeroValue3 (by decide) (by decide) (by kernel_rfl) rfl rfl ?_
            have hh := hS24 r63 hr63
            rw [hF] at hh
            exact VA.to hh (by decide +kernel) (Le.mk hB [0] ⟨rfl, rfl, rfl, rfl, rfl, rfl, rfl, rfl, rfl, rfl, rfl, rfl, rfl, rfl, rfl, rfl, rfl, rfl, rfl, rfl, rfl, rfl, rfl, rfl, trivial⟩ rfl rfl (Nat.le_refl _))
          ·
            refine OpE.buildSlice (zc := #[.int .i64 0, .int .i64 0, .int .i64 0]) rfl hB rfl Tryz.underlying22 Tryz.sizeOf3 Tryz.zeroValue3 (by decide) (by decide) (by kernel_rfl) rfl rfl ?_
            have hh := hS26 r63 hr63
            rw [hF] at hh
            exact VA.to hh (by decide +kernel) (Le.mk hB [0] ⟨rfl, rfl, rfl, rfl, rfl, rfl, rfl, rfl, rfl, rfl, rfl, rfl, rfl, rfl, rfl, rfl, rfl, rfl, rfl, rfl, rfl, rfl, rfl, rfl, trivial⟩ rfl rfl (Nat.le_refl _))
        have hS35 : ∀ (r63 : ByteArray) (hr63 : r63.size ≤ 1000 ∧ r63 ≠ ozK), F 22 (lstB 67 [0, 1, 2, 3, 4, 5, 6, 7, 8, 9, 10, 11, 12, 13, 14, 15, 16, 17, 18, 19, 20, 21, 22, 23, 24, 27, 28, 29, 30, 31, 34, 35, 36, 37, 38, 41, 42, 43, 44, 45, 46, 47, 48, 49, 50]) ⟨[(0, sp p), (53, sp p), (64, sp p), (75, sp p), (82, sp p), (89, sp p), (48, (pO gr (0 + i * 5))), (49, (pO gr (0 + i * 5))), (50, (pO gr (0 + i * 5))), (51, (pO gr (0 + i * 5))), (52, (pO gr (0 + i * 5))), (57, avS (xO l i).key), (61, avS (xO l i).key), (68, avS (xO l i).product), (72, avS (xO l i).product), (79, avI (xO l i).count), (86, avI (xO l i).ready), (93, avI (xO l i).due), (97, avI (xO l i).due), (5, .v (.slice (some ⟨gr, 0, none⟩) l.length cap)), (62, (iO 4 [avS (xO l i).key, avS (xO l i).key, avS ⟨#[]⟩, avS ⟨#[111, 97]⟩])), (63, avS r63), (98, (iO 3 [avI (xO l i).due, avI (xO l i).due, avI 345686400000]))], [.box gr ⟨rowL l, 35, cap * 5⟩], k + 1 + 4 * q + 1 + 1 + 1⟩ := by
          intro r63 hr63
          rw [hF]
          refine VA.all (rs := [25, 32, 39]) (by decide +kernel) (by decide) ?_
          refine ⟨⟨_, rfl, .inl rfl, ?_⟩, ⟨_, rfl, .inl rfl, ?_⟩, ⟨_, rfl, .inl rfl, ?_⟩, trivial⟩
          ·
            refine OpE.buildSlice (zc := #[.string ⟨#[]⟩, .string ⟨#[]⟩, .string ⟨#[]⟩, .string ⟨#[]⟩]) rfl hB rfl Tryz.underlying95 Tryz.sizeOf9 Tryz.zeroValue9 (by decide) (by decide) (by kernel_rfl) rfl rfl ?_
            have hh := hS23 r63 hr63
            rw [hF] at hh
            exact VA.to hh (by decide +kernel) (Le.mk hB [0] ⟨rfl, rfl, rfl, rfl, rfl, rfl, rfl, rfl, rfl, rfl, rfl, rfl, rfl, rfl, rfl, rfl, rfl, rfl, rfl, rfl, rfl, rfl, rfl, rfl, trivial⟩ rfl rfl (Nat.le_refl _))
          ·
            refine OpE.buildSlice (zc := #[.int .i64 0, .int .i64 0, .int .i64 0]) rfl hB rfl Tryz.underlying22 Tryz.sizeOf3 Tryz.zeroValue3 (by decide) (by decide) (by kernel_rfl) rfl rfl ?_
            have hh := hS25 r63 hr63
            rw [hF] at hh
            exact VA.to hh (by decide +kernel) (Le.mk hB [0] ⟨rfl, rfl, rfl, rfl, rfl, rfl, rfl, rfl, rfl, rfl, rfl, rfl, rfl, rfl, rfl, rfl, rfl, rfl, rfl, rfl, rfl, rfl, rfl, rfl, trivial⟩ rfl rfl (Nat.le_refl _))
          ·
            refine OpE.buildSlice (zc := #[.int .i64 0, .int .i64 0, .int .i64 0]) rfl hB rfl Tryz.underlying22 Tryz.sizeOf3 Tryz.zeroValue3 (by decide) (by decide) (by kernel_rfl) rfl rfl ?_
            have hh := hS26 r63 hr63
            rw [hF] at hh
            exact VA.to hh (by decide +kernel) (Le.mk hB [0] ⟨rfl, rfl, rfl, rfl, rfl, rfl, rfl, rfl, rfl, rfl, rfl, rfl, rfl, rfl, rfl, rfl, rfl, rfl, rfl, rfl, rfl, rfl, rfl, rfl, trivial⟩ rfl rfl (Nat.le_refl _))
        have hS36 : F 22 (lstB 67 [0, 1, 2, 3, 4, 5, 6, 7, 8, 9, 10, 11, 12, 13, 14, 16, 17, 18, 19, 20, 21, 22, 23, 24, 25, 27, 28, 29, 30, 31, 32, 34, 35, 36, 37, 38, 41, 42, 43, 44, 45, 46, 47, 48, 49]) ⟨[(0, sp p), (53, sp p), (64, sp p), (75, sp p), (82, sp p), (89, sp p), (48, (pO gr (0 + i * 5))), (49, (pO gr (0 + i * 5))), (50, (pO gr (0 + i * 5))), (51, (pO gr (0 + i * 5))), (52, (pO gr (0 + i * 5))), (57, avS (xO l i).key), (61, avS (xO l i).key), (68, avS (xO l i).product), (72, avS (xO l i).product), (79, avI (xO l i).count), (86, avI (xO l i).ready), (93, avI (xO l i).due), (97, avI (xO l i).due), (5, .v (.slice (some ⟨gr, 0, none⟩) l.length cap)), (62, (iO 4 [avS (xO l i).key, avS (xO l i).key, avS ⟨#[]⟩, avS ⟨#[111, 97]⟩])), (73, (iO 4 [avS (xO l i).product, avS (xO l i).product, avS ⟨#[122, 122]⟩, avS ⟨#[]⟩])), (80, (iO 3 [avI (xO l i).count, avI 0, avI 100001]))], [.box gr ⟨rowL l, 35, cap * 5⟩], k + 1 + 4 * q + 1 + 1⟩ := by
          rw [hF]
          refine VA.all (rs := [15, 39, 50]) (by decide +kernel) (by decide) ?_
          refine ⟨⟨_, rfl, .inl rfl, ?_⟩, ⟨_, rfl, .inl rfl, ?_⟩, ⟨_, rfl, .inl rfl, ?_⟩, trivial⟩
          ·
            refine OpE.callT' (k + 1 + 4 * q + 1 + 1) rfl rfl hB rfl Tryz.call32 rfl (some_Q (by rfl) (by decide) (by decide) (AllQ.cons ⟨(hok.getD i).1, (hok.getD i).2.2⟩ (AllQ.cons ⟨(hok.getD i).1, (hok.getD i).2.2⟩ (AllQ.cons (by decide) (AllQ.cons (by decide) AllQ.nil))))) (by omega) ?_
            rintro _ ⟨r63, hr63, rfl⟩
            have hh := hS21 r63 hr63
            rw [hF] at hh
            exact VA.to hh (by decide +kernel) (Le.mk hB [0] ⟨rfl, rfl, rfl, rfl, rfl, rfl, rfl, rfl, rfl, rfl, rfl, rfl, rfl, rfl, rfl, rfl, rfl, rfl, rfl, rfl, rfl, rfl, rfl, rfl, trivial⟩ rfl rfl (Nat.le_refl _))
          ·
            refine OpE.buildSlice (zc := #[.int .i64 0, .int .i64 0, .int .i64 0]) rfl hB rfl Tryz.underlying22 Tryz.sizeOf3 Tryz.zeroValue3 (by decide) (by decide) (by kernel_rfl) rfl rfl ?_
            have hh := hS27 
            rw [hF] at hh
            exact VA.to hh (by decide +kernel) (Le.mk hB [0] ⟨rfl, rfl, rfl, rfl, rfl, rfl, rfl, rfl, rfl, rfl, rfl, rfl, rfl, rfl, rfl, rfl, rfl, rfl, rfl, rfl, rfl, rfl, rfl, rfl, trivial⟩ rfl rfl (Nat.le_refl _))
          ·
            refine OpE.buildSlice (zc := #[.int .i64 0, .int .i64 0, .int .i64 0]) rfl hB rfl Tryz.underlying22 Tryz.sizeOf3 Tryz.zeroValue3 (by decide) (by decide) (by kernel_rfl) rfl rfl ?_
            have hh := hS28 
            rw [hF] at hh
            exact VA.to hh (by decide +kernel) (Le.mk hB [0] ⟨rfl, rfl, rfl, rfl, rfl, rfl, rfl, rfl, rfl, rfl, rfl, rfl, rfl, rfl, rfl, rfl, rfl, rfl, rfl, rfl, rfl, rfl, rfl, rfl, trivial⟩ rfl rfl (Nat.le_refl _))
        have hS37 : F 22 (lstB 67 [0, 1, 2, 3, 4, 5, 6, 7, 8, 9, 10, 11, 12, 13, 14, 16, 17, 18, 19, 20, 21, 22, 23, 24, 25, 27, 28, 29, 30, 31, 34, 35, 36, 37, 38, 39, 41, 42, 43, 44, 45, 46, 47, 48, 49]) ⟨[(0, sp p), (53, sp p), (64, sp p), (75, sp p), (82, sp p), (89, sp p), (48, (pO gr (0 + i * 5))), (49, (pO gr (0 + i * 5))), (50, (pO gr (0 + i * 5))), (51, (pO gr (0 + i * 5))), (52, (pO gr (0 + i * 5))), (57, avS (xO l i).key), (61, avS (xO l i).key), (68, avS (xO l i).product), (72, avS (xO l i).product), (79, avI (xO l i).count), (86, avI (xO l i).ready), (93, avI (xO l i).due), (97, avI (xO l i).due), (5, .v (.slice (some ⟨gr, 0, none⟩) l.length cap)), (62, (iO 4 [avS (xO l i).key, avS (xO l i).key, avS ⟨#[]⟩, avS ⟨#[111, 97]⟩])), (73, (iO 4 [avS (xO l i).product, avS (xO l i).product, avS ⟨#[122, 122]⟩, avS ⟨#[]⟩])), (87, (iO 3 [avI (xO l i).ready, avI (-1), avI 345686400000]))], [.box gr ⟨rowL l, 35, cap * 5⟩], k + 1 + 4 * q + 1 + 1⟩ := by
          rw [hF]
          refine VA.all (rs := [15, 32, 50]) (by decide +kernel) (by decide) ?_
          refine ⟨⟨_, rfl, .inl rfl, ?_⟩, ⟨_, rfl, .inl rfl, ?_⟩, ⟨_, rfl, .inl rfl, ?_⟩, trivial⟩
          ·
            refine OpE.callT' (k + 1 + 4 * q + 1 + 1) rfl rfl hB rfl Tryz.call32 rfl (some_Q (by rfl) (by decide) (by decide) (AllQ.cons ⟨(hok.getD i).1, (hok.getD i).2.2⟩ (AllQ.cons ⟨(hok.getD i).1, (hok.getD i).2.2⟩ (AllQ.cons (by decide) (AllQ.cons (by decide) AllQ.nil))))) (by omega) ?_
            rintro _ ⟨r63, hr63, rfl⟩
            have hh := hS22 r63 hr63
            rw [hF] at hh
            exact VA.to hh (by decide +kernel) (Le.mk hB [0] ⟨rfl, rfl, rfl, rfl, rfl, rfl, rfl, rfl, rfl, rfl, rfl, rfl, rfl, rfl, rfl, rfl, rfl, rfl, rfl, rfl, rfl, rfl, rfl, rfl, trivial⟩ rfl rfl (Nat.le_refl _))
          ·
            refine OpE.buildSlice (zc := #[.int .i64 0, .int .i64 0, .int .i64 0]) rfl hB rfl Tryz.underlying22 Tryz.sizeOf3 Tryz.zeroValue3 (by decide) (by decide) (by kernel_rfl) rfl rfl ?_
            have hh := hS27 
            rw [hF] at hh
            exact VA.to hh (by decide +kernel) (Le.mk hB [0] ⟨rfl, rfl, rfl, rfl, rfl, rfl, rfl, rfl, rfl, rfl, rfl, rfl, rfl, rfl, rfl, rfl, rfl, rfl, rfl, rfl, rfl, rfl, rfl, rfl, trivial⟩ rfl rfl (Nat.le_refl _))
          ·
            refine OpE.buildSlice (zc := #[.int .i64 0, .int .i64 0, .int .i64 0]) rfl hB rfl Tryz.underlying22 Tryz.sizeOf3 Tryz.zeroValue3 (by decide) (by decide) (by kernel_rfl) rfl rfl ?_
            have hh := hS29 
            rw [hF] at hh
            exact VA.to hh (by decide +kernel) (Le.mk hB [0] ⟨rfl, rfl, rfl, rfl, rfl, rfl, rfl, rfl, rfl, rfl, rfl, rfl, rfl, rfl, rfl, rfl, rfl, rfl, rfl, rfl, rfl, rfl, rfl, rfl, trivial⟩ rfl rfl (Nat.le_refl _))
        have hS38 : F 22 (lstB 67 [0, 1, 2, 3, 4, 5, 6, 7, 8, 9, 10, 11, 12, 13, 14, 16, 17, 18, 19, 20, 21, 22, 23, 24, 25, 27, 28, 29, 30, 31, 34, 35, 36, 37, 38, 41, 42, 43, 44, 45, 46, 47, 48, 49, 50]) ⟨[(0, sp p), (53, sp p), (64, sp p), (75, sp p), (82, sp p), (89, sp p), (48, (pO gr (0 + i * 5))), (49, (pO gr (0 + i * 5))), (50, (pO gr (0 + i * 5))), (51, (pO gr (0 + i * 5))), (52, (pO gr (0 + i * 5))), (57, avS (xO l i).key), (61, avS (xO l i).key), (68, avS (xO l i).product), (72, avS (xO l i).product), (79, avI (xO l i).count), (86, avI (xO l i).ready), (93, avI (xO l i).due), (97, avI (xO l i).due), (5, .v (.slice (some ⟨gr, 0, none⟩) l.length cap)), (62, (iO 4 [avS (xO l i).key, avS (xO l i).key, avS ⟨#[]⟩, avS ⟨#[111, 97]⟩])), (73, (iO 4 [avS (xO l i).product, avS (xO l i).product, avS ⟨#[122, 122]⟩, avS ⟨#[]⟩])), (98, (iO 3 [avI (xO l i).due, avI (xO l i).due, avI 345686400000]))], [.box gr ⟨rowL l, 35, cap * 5⟩], k + 1 + 4 * q + 1 + 1⟩ := by
          rw [hF]
          refine VA.all (rs := [15, 32, 39]) (by decide +kernel) (by decide) ?_
          refine ⟨⟨_, rfl, .inl rfl, ?_⟩, ⟨_, rfl, .inl rfl, ?_⟩, ⟨_, rfl, .inl rfl, ?_⟩, trivial⟩
          ·
            refine OpE.callT' (k + 1 + 4 * q + 1 + 1) rfl rfl hB rfl Tryz.call32 rfl (some_Q (by rfl) (by decide) (by decide) (AllQ.cons ⟨(hok.getD i).1, (hok.getD i).2.2⟩ (AllQ.cons ⟨(hok.getD i).1, (hok.getD i).2.2⟩ (AllQ.cons (by decide) (AllQ.cons (by decide) AllQ.nil))))) (by omega) ?_
            rintro _ ⟨r63, hr63, rfl⟩
            have hh := hS23 r63 hr63
            rw [hF] at hh
            exact VA.to hh (by decide +kernel) (Le.mk hB [0] ⟨rfl, rfl, rfl, rfl, rfl, rfl, rfl, rfl, rfl, rfl, rfl, rfl, rfl, rfl, rfl, rfl, rfl, rfl, rfl, rfl, rfl, rfl, rfl, rfl, trivial⟩ rfl rfl (Nat.le_refl _))
          ·
            refine OpE.buildSlice (zc := #[.int .i64 0, .int .i64 0, .int .i64 0]) rfl hB rfl Tryz.underlying22 Tryz.sizeOf3 Tryz.zeroValue3 (by decide) (by decide) (by kernel_rfl) rfl rfl ?_
            have hh := hS28 
            rw [hF] at hh
            exact VA.to hh (by decide +kernel) (Le.mk hB [0] ⟨rfl, rfl, rfl, rfl, rfl, rfl, rfl, rfl, rfl, rfl, rfl, rfl, rfl, rfl, rfl, rfl, rfl, rfl, rfl, rfl, rfl, rfl, rfl, rfl, trivial⟩ rfl rfl (Nat.le_refl _))
          ·
            refine OpE.buildSlice (zc := #[.int .i64 0, .int .i64 0, .int .i64 0]) rfl hB rfl Tryz.underlying22 Tryz.sizeOf3 Tryz.zeroValue3 (by decide) (by decide) (by kernel_rfl) rfl rfl ?_
            have hh := hS29 
            rw [hF] at hh
            exact VA.to hh (by decide +kernel) (Le.mk hB [0] ⟨rfl, rfl, rfl, rfl, rfl, rfl, rfl, rfl, rfl, rfl, rfl, rfl, rfl, rfl, rfl, rfl, rfl, rfl, rfl, rfl, rfl, rfl, rfl, rfl, trivial⟩ rfl rfl (Nat.le_refl _))
        have hS39 : F 22 (lstB 67 [0, 1, 2, 3, 4, 5, 6, 7, 8, 9, 10, 11, 12, 13, 14, 16, 17, 18, 19, 20, 21, 22, 23, 24, 27, 28, 29, 30, 31, 32, 34, 35, 36, 37, 38, 39, 41, 42, 43, 44, 45, 46, 47, 48, 49]) ⟨[(0, sp p), (53, sp p), (64, sp p), (75, sp p), (82, sp p), (89, sp p), (48, (pO gr (0 + i * 5))), (49, (pO gr (0 + i * 5))), (50, (pO gr (0 + i * 5))), (51, (pO gr (0 + i * 5))), (52, (pO gr (0 + i * 5))), (57, avS (xO l i).key), (61, avS (xO l i).key), (68, avS (xO l i).product), (72, avS (xO l i).product), (79, avI (xO l i).count), (86, avI (xO l i).ready), (93, avI (xO l i).due), (97, avI (xO l i).due), (5, .v (.slice (some ⟨gr, 0, none⟩) l.length cap)), (62, (iO 4 [avS (xO l i).key, avS (xO l i).key, avS ⟨#[]⟩, avS ⟨#[111, 97]⟩])), (80, (iO 3 [avI (xO l i).count, avI 0, avI 100001])), (87, (iO 3 [avI (xO l i).ready, avI (-1), avI 345686400000]))], [.box gr ⟨rowL l, 35, cap * 5⟩], k + 1 + 4 * q + 1 + 1⟩ := by
          rw [hF]
          refine VA.all (rs := [15, 25, 50]) (by decide +kernel) (by decide) ?_
          refine ⟨⟨_, rfl, .inl rfl, ?_⟩, ⟨_, rfl, .inl rfl, ?_⟩, ⟨_, rfl, .inl rfl, ?_⟩, trivial⟩
          ·
            refine OpE.callT' (k + 1 + 4 * q + 1 + 1) rfl rfl hB rfl Tryz.call32 rfl (some_Q (by rfl) (by decide) (by decide) (AllQ.cons ⟨(hok.getD i).1, (hok.getD i).2.2⟩ (AllQ.cons ⟨(hok.getD i).1, (hok.getD i).2.2⟩ (AllQ.cons (by decide) (AllQ.cons (by decide) AllQ.nil))))) (by omega) ?_
            rintro _ ⟨r63, hr63, rfl⟩
            have hh := hS24 r63 hr63
            rw [hF] at hh
            exact VA.to hh (by decide +kernel) (Le.mk hB [0] ⟨rfl, rfl, rfl, rfl, rfl, rfl, rfl, rfl, rfl, rfl, rfl, rfl, rfl, rfl, rfl, rfl, rfl, rfl, rfl, rfl, rfl, rfl, rfl, rfl, trivial⟩ rfl rfl (Nat.le_refl _))
          ·
            refine OpE.buildSlice (zc := #[.string ⟨#[]⟩, .string ⟨#[]⟩, .string ⟨#[]⟩, .string ⟨#[]⟩]) rfl hB rfl Tryz.underlying95 Tryz.sizeOf9 Tryz.zeroValue9 (by decide) (by decide) (by kernel_rfl) rfl rfl ?_
            have hh := hS27 
            rw [hF] at hh
            exact VA.to hh (by decide +kernel) (Le.mk hB [0] ⟨rfl, rfl, rfl, rfl, rfl, rfl, rfl, rfl, rfl, rfl, rfl, rfl, rfl, rfl, rfl, rfl, rfl, rfl, rfl, rfl, rfl, rfl, rfl, rfl, trivial⟩ rfl rfl (Nat.le_refl _))
          ·
            refine OpE.buildSlice (zc := #[.int .i64 0, .int .i64 0, .int .i64 0]) rfl hB rfl Tryz.underlying22 Tryz.sizeOf3 Tryz.zeroValue3 (by decide) (by decide) (by kernel_rfl) rfl rfl ?_
            have hh := hS30 
            rw [hF] at hh
            exact VA.to hh (by decide +kernel) (Le.mk hB [0] ⟨rfl, rfl, rfl, rfl, rfl, rfl, rfl, rfl, rfl, rfl, rfl, rfl, rfl, rfl, rfl, rfl, rfl, rfl, rfl, rfl, rfl, rfl, rfl, rfl, trivial⟩ rfl rfl (Nat.le_refl _))
        have hS40 : F 22 (lstB 67 [0, 1, 2, 3, 4, 5, 6, 7, 8, 9, 10, 11, 12, 13, 14, 16, 17, 18, 19, 20, 21, 22, 23, 24, 27, 28, 29, 30, 31, 32, 34, 35, 36, 37, 38, 41, 42, 43, 44, 45, 46, 47, 48, 49, 50]) ⟨[(0, sp p), (53, sp p), (64, sp p), (75, sp p), (82, sp p), (89, sp p), (48, (pO gr (0 + i * 5))), (49, (pO gr (0 + i * 5))), (50, (pO gr (0 + i * 5))), (51, (pO gr (0 + i * 5))), (52, (pO gr (0 + i * 5))), (57, avS (xO l i).key), (61, avS (xO l i).key), (68, avS (xO l i).product), (72, avS (xO l i).product), (79, avI (xO l i).count), (86, avI (xO l i).ready), (93, avI (xO l i).due), (97, avI (xO l i).due), (5, .v (.slice (some ⟨gr, 0, none⟩) l.length cap)), (62, (iO 4 [avS (xO l i).key, avS (xO l i).key, avS ⟨#[]⟩, avS ⟨#[111, 97]⟩])), (80, (iO 3 [avI (xO l i).count, avI 0, avI 100001])), (98, (iO 3 [avI (xO l i).due, avI (xO l i).due, avI 345686400000]))], [.box gr ⟨rowL l, 35, cap * 5⟩], k + 1 + 4 * q + 1 + 1⟩ := by
          rw [hF]
          refine VA.all (rs := [15, 25, 39]) (by decide +kernel) (by decide) ?_
          refine ⟨⟨_, rfl, .inl rfl, ?_⟩, ⟨_, rfl, .inl rfl, ?_⟩, ⟨_, rfl, .inl rfl, ?_⟩, trivial⟩
          ·
            refine OpE.callT' (k + 1 + 4 * q + 1 + 1) rfl rfl hB rfl Tryz.call32 rfl (some_Q (by rfl) (by decide) (by decide) (AllQ.cons ⟨(hok.getD i).1, (hok.getD i).2.2⟩ (AllQ.cons ⟨(hok.getD i).1, (hok.getD i).2.2⟩ (AllQ.cons (by decide) (AllQ.cons (by decide) AllQ.nil))))) (by omega) ?_
            rintro _ ⟨r63, hr63, rfl⟩
            have hh := hS25 r63 hr63
            rw [hF] at hh
            exact VA.to hh (by decide +kernel) (Le.mk hB [0] ⟨rfl, rfl, rfl, rfl, rfl, rfl, rfl, rfl, rfl, rfl, rfl, rfl, rfl, rfl, rfl, rfl, rfl, rfl, rfl, rfl, rfl, rfl, rfl, rfl, trivial⟩ rfl rfl (Nat.le_refl _))
          ·
            refine OpE.buildSlice (zc := #[.string ⟨#[]⟩, .string ⟨#[]⟩, .string ⟨#[]⟩, .string ⟨#[]⟩]) rfl hB rfl Tryz.underlying95 Tryz.sizeOf9 Tryz.zeroValue9 (by decide) (by decide) (by kernel_rfl) rfl rfl ?_
            have hh := hS28 
            rw [hF] at hh
            exact VA.to hh (by decide +kernel) (Le.mk hB [0] ⟨rfl, rfl, rfl, rfl, rfl, rfl, rfl, rfl, rfl, rfl, rfl, rfl, rfl, rfl, rfl, rfl, rfl, rfl, rfl, rfl, rfl, rfl, rfl, rfl, trivial⟩ rfl rfl (Nat.le_refl _))
          ·
            refine OpE.buildSlice (zc := #[.int .i64 0, .int .i64 0, .int .i64 0]) rfl hB rfl Tryz.underlying22 Tryz.sizeOf3 Tryz.zeroValue3 (by decide) (by decide) (by kernel_rfl) rfl rfl ?_
            have hh := hS30 
            rw [hF] at hh
            exact VA.to hh (by decide +kernel) (Le.mk hB [0] ⟨rfl, rfl, rfl, rfl, rfl, rfl, rfl, rfl, rfl, rfl, rfl, rfl, rfl, rfl, rfl, rfl, rfl, rfl, rfl, rfl, rfl, rfl, rfl, rfl, trivial⟩ rfl rfl (Nat.le_refl _))
        have hS41 : F 22 (lstB 67 [0, 1, 2, 3, 4, 5, 6, 7, 8, 9, 10, 11, 12, 13, 14, 16, 17, 18, 19, 20, 21, 22, 23, 24, 27, 28, 29, 30, 31, 34, 35, 36, 37, 38, 39, 41, 42, 43, 44, 45, 46, 47, 48, 49, 50]) ⟨[(0, sp p), (53, sp p), (64, sp p), (75, sp p), (82, sp p), (89, sp p), (48, (pO gr (0 + i * 5))), (49, (pO gr (0 + i * 5))), (50, (pO gr (0 + i * 5))), (51, (pO gr (0 + i * 5))), (52, (pO gr (0 + i * 5))), (57, avS (xO l i).key), (61, avS (xO l i).key), (68, avS (xO l i).product), (72, avS (xO l i).product), (79, avI (xO l i).count), (86, avI (xO l i).ready), (93, avI (xO l i).due), (97, avI (xO l i).due), (5, .v (.slice (some ⟨gr, 0, none⟩) l.length cap)), (62, (iO 4 [avS (xO l i).key, avS (xO l i).key, avS ⟨#[]⟩, avS ⟨#[111, 97]⟩])), (87, (iO 3 [avI (xO l i).ready, avI (-1), avI 345686400000])), (98, (iO 3 [avI (xO l i).due, avI (xO l i).due, avI 345686400000]))], [.box gr ⟨rowL l, 35, cap * 5⟩], k + 1 + 4 * q + 1 + 1⟩ := by
          rw [hF]
          refine VA.all (rs := [15, 25, 32]) (by decide +kernel) (by decide) ?_
          refine ⟨⟨_, rfl, .inl rfl, ?_⟩, ⟨_, rfl, .inl rfl, ?_⟩, ⟨_, rfl, .inl rfl, ?_⟩, trivial⟩
          ·
            refine OpE.callT' (k + 1 + 4 * q + 1 + 1) rfl rfl hB rfl Tryz.call32 rfl (some_Q (by rfl) (by decide) (by decide) (AllQ.cons ⟨(hok.getD i).1, (hok.getD i).2.2⟩ (AllQ.cons ⟨(hok.getD i).1, (hok.getD i).2.2⟩ (AllQ.cons (by decide) (AllQ.cons (by decide) AllQ.nil))))) (by omega) ?_
            rintro _ ⟨r63, hr63, rfl⟩
            have hh := hS26 r63 hr63
            rw [hF] at hh
            exact VA.to hh (by decide +kernel) (Le.mk hB [0] ⟨rfl, rfl, rfl, rfl, rfl, rfl, rfl, rfl, rfl, rfl, rfl, rfl, rfl, rfl, rfl, rfl, rfl, rfl, rfl, rfl, rfl, rfl, rfl, rfl, trivial⟩ rfl rfl (Nat.le_refl _))
          ·
            refine OpE.buildSlice (zc := #[.string ⟨#[]⟩, .string ⟨#[]⟩, .string ⟨#[]⟩, .string ⟨#[]⟩]) rfl hB rfl Tryz.underlying95 Tryz.sizeOf9 Tryz.zeroValue9 (by decide) (by decide) (by kernel_rfl) rfl rfl ?_
            have hh := hS29 
            rw [hF] at hh
            exact VA.to hh (by decide +kernel) (Le.mk hB [0] ⟨rfl, rfl, rfl, rfl, rfl, rfl, rfl, rfl, rfl, rfl, rfl, rfl, rfl, rfl, rfl, rfl, rfl, rfl, rfl, rfl, rfl, rfl, rfl, rfl, trivial⟩ rfl rfl (Nat.le_refl _))
          ·
            refine OpE.buildSlice (zc := #[.int .i64 0, .int .i64 0, .int .i64 0]) rfl hB rfl Tryz.underlying22 Tryz.sizeOf3 Tryz.zeroValue3 (by decide) (by decide) (by kernel_rfl) rfl rfl ?_
            have hh := hS30 
            rw [hF] at hh
            exact VA.to hh (by decide +kernel) (Le.mk hB [0] ⟨rfl, rfl, rfl, rfl, rfl, rfl, rfl, rfl, rfl, rfl, rfl, rfl, rfl, rfl, rfl, rfl, rfl, rfl, rfl, rfl, rfl, rfl, rfl, rfl, trivial⟩ rfl rfl (Nat.le_refl _))
        have hS42 : F 22 (lstB 67 [0, 1, 2, 3, 4, 5, 6, 7, 8, 9, 10, 11, 12, 13, 16, 17, 18, 19, 20, 21, 22, 23, 24, 25, 27, 28, 29, 30, 31, 32, 34, 35, 36, 37, 38, 39, 41, 42, 43, 44, 45, 46, 47, 48, 49]) ⟨[(0, sp p), (53, sp p), (64, sp p), (75, sp p), (82, sp p), (89, sp p), (48, (pO gr (0 + i * 5))), (49, (pO gr (0 + i * 5))), (50, (pO gr (0 + i * 5))), (51, (pO gr (0 + i * 5))), (52, (pO gr (0 + i * 5))), (57, avS (xO l i).key), (61, avS (xO l i).key), (68, avS (xO l i).product), (72, avS (xO l i).product), (79, avI (xO l i).count), (86, avI (xO l i).ready), (93, avI (xO l i).due), (97, avI (xO l i).due), (5, .v (.slice (some ⟨gr, 0, none⟩) l.length cap)), (73, (iO 4 [avS (xO l i).product, avS (xO l i).product, avS ⟨#[122, 122]⟩, avS ⟨#[]⟩])), (80, (iO 3 [avI (xO l i).count, avI 0, avI 100001])), (87, (iO 3 [avI (xO l i).ready, avI (-1), avI 345686400000]))], [.box gr ⟨rowL l, 35, cap * 5⟩], k + 1 + 4 * q + 1 + 1⟩ := by
          rw [hF]
          refine VA.all (rs := [14, 50]) (by decide +kernel) (by decide) ?_
          refine ⟨⟨_, rfl, .inl rfl, ?_⟩, ⟨_, rfl, .inl rfl, ?_⟩, trivial⟩
          ·
            refine OpE.buildSlice (zc := #[.string ⟨#[]⟩, .string ⟨#[]⟩, .string ⟨#[]⟩, .string ⟨#[]⟩]) rfl hB rfl Tryz.underlying95 Tryz.sizeOf9 Tryz.zeroValue9 (by decide) (by decide) (by kernel_rfl) rfl rfl ?_
            have hh := hS27 
            rw [hF] at hh
            exact VA.to hh (by decide +kernel) (Le.mk hB [0] ⟨rfl, rfl, rfl, rfl, rfl, rfl, rfl, rfl, rfl, rfl, rfl, rfl, rfl, rfl, rfl, rfl, rfl, rfl, rfl, rfl, rfl, rfl, rfl, rfl, trivial⟩ rfl rfl (Nat.le_refl _))
          ·
            refine OpE.buildSlice (zc := #[.int .i64 0, .int .i64 0, .int .i64 0]) rfl hB rfl Tryz.underlying22 Tryz.sizeOf3 Tryz.zeroValue3 (by decide) (by decide) (by kernel_rfl) rfl rfl ?_
            have hh := hS31 
            rw [hF] at hh
            exact VA.to hh (by decide +kernel) (Le.mk hB [0] ⟨rfl, rfl, rfl, rfl, rfl, rfl, rfl, rfl, rfl, rfl, rfl, rfl, rfl, rfl, rfl, rfl, rfl, rfl, rfl, rfl, rfl, rfl, rfl, rfl, trivial⟩ rfl rfl (Nat.le_refl _))
        have hS43 : F 22 (lstB 67 [0, 1, 2, 3, 4, 5, 6, 7, 8, 9, 10, 11, 12, 13, 16, 17, 18, 19, 20, 21, 22, 23, 24, 25, 27, 28, 29, 30, 31, 32, 34, 35, 36, 37, 38, 41, 42, 43, 44, 45, 46, 47, 48, 49, 50]) ⟨[(0, sp p), (53, sp p), (64, sp p), (75, sp p), (82, sp p), (89, sp p), (48, (pO gr (0 + i * 5))), (49, (pO gr (0 + i * 5))), (50, (pO gr (0 + i * 5))), (51, (pO gr (0 + i * 5))), (52, (pO gr (0 + i * 5))), (57, avS (xO l i).key), (61, avS (xO l i).key), (68, avS (xO l i).product), (72, avS (xO l i).product), (79, avI (xO l i).count), (86, avI (xO l i).ready), (93, avI (xO l i).due), (97, avI (xO l i).due), (5, .v (.slice (some ⟨gr, 0, none⟩) l.length cap)), (73, (iO 4 [avS (xO l i).product, avS (xO l i).product, avS ⟨#[122, 122]⟩, avS ⟨#[]⟩])), (80, (iO 3 [avI (xO l i).count, avI 0, avI 100001])), (98, (iO 3 [avI (xO l i).due, avI (xO l i).due, avI 345686400000]))], [.box gr ⟨rowL l, 35, cap * 5⟩], k + 1 + 4 * q + 1 + 1⟩ := by
          rw [hF]
          refine VA.all (rs := [14, 39]) (by decide +kernel) (by decide) ?_
          refine ⟨⟨_, rfl, .inl rfl, ?_⟩, ⟨_, rfl, .inl rfl, ?_⟩, trivial⟩
          ·
            refine OpE.buildSlice (zc := #[.string ⟨#[]⟩, .string ⟨#[]⟩, .string ⟨#[]⟩, .string ⟨#[]⟩]) rfl hB rfl Tryz.underlying95 Tryz.sizeOf9 Tryz.zeroValue9 (by decide) (by decide) (by kernel_rfl) rfl rfl ?_
            have hh := hS28 
            rw [hF] at hh
            exact VA.to hh (by decide +kernel) (Le.mk hB [0] ⟨rfl, rfl, rfl, rfl, rfl, rfl, rfl, rfl, rfl, rfl, rfl, rfl, rfl, rfl, rfl, rfl, rfl, rfl, rfl, rfl, rfl, rfl, rfl, rfl, trivial⟩ rfl rfl (Nat.le_refl _))
          ·
            refine OpE.buildSlice (zc := #[.int .i64 0, .int .i64 0, .int .i64 0]) rfl hB rfl Tryz.underlying22 Tryz.sizeOf3 Tryz.zeroValue3 (by decide) (by decide) (by kernel_rfl) rfl rfl ?_
            have hh := hS31 
            rw [hF] at hh
            exact VA.to hh (by decide +kernel) (Le.mk hB [0] ⟨rfl, rfl, rfl, rfl, rfl, rfl, rfl, rfl, rfl, rfl, rfl, rfl, rfl, rfl, rfl, rfl, rfl, rfl, rfl, rfl, rfl, rfl, rfl, rfl, trivial⟩ rfl rfl (Nat.le_refl _))
        have hS44 : F 22 (lstB 67 [0, 1, 2, 3, 4, 5, 6, 7, 8, 9, 10, 11, 12, 13, 16, 17, 18, 19, 20, 21, 22, 23, 24, 25, 27, 28, 29, 30, 31, 34, 35, 36, 37, 38, 39, 41, 42, 43, 44, 45, 46, 47, 48, 49, 50]) ⟨[(0, sp p), (53, sp p), (64, sp p), (75, sp p), (82, sp p), (89, sp p), (48, (pO gr (0 + i * 5))), (49, (pO gr (0 + i * 5))), (50, (pO gr (0 + i * 5))), (51, (pO gr (0 + i * 5))), (52, (pO gr (0 + i * 5))), (57, avS (xO l i).key), (61, avS (xO l i).key), (68, avS (xO l i).product), (72, avS (xO l i).product), (79, avI (xO l i).count), (86, avI (xO l i).ready), (93, avI (xO l i).due), (97, avI (xO l i).due), (5, .v (.slice (some ⟨gr, 0, none⟩) l.length cap)), (73, (iO 4 [avS (xO l i).product, avS (xO l i).product, avS ⟨#[122, 122]⟩, avS ⟨#[]⟩])), (87, (iO 3 [avI (xO l i).ready, avI (-1), avI 345686400000])), (98, (iO 3 [avI (xO l i).due, avI (xO l i).due, avI 345686400000]))], [.box gr ⟨rowL l, 35, cap * 5⟩], k + 1 + 4 * q + 1 + 1⟩ := by
          rw [hF]
          refine VA.all (rs := [14, 32]) (by decide +kernel) (by decide) ?_
          refine ⟨⟨_, rfl, .inl rfl, ?_⟩, ⟨_, rfl, .inl rfl, ?_⟩, trivial⟩
          ·
            refine OpE.buildSlice (zc := #[.string ⟨#[]⟩, .string ⟨#[]⟩, .string ⟨#[]⟩, .string ⟨#[]⟩]) rfl hB rfl Tryz.underlying95 Tryz.sizeOf9 Tryz.zeroValue9 (by decide) (by decide) (by kernel_rfl) rfl rfl ?_
            have hh := hS29 
            rw [hF] at hh
            exact VA.to hh (by decide +kernel) (Le.mk hB [0] ⟨rfl, rfl, rfl, rfl, rfl, rfl, rfl, rfl, rfl, rfl, rfl, rfl, rfl, rfl, rfl, rfl, rfl, rfl, rfl, rfl, rfl, rfl, rfl, rfl, trivial⟩ rfl rfl (Nat.le_refl _))
          ·
            refine OpE.buildSlice (zc := #[.int .i64 0, .int .i64 0, .int .i64 0]) rfl hB rfl Tryz.underlying22 Tryz.sizeOf3 Tryz.zeroValue3 (by decide) (by decide) (by kernel_rfl) rfl rfl ?_
            have hh := hS31 
            rw [hF] at hh
            exact VA.to hh (by decide +kernel) (Le.mk hB [0] ⟨rfl, rfl, rfl, rfl, rfl, rfl, rfl, rfl, rfl, rfl, rfl, rfl, rfl, rfl, rfl, rfl, rfl, rfl, rfl, rfl, rfl, rfl, rfl, rfl, trivial⟩ rfl rfl (Nat.le_refl _))
        have hS45 : F 22 (lstB 67 [0, 1, 2, 3, 4, 5, 6, 7, 8, 9, 10, 11, 12, 13, 16, 17, 18, 19, 20, 21, 22, 23, 24, 27, 28, 29, 30, 31, 32, 34, 35, 36, 37, 38, 39, 41, 42, 43, 44, 45, 46, 47, 48, 49, 50]) ⟨[(0, sp p), (53, sp p), (64, sp p), (75, sp p), (82, sp p), (89, sp p), (48, (pO gr (0 + i * 5))), (49, (pO gr (0 + i * 5))), (50, (pO gr (0 + i * 5))), (51, (pO gr (0 + i * 5))), (52, (pO gr (0 + i * 5))), (57, avS (xO l i).key), (61, avS (xO l i).key), (68, avS (xO l i).product), (72, avS (xO l i).product), (79, avI (xO l i).count), (86, avI (xO l i).ready), (93, avI (xO l i).due), (97, avI (xO l i).due), (5, .v (.slice (some ⟨gr, 0, none⟩) l.length cap)), (80, (iO 3 [avI (xO l i).count, avI 0, avI 100001])), (87, (iO 3 [avI (xO l i).ready, avI (-1), avI 345686400000])), (98, (iO 3 [avI (xO l i).due, avI (xO l i).due, avI 345686400000]))], [.box gr ⟨rowL l, 35, cap * 5⟩], k + 1 + 4 * q + 1 + 1⟩ := by
          rw [hF]
          refine VA.all (rs := [14, 25]) (by decide +kernel) (by decide) ?_
          refine ⟨⟨_, rfl, .inl rfl, ?_⟩, ⟨_, rfl, .inl rfl, ?_⟩, trivial⟩
          ·
            refine OpE.buildSlice (zc := #[.string ⟨#[]⟩, .string ⟨#[]⟩, .string ⟨#[]⟩, .string ⟨#[]⟩]) rfl hB rfl Tryz.underlying95 Tryz.sizeOf9 Tryz.zeroValue9 (by decide) (by decide) (by kernel_rfl) rfl rfl ?_
            have hh := hS30 
            rw [hF] at hh
            exact VA.to hh (by decide +kernel) (Le.mk hB [0] ⟨rfl, rfl, rfl, rfl, rfl, rfl, rfl, rfl, rfl, rfl, rfl, rfl, rfl, rfl, rfl, rfl, rfl, rfl, rfl, rfl, rfl, rfl, rfl, rfl, trivial⟩ rfl rfl (Nat.le_refl _))
          ·
            refine OpE.buildSlice (zc := #[.string ⟨#[]⟩, .string ⟨#[]⟩, .string ⟨#[]⟩, .string ⟨#[]⟩]) rfl hB rfl Tryz.underlying95 Tryz.sizeOf9 Tryz.zeroValue9 (by decide) (by decide) (by kernel_rfl) rfl rfl ?_
            have hh := hS31 
            rw [hF] at hh
            exact VA.to hh (by decide +kernel) (Le.mk hB [0] ⟨rfl, rfl, rfl, rfl, rfl, rfl, rfl, rfl, rfl, rfl, rfl, rfl, rfl, rfl, rfl, rfl, rfl, rfl, rfl, rfl, rfl, rfl, rfl, rfl, trivial⟩ rfl rfl (Nat.le_refl _))
        have hS46 : ∀ (r63 : ByteArray) (hr63 : r63.size ≤ 1000 ∧ r63 ≠ ozK), F 23 (lstB 67 [0, 1, 2, 3, 4, 5, 6, 7, 8, 9, 10, 11, 12, 13, 14, 15, 16, 17, 18, 19, 20, 21, 22, 23, 24, 27, 28, 29, 30, 31, 34, 35, 36, 37, 38, 41, 42, 43, 44, 45, 46, 47, 48, 49]) ⟨[(0, sp p), (53, sp p), (64, sp p), (75, sp p), (82, sp p), (89, sp p), (48, (pO gr (0 + i * 5))), (49, (pO gr (0 + i * 5))), (50, (pO gr (0 + i * 5))), (51, (pO gr (0 + i * 5))), (52, (pO gr (0 + i * 5))), (57, avS (xO l i).key), (61, avS (xO l i).key), (68, avS (xO l i).product), (72, avS (xO l i).product), (79, avI (xO l i).count), (86, avI (xO l i).ready), (93, avI (xO l i).due), (97, avI (xO l i).due), (5, .v (.slice (some ⟨gr, 0, none⟩) l.length cap)), (62, (iO 4 [avS (xO l i).key, avS (xO l i).key, avS ⟨#[]⟩, avS ⟨#[111, 97]⟩])), (63, avS r63)], [.box gr ⟨rowL l, 35, cap * 5⟩], k + 1 + 4 * q + 1 + 1 + 1⟩ := by
          intro r63 hr63
          rw [hF]
          refine VA.all (rs := [25, 32, 39, 50]) (by decide +kernel) (by decide) ?_
          refine ⟨⟨_, rfl, .inl rfl, ?_⟩, ⟨_, rfl, .inl rfl, ?_⟩, ⟨_, rfl, .inl rfl, ?_⟩, ⟨_, rfl, .inl rfl, ?_⟩, trivial⟩
          ·
            refine OpE.buildSlice (zc := #[.string ⟨#[]⟩, .string ⟨#[]⟩, .string ⟨#[]⟩, .string ⟨#[]⟩]) rfl hB rfl Tryz.underlying95 Tryz.sizeOf9 Tryz.zeroValue9 (by decide) (by decide) (by kernel_rfl) rfl rfl ?_
            have hh := hS32 r63 hr63
            rw [hF] at hh
            exact VA.to hh (by decide +kernel) (Le.mk hB [0] ⟨rfl, rfl, rfl, rfl, rfl, rfl, rfl, rfl, rfl, rfl, rfl, rfl, rfl, rfl, rfl, rfl, rfl, rfl, rfl, rfl, rfl, rfl, rfl, trivial⟩ rfl rfl (Nat.le_refl _))
          ·
            refine OpE.buildSlice (zc := #[.int .i64 0, .int .i64 0, .int .i64 0]) rfl hB rfl Tryz.underlying22 Tryz.sizeOf3 Tryz.zeroValue3 (by decide) (by decide) (by kernel_rfl) rfl rfl ?_
            have hh := hS33 r63 hr63
            rw [hF] at hh
            exact VA.to hh (by decide +kernel) (Le.mk hB [0] ⟨rfl, rfl, rfl, rfl, rfl, rfl, rfl, rfl, rfl, rfl, rfl, rfl, rfl, rfl, rfl, rfl, rfl, rfl, rfl, rfl, rfl, rfl, rfl, trivial⟩ rfl rfl (Nat.le_refl _))
          ·
            refine OpE.buildSlice (zc := #[.int .i64 0, .int .i64 0, .int .i64 0]) rfl hB rfl Tryz.underlying22 Tryz.sizeOf3 Tryz.zeroValue3 (by decide) (by decide) (by kernel_rfl) rfl rfl ?_
            have hh := hS34 r63 hr63
            rw [hF] at hh
            exact VA.to hh (by decide +kernel) (Le.mk hB [0] ⟨rfl, rfl, rfl, rfl, rfl, rfl, rfl, rfl, rfl, rfl, rfl, rfl, rfl, rfl, rfl, rfl, rfl, rfl, rfl, rfl, rfl, rfl, rfl, trivial⟩ rfl rfl (Nat.le_refl _))
          ·
            refine OpE.buildSlice (zc := #[.int .i64 0, .int .i64 0, .int .i64 0]) rfl hB rfl Tryz.underlying22 Tryz.sizeOf3 Tryz.zeroValue3 (by decide) (by decide) (by kernel_rfl) rfl rfl ?_
            have hh := hS35 r63 hr63
            rw [hF] at hh
            exact VA.to hh (by decide +kernel) (Le.mk hB [0] ⟨rfl, rfl, rfl, rfl, rfl, rfl, rfl, rfl, rfl, rfl, rfl, rfl, rfl, rfl, rfl, rfl, rfl, rfl, rfl, rfl, rfl, rfl, rfl, trivial⟩ rfl rfl (Nat.le_refl _))
        have hS47 : F 23 (lstB 67 [0, 1, 2, 3, 4, 5, 6, 7, 8, 9, 10, 11, 12, 13, 14, 16, 17, 18, 19, 20, 21, 22, 23, 24, 25, 27, 28, 29, 30, 31, 34, 35, 36, 37, 38, 41, 42, 43, 44, 45, 46, 47, 48, 49]) ⟨[(0, sp p), (53, sp p), (64, sp p), (75, sp p), (82, sp p), (89, sp p), (48, (pO gr (0 + i * 5))), (49, (pO gr (0 + i * 5))), (50, (pO gr (0 + i * 5))), (51, (pO gr (0 + i * 5))), (52, (pO gr (0 + i * 5))), (57, avS (xO l i).key), (61, avS (xO l i).key), (68, avS (xO l i).product), (72, avS (xO l i).product), (79, avI (xO l i).count), (86, avI (xO l i).ready), (93, avI (xO l i).due), (97, avI (xO l i).due), (5, .v (.slice (some ⟨gr, 0, none⟩) l.length cap)), (62, (iO 4 [avS (xO l i).key, avS (xO l i).key, avS ⟨#[]⟩, avS ⟨#[111, 97]⟩])), (73, (iO 4 [avS (xO l i).product, avS (xO l i).product, avS ⟨#[122, 122]⟩, avS ⟨#[]⟩]))], [.box gr ⟨rowL l, 35, cap * 5⟩], k + 1 + 4 * q + 1 + 1⟩ := by
          rw [hF]
          refine VA.all (rs := [15, 32, 39, 50]) (by decide +kernel) (by decide) ?_
          refine ⟨⟨_, rfl, .inl rfl, ?_⟩, ⟨_, rfl, .inl rfl, ?_⟩, ⟨_, rfl, .inl rfl, ?_⟩, ⟨_, rfl, .inl rfl, ?_⟩, trivial⟩
          ·
            refine OpE.callT' (k + 1 + 4 * q + 1 + 1) rfl rfl hB rfl Tryz.call32 rfl (some_Q (by rfl) (by decide) (by decide) (AllQ.cons ⟨(hok.getD i).1, (hok.getD i).2.2⟩ (AllQ.cons ⟨(hok.getD i).1, (hok.getD i).2.2⟩ (AllQ.cons (by decide) (AllQ.cons (by decide) AllQ.nil))))) (by omega) ?_
            rintro _ ⟨r63, hr63, rfl⟩
            have hh := hS32 r63 hr63
            rw [hF] at hh
            exact VA.to hh (by decide +kernel) (Le.mk hB [0] ⟨rfl, rfl, rfl, rfl, rfl, rfl, rfl, rfl, rfl, rfl, rfl, rfl, rfl, rfl, rfl, rfl, rfl, rfl, rfl, rfl, rfl, rfl, rfl, trivial⟩ rfl rfl (Nat.le_refl _))
          ·
            refine OpE.buildSlice (zc := #[.int .i64 0, .int .i64 0, .int .i64 0]) rfl hB rfl Tryz.underlying22 Tryz.sizeOf3 Tryz.zeroValue3 (by decide) (by decide) (by kernel_rfl) rfl rfl ?_
            have hh := hS36 
            rw [hF] at hh
            exact VA.to hh (by decide +kernel) (Le.mk hB [0] ⟨rfl, rfl, rfl, rfl, rfl, rfl, rfl, rfl, rfl, rfl, rfl, rfl, rfl, rfl, rfl, rfl, rfl, rfl, rfl, rfl, rfl, rfl, rfl, trivial⟩ rfl rfl (Nat.le_refl _))
          ·
            refine OpE.buildSlice (zc := #[.int .i64 0, .int .i64 0, .int .i64 0]) rfl hB rfl Tryz.underlying22 Tryz.sizeOf3 Tryz.zeroValue3 (by decide) (by decide) (by kernel_rfl) rfl rfl ?_
            have hh := hS37 
            rw [hF] at hh
            exact VA.to hh (by decide +kernel) (Le.mk hB [0] ⟨rfl, rfl, rfl, rfl, rfl, rfl, rfl, rfl, rfl, rfl, rfl, rfl, rfl, rfl, rfl, rfl, rfl, rfl, rfl, rfl, rfl, rfl, rfl, trivial⟩ rfl rfl (Nat.le_refl _))
          ·
            refine OpE.buildSlice (zc := #[.int .i64 0, .int .i64 0, .int .i64 0]) rfl hB rfl Tryz.underlying22 Tryz.sizeOf3 Tryz.zeroValue3 (by decide) (by decide) (by kernel_rfl) rfl rfl ?_
            have hh := hS38 
            rw [hF] at hh
            exact VA.to hh (by decide +kernel) (Le.mk hB [0] ⟨rfl, rfl, rfl, rfl, rfl, rfl, rfl, rfl, rfl, rfl, rfl, rfl, rfl, rfl, rfl, rfl, rfl, rfl, rfl, rfl, rfl, rfl, rfl, trivial⟩ rfl rfl (Nat.le_refl _))
        have hS48 : F 23 (lstB 67 [0, 1, 2, 3, 4, 5, 6, 7, 8, 9, 10, 11, 12, 13, 14, 16, 17, 18, 19, 20, 21, 22, 23, 24, 27, 28, 29, 30, 31, 32, 34, 35, 36, 37, 38, 41, 42, 43, 44, 45, 46, 47, 48, 49]) ⟨[(0, sp p), (53, sp p), (64, sp p), (75, sp p), (82, sp p), (89, sp p), (48, (pO gr (0 + i * 5))), (49, (pO gr (0 + i * 5))), (50, (pO gr (0 + i * 5))), (51, (pO gr (0 + i * 5))), (52, (pO gr (0 + i * 5))), (57, avS (xO l i).key), (61, avS (xO l i).key), (68, avS (xO l i).product), (72, avS (xO l i).product), (79, avI (xO l i).count), (86, avI (xO l i).ready), (93, avI (xO l i).due), (97, avI (xO l i).due), (5, .v (.slice (some ⟨gr, 0, none⟩) l.length cap)), (62, (iO 4 [avS (xO l i).key, avS (xO l i).key, avS ⟨#[]⟩, avS ⟨#[111, 97]⟩])), (80, (iO 3 [avI (xO l i).count, avI 0, avI 100001]))], [.box gr ⟨rowL l, 35, cap * 5⟩], k + 1 + 4 * q + 1 + 1⟩ := by
          rw [hF]
          refine VA.all (rs := [15, 25, 39, 50]) (by decide +kernel) (by decide) ?_
          refine ⟨⟨_, rfl, .inl rfl, ?_⟩, ⟨_, rfl, .inl rfl, ?_⟩, ⟨_, rfl, .inl rfl, ?_⟩, ⟨_, rfl, .inl rfl, ?_⟩, trivial⟩
          ·
            refine OpE.callT' (k + 1 + 4 * q + 1 + 1) rfl rfl hB rfl Tryz.call32 rfl (some_Q (by rfl) (by decide) (by decide) (AllQ.cons ⟨(hok.getD i).1, (hok.getD i).2.2⟩ (AllQ.cons ⟨(hok.getD i).1, (hok.getD i).2.2⟩ (AllQ.cons (by decide) (AllQ.cons (by decide) AllQ.nil))))) (by omega) ?_
            rintro _ ⟨r63, hr63, rfl⟩
            have hh := hS33 r63 hr63
            rw [hF] at hh
            exact VA.to hh (by decide +kernel) (Le.mk hB [0] ⟨rfl, rfl, rfl, rfl, rfl, rfl, rfl, rfl, rfl, rfl, rfl, rfl, rfl, rfl, rfl, rfl, rfl, rfl, rfl, rfl, rfl, rfl, rfl, trivial⟩ rfl rfl (Nat.le_refl _))
          ·
            refine OpE.buildSlice (zc := #[.string ⟨#[]⟩, .string ⟨#[]⟩, .string ⟨#[]⟩, .string ⟨#[]⟩]) rfl hB rfl Tryz.underlying95 Tryz.sizeOf9 Tryz.zeroValue9 (by decide) (by decide) (by kernel_rfl) rfl rfl ?_
            have hh := hS36 
            rw [hF] at hh
            exact VA.to hh (by decide +kernel) (Le.mk hB [0] ⟨rfl, rfl, rfl, rfl, rfl, rfl, rfl, rfl, rfl, rfl, rfl, rfl, rfl, rfl, rfl, rfl, rfl, rfl, rfl, rfl, rfl, rfl, rfl, trivial⟩ rfl rfl (Nat.le_refl _))
          ·
            refine OpE.buildSlice (zc := #[.int .i64 0, .int .i64 0, .int .i64 0]) rfl hB rfl Tryz.underlying22 Tryz.sizeOf3 Tryz.zeroValue3 (by decide) (by decide) (by kernel_rfl) rfl rfl ?_
            have hh := hS39 
            rw [hF] at hh
            exact VA.to hh (by decide +kernel) (Le.mk hB [0] ⟨rfl, rfl, rfl, rfl, rfl, rfl, rfl, rfl, rfl, rfl, rfl, rfl, rfl, rfl, rfl, rfl, rfl, rfl, rfl, rfl, rfl, rfl, rfl, trivial⟩ rfl rfl (Nat.le_refl _))
          ·
            refine OpE.buildSlice (zc := #[.int .i64 0, .int .i64 0, .int .i64 0]) rfl hB rfl Tryz.underlying22 Tryz.sizeOf3 Tryz.zeroValue3 (by decide) (by decide) (by kernel_rfl) rfl rfl ?_
            have hh := hS40 
            rw [hF] at hh
            exact VA.to hh (by decide +kernel) (Le.mk hB [0] ⟨rfl, rfl, rfl, rfl, rfl, rfl, rfl, rfl, rfl, rfl, rfl, rfl, rfl, rfl, rfl, rfl, rfl, rfl, rfl, rfl, rfl, rfl, rfl, trivial⟩ rfl rfl (Nat.le_refl _))
        have hS49 : F 23 (lstB 67 [0, 1, 2, 3, 4, 5, 6, 7, 8, 9, 10, 11, 12, 13, 14, 16, 17, 18, 19, 20, 21, 22, 23, 24, 27, 28, 29, 30, 31, 34, 35, 36, 37, 38, 39, 41, 42, 43, 44, 45, 46, 47, 48, 49]) ⟨[(0, sp p), (53, sp p), (64, sp p), (75, sp p), (82, sp p), (89, sp p), (48, (pO gr (0 + i * 5))), (49, (pO gr (0 + i * 5))), (50, (pO gr (0 + i * 5))), (51, (pO gr (0 + i * 5))), (52, (pO gr (0 + i * 5))), (57, avS (xO l i).key), (61, avS (xO l i).key), (68, avS (xO l i).product), (72, avS (xO l i).product), (79, avI (xO l i).count), (86, avI (xO l i).ready), (93, avI (xO l i).due), (97, avI (xO l i).due), (5, .v (.slice (some ⟨gr, 0, none⟩) l.length cap)), (62, (iO 4 [avS (xO l i).key, avS (xO l i).key, avS ⟨#[]⟩, avS ⟨#[111, 97]⟩])), (87, (iO 3 [avI (xO l i).ready, avI (-1), avI 345686400000]))], [.box gr ⟨rowL l, 35, cap * 5⟩], k + 1 + 4 * q + 1 + 1⟩ := by
          rw [hF]
          refine VA.all (rs := [15, 25, 32, 50]) (by decide +kernel) (by decide) ?_
          refine ⟨⟨_, rfl, .inl rfl, ?_⟩, ⟨_, rfl, .inl rfl, ?_⟩, ⟨_, rfl, .inl rfl, ?_⟩, ⟨_, rfl, .inl rfl, ?_⟩, trivial⟩
          ·
            refine OpE.callT' (k + 1 + 4 * q + 1 + 1) rfl rfl hB rfl Tryz.call32 rfl (some_Q (by rfl) (by decide) (by decide) (AllQ.cons ⟨(hok.getD i).1, (hok.getD i).2.2⟩ (AllQ.cons ⟨(hok.getD i).1, (hok.getD i).2.2⟩ (AllQ.cons (by decide) (AllQ.cons (by decide) AllQ.nil))))) (by omega) ?_
            rintro _ ⟨r63, hr63, rfl⟩
            have hh := hS34 r63 hr63
            rw [hF] at hh
            exact VA.to hh (by decide +kernel) (Le.mk hB [0] ⟨rfl, rfl, rfl, rfl, rfl, rfl, rfl, rfl, rfl, rfl, rfl, rfl, rfl, rfl, rfl, rfl, rfl, rfl, rfl, rfl, rfl, rfl, rfl, trivial⟩ rfl rfl (Nat.le_refl _))
          ·
            refine OpE.buildSlice (zc := #[.string ⟨#[]⟩, .string ⟨#[]⟩, .string ⟨#[]⟩, .string ⟨#[]⟩]) rfl hB rfl Tryz.underlying95 Tryz.sizeOf9 Tryz.zeroValue9 (by decide) (by decide) (by kernel_rfl) rfl rfl ?_
            have hh := hS37 
            rw [hF] at hh
            exact VA.to hh (by decide +kernel) (Le.mk hB [0] ⟨rfl, rfl, rfl, rfl, rfl, rfl, rfl, rfl, rfl, rfl, rfl, rfl, rfl, rfl, rfl, rfl, rfl, rfl, rfl, rfl, rfl, rfl, rfl, trivial⟩ rfl rfl (Nat.le_refl _))
          ·
            refine OpE.buildSlice (zc := #[.int .i64 0, .int .i64 0, .int .i64 0]) rfl hB rfl Tryz.underlying22 Tryz.sizeOf3 Tryz.zeroValue3 (by decide) (by decide) (by kernel_rfl) rfl rfl ?_
            have hh := hS39 
            rw [hF] at hh
            exact VA.to hh (by decide +kernel) (Le.mk hB [0] ⟨rfl, rfl, rfl, rfl, rfl, rfl, rfl, rfl, rfl, rfl, rfl, rfl, rfl, rfl, rfl, rfl, rfl, rfl, rfl, rfl, rfl, rfl, rfl, trivial⟩ rfl rfl (Nat.le_refl _))
          ·
            refine OpE.buildSlice (zc := #[.int .i64 0, .int .i64 0, .int .i64 0]) rfl hB rfl Tryz.underlying22 Tryz.sizeOf3 Tryz.zeroValue3 (by decide) (by decide) (by kernel_rfl) rfl rfl ?_
            have hh := hS41 
            rw [hF] at hh
            exact VA.to hh (by decide +kernel) (Le.mk hB [0] ⟨rfl, rfl, rfl, rfl, rfl, rfl, rfl, rfl, rfl, rfl, rfl, rfl, rfl, rfl, rfl, rfl, rfl, rfl, rfl, rfl, rfl, rfl, rfl, trivial⟩ rfl rfl (Nat.le_refl _))
        have hS50 : F 23 (lstB 67 [0, 1, 2, 3, 4, 5, 6, 7, 8, 9, 10, 11, 12, 13, 14, 16, 17, 18, 19, 20, 21, 22, 23, 24, 27, 28, 29, 30, 31, 34, 35, 36, 37, 38, 41, 42, 43, 44, 45, 46, 47, 48, 49, 50]) ⟨[(0, sp p), (53, sp p), (64, sp p), (75, sp p), (82, sp p), (89, sp p), (48, (pO gr (0 + i * 5))), (49, (pO gr (0 + i * 5))), (50, (pO gr (0 + i * 5))), (51, (pO gr (0 + i * 5))), (52, (pO gr (0 + i * 5))), (57, avS (xO l i).key), (61, avS (xO l i).key), (68, avS (xO l i).product), (72, avS (xO l i).product), (79, avI (xO l i).count), (86, avI (xO l i).ready), (93, avI (xO l i).due), (97, avI (xO l i).due), (5, .v (.slice (some ⟨gr, 0, none⟩) l.length cap)), (62, (iO 4 [avS (xO l i).key, avS (xO l i).key, avS ⟨#[]⟩, avS ⟨#[111, 97]⟩])), (98, (iO 3 [avI (xO l i).due, avI (xO l i).due, avI 345686400000]))], [.box gr ⟨rowL l, 35, cap * 5⟩], k + 1 + 4 * q + 1 + 1⟩ := by
          rw [hF]
          refine VA.all (rs := [15, 25, 32, 39]) (by decide +kernel) (by decide) ?_
          refine ⟨⟨_, rfl, .inl rfl, ?_⟩, ⟨_, rfl, .inl rfl, ?_⟩, ⟨_, rfl, .inl rfl, ?_⟩, ⟨_, rfl, .inl rfl, ?_⟩, trivial⟩
          ·
            refine OpE.callT' (k + 1 + 4 * q + 1 + 1) rfl rfl hB rfl Tryz.call32 rfl (some_Q (by rfl) (by decide) (by decide) (AllQ.cons ⟨(hok.getD i).1, (hok.getD i).2.2⟩ (AllQ.cons ⟨(hok.getD i).1, (hok.getD i).2.2⟩ (AllQ.cons (by decide) (AllQ.cons (by decide) AllQ.nil))))) (by omega) ?_
            rintro _ ⟨r63, hr63, rfl⟩
            have hh := hS35 r63 hr63
            rw [hF] at hh
            exact VA.to hh (by decide +kernel) (Le.mk hB [0] ⟨rfl, rfl, rfl, rfl, rfl, rfl, rfl, rfl, rfl, rfl, rfl, rfl, rfl, rfl, rfl, rfl, rfl, rfl, rfl, rfl, rfl, rfl, rfl, trivial⟩ rfl rfl (Nat.le_refl _))
          ·
            refine OpE.buildSlice (zc := #[.string ⟨#[]⟩, .string ⟨#[]⟩, .string ⟨#[]⟩, .string ⟨#[]⟩]) rfl hB rfl Tryz.underlying95 Tryz.sizeOf9 Tryz.zeroValue9 (by decide) (by decide) (by kernel_rfl) rfl rfl ?_
            have hh := hS38 
            rw [hF] at hh
            exact VA.to hh (by decide +kernel) (Le.mk hB [0] ⟨rfl, rfl, rfl, rfl, rfl, rfl, rfl, rfl, rfl, rfl, rfl, rfl, rfl, rfl, rfl, rfl, rfl, rfl, rfl, rfl, rfl, rfl, rfl, trivial⟩ rfl rfl (Nat.le_refl _))
          ·
            refine OpE.buildSlice (zc := #[.int .i64 0, .int .i64 0, .int .i64 0]) rfl hB rfl Tryz.underlying22 Tryz.sizeOf3 Tryz.zeroValue3 (by decide) (by decide) (by kernel_rfl) rfl rfl ?_
            have hh := hS40 
            rw [hF] at hh
            exact VA.to hh (by decide +kernel) (Le.mk hB [0] ⟨rfl, rfl, rfl, rfl, rfl, rfl, rfl, rfl, rfl, rfl, rfl, rfl, rfl, rfl, rfl, rfl, rfl, rfl, rfl, rfl, rfl, rfl, rfl, trivial⟩ rfl rfl (Nat.le_refl _))
          ·
            refine OpE.buildSlice (zc := #[.int .i64 0, .int .i64 0, .int .i64 0]) rfl hB rfl Tryz.underlying22 Tryz.sizeOf3 Tryz.zeroValue3 (by decide) (by decide) (by kernel_rfl) rfl rfl ?_
            have hh := hS41 
            rw [hF] at hh
            exact VA.to hh (by decide +kernel) (Le.mk hB [0] ⟨rfl, rfl, rfl, rfl, rfl, rfl, rfl, rfl, rfl, rfl, rfl, rfl, rfl, rfl, rfl, rfl, rfl, rfl, rfl, rfl, rfl, rfl, rfl, trivial⟩ rfl rfl (Nat.le_refl _))
        have hS51 : F 23 (lstB 67 [0, 1, 2, 3, 4, 5, 6, 7, 8, 9, 10, 11, 12, 13, 16, 17, 18, 19, 20, 21, 22, 23, 24, 25, 27, 28, 29, 30, 31, 32, 34, 35, 36, 37, 38, 41, 42, 43, 44, 45, 46, 47, 48, 49]) ⟨[(0, sp p), (53, sp p), (64, sp p), (75, sp p), (82, sp p), (89, sp p), (48, (pO gr (0 + i * 5))), (49, (pO gr (0 + i * 5))), (50, (pO gr (0 + i * 5))), (51, (pO gr (0 + i * 5))), (52, (pO gr (0 + i * 5))), (57, avS (xO l i).key), (61, avS (xO l i).key), (68, avS (xO l i).product), (72, avS (xO l i).product), (79, avI (xO l i).count), (86, avI (xO l i).ready), (93, avI (xO l i).due), (97, avI (xO l i).due), (5, .v (.slice (some ⟨gr, 0, none⟩) l.length cap)), (73, (iO 4 [avS (xO l i).product, avS (xO l i).product, avS ⟨#[122, 122]⟩, avS ⟨#[]⟩])), (80, (iO 3 [avI (xO l i).count, avI 0, avI 100001]))], [.box gr ⟨rowL l, 35, cap * 5⟩], k + 1 + 4 * q + 1 + 1⟩ := by
          rw [hF]
          refine VA.all (rs := [14, 39, 50]) (by decide +kernel) (by decide) ?_
          refine ⟨⟨_, rfl, .inl rfl, ?_⟩, ⟨_, rfl, .inl rfl, ?_⟩, ⟨_, rfl, .inl rfl, ?_⟩, trivial⟩
          ·
            refine OpE.buildSlice (zc := #[.string ⟨#[]⟩, .string ⟨#[]⟩, .string ⟨#[]⟩, .string ⟨#[]⟩]) rfl hB rfl Tryz.underlying95 Tryz.sizeOf9 Tryz.zeroValue9 (by decide) (by decide) (by kernel_rfl) rfl rfl ?_
            have hh := hS36 
            rw [hF] at hh
            exact VA.to hh (by decide +kernel) (Le.mk hB [0] ⟨rfl, rfl, rfl, rfl, rfl, rfl, rfl, rfl, rfl, rfl, rfl, rfl, rfl, rfl, rfl, rfl, rfl, rfl, rfl, rfl, rfl, rfl, rfl, trivial⟩ rfl rfl (Nat.le_refl _))
          ·
            refine OpE.buildSlice (zc := #[.int .i64 0, .int .i64 0, .int .i64 0]) rfl hB rfl Tryz.underlying22 Tryz.sizeOf3 Tryz.zeroValue3 (by decide) (by decide) (by kernel_rfl) rfl rfl ?_
            have hh := hS42 
            rw [hF] at hh
            exact VA.to hh (by decide +kernel) (Le.mk hB [0] ⟨rfl, rfl, rfl, rfl, rfl, rfl, rfl, rfl, rfl, rfl, rfl, rfl, rfl, rfl, rfl, rfl, rfl, rfl, rfl, rfl, rfl, rfl, rfl, trivial⟩ rfl rfl (Nat.le_refl _))
          ·
            refine OpE.buildSlice (zc := #[.int .i64 0, .int .i64 0, .int .i64 0]) rfl hB rfl Tryz.underlying22 Tryz.sizeOf3 Tryz.zeroValue3 (by decide) (by decide) (by kernel_rfl) rfl rfl ?_
            have hh := hS43 
            rw [hF] at hh
            exact VA.to hh (by decide +kernel) (Le.mk hB [0] ⟨rfl, rfl, rfl, rfl, rfl, rfl, rfl, rfl, rfl, rfl, rfl, rfl, rfl, rfl, rfl, rfl, rfl, rfl, rfl, rfl, rfl, rfl, rfl, trivial⟩ rfl rfl (Nat.le_refl _))
        have hS52 : F 23 (lstB 67 [0, 1, 2, 3, 4, 5, 6, 7, 8, 9, 10, 11, 12, 13, 16, 17, 18, 19, 20, 21, 22, 23, 24, 25, 27, 28, 29, 30, 31, 34, 35, 36, 37, 38, 39, 41, 42, 43, 44, 45, 46, 47, 48, 49]) ⟨[(0, sp p), (53, sp p), (64, sp p), (75, sp p), (82, sp p), (89, sp p), (48, (pO gr (0 + i * 5))), (49, (pO gr (0 + i * 5))), (50, (pO gr (0 + i * 5))), (51, (pO gr (0 + i * 5))), (52, (pO gr (0 + i * 5))), (57, avS (xO l i).key), (61, avS (xO l i).key), (68, avS (xO l i).product), (72, avS (xO l i).product), (79, avI (xO l i).count), (86, avI (xO l i).ready), (93, avI (xO l i).due), (97, avI (xO l i).due), (5, .v (.slice (some ⟨gr, 0, none⟩) l.length cap)), (73, (iO 4 [avS (xO l i).product, avS (xO l i).product, avS ⟨#[122, 122]⟩, avS ⟨#[]⟩])), (87, (iO 3 [avI (xO l i).ready, avI (-1), avI 345686400000]))], [.box gr ⟨rowL l, 35, cap * 5⟩], k + 1 + 4 * q + 1 + 1⟩ := by
          rw [hF]
          refine VA.all (rs := [14, 32, 50]) (by decide +kernel) (by decide) ?_
          refine ⟨⟨_, rfl, .inl rfl, ?_⟩, ⟨_, rfl, .inl rfl, ?_⟩, ⟨_, rfl, .inl rfl, ?_⟩, trivial⟩
          ·
            refine OpE.buildSlice (zc := #[.string ⟨#[]⟩, .string ⟨#[]⟩, .string ⟨#[]⟩, .string ⟨#[]⟩]) rfl hB rfl Tryz.underlying95 Tryz.sizeOf9 Tryz.zeroValue9 (by decide) (by decide) (by kernel_rfl) rfl rfl ?_
            have hh := hS37 
            rw [hF] at hh
            exact VA.to hh (by decide +kernel) (Le.mk hB [0] ⟨rfl, rfl, rfl, rfl, rfl, rfl, rfl, rfl, rfl, rfl, rfl, rfl, rfl, rfl, rfl, rfl, rfl, rfl, rfl, rfl, rfl, rfl, rfl, trivial⟩ rfl rfl (Nat.le_refl _))
          ·
            refine OpE.buildSlice (zc := #[.int .i64 0, .int .i64 0, .int .i64 0]) rfl hB rfl Tryz.underlying22 Tryz.sizeOf3 Tryz.zeroValue3 (by decide) (by decide) (by kernel_rfl) rfl rfl ?_
            have hh := hS42 
            rw [hF] at hh
            exact VA.to hh (by decide +kernel) (Le.mk hB [0] ⟨rfl, rfl, rfl, rfl, rfl, rfl, rfl, rfl, rfl, rfl, rfl, rfl, rfl, rfl, rfl, rfl, rfl, rfl, rfl, rfl, rfl, rfl, rfl, trivial⟩ rfl rfl (Nat.le_refl _))
          ·
            refine OpE.buildSlice (zc := #[.int .i64 0, .int .i64 0, .int .i64 0]) rfl hB rfl Tryz.underlying22 Tryz.sizeOf3 Tryz.zeroValue3 (by decide) (by decide) (by kernel_rfl) rfl rfl ?_
            have hh := hS44 
            rw [hF] at hh
            exact VA.to hh (by decide +kernel) (Le.mk hB [0] ⟨rfl, rfl, rfl, rfl, rfl, rfl, rfl, rfl, rfl, rfl, rfl, rfl, rfl, rfl, rfl, rfl, rfl, rfl, rfl, rfl, rfl, rfl, rfl, trivial⟩ rfl rfl (Nat.le_refl _))
        have hS53 : F 23 (lstB 67 [0, 1, 2, 3, 4, 5, 6, 7, 8, 9, 10, 11, 12, 13, 16, 17, 18, 19, 20, 21, 22, 23, 24, 25, 27, 28, 29, 30, 31, 34, 35, 36, 37, 38, 41, 42, 43, 44, 45, 46, 47, 48, 49, 50]) ⟨[(0, sp p), (53, sp p), (64, sp p), (75, sp p), (82, sp p), (89, sp p), (48, (pO gr (0 + i * 5))), (49, (pO gr (0 + i * 5))), (50, (pO gr (0 + i * 5))), (51, (pO gr (0 + i * 5))), (52, (pO gr (0 + i * 5))), (57, avS (xO l i).key), (61, avS (xO l i).key), (68, avS (xO l i).product), (72, avS (xO l i).product), (79, avI (xO l i).count), (86, avI (xO l i).ready), (93, avI (xO l i).due), (97, avI (xO l i).due), (5, .v (.slice (some ⟨gr, 0, none⟩) l.length cap)), (73, (iO 4 [avS (xO l i).product, avS (xO l i).product, avS ⟨#[122, 122]⟩, avS ⟨#[]⟩])), (98, (iO 3 [avI (xO l i).due, avI (xO l i).due, avI 345686400000]))], [.box gr ⟨rowL l, 35, cap * 5⟩], k + 1 + 4 * q + 1 + 1⟩ := by
          rw [hF]
          refine VA.all (rs := [14, 32, 39]) (by decide +kernel) (by decide) ?_
          refine ⟨⟨_, rfl, .inl rfl, ?_⟩, ⟨_, rfl, .inl rfl, ?_⟩, ⟨_, rfl, .inl rfl, ?_⟩, trivial⟩
          ·
            refine OpE.buildSlice (zc := #[.string ⟨#[]⟩, .string ⟨#[]⟩, .string ⟨#[]⟩, .string ⟨#[]⟩]) rfl hB rfl Tryz.underlying95 Tryz.sizeOf9 Tryz.zeroValue9 (by decide) (by decide) (by kernel_rfl) rfl rfl ?_
            have hh := hS38 
            rw [hF] at hh
            exact VA.to hh (by decide +kernel) (Le.mk hB [0] ⟨rfl, rfl, rfl, rfl, rfl, rfl, rfl, rfl, rfl, rfl, rfl, rfl, rfl, rfl, rfl, rfl, rfl, rfl, rfl, rfl, rfl, rfl, rfl, trivial⟩ rfl rfl (Nat.le_refl _))
          ·
            refine OpE.buildSlice (zc := #[.int .i64 0, .int .i64 0, .int .i64 0]) rfl hB rfl Tryz.underlying22 Tryz.sizeOf3 Tryz.zeroValue3 (by decide) (by decide) (by kernel_rfl) rfl rfl ?_
            have hh := hS43 
            rw [hF] at hh
            exact VA.to hh (by decide +kernel) (Le.mk hB [0] ⟨rfl, rfl, rfl, rfl, rfl, rfl, rfl, rfl, rfl, rfl, rfl, rfl, rfl, rfl, rfl, rfl, rfl, rfl, rfl, rfl, rfl, rfl, rfl, trivial⟩ rfl rfl (Nat.le_refl _))
          ·
            refine OpE.buildSlice (zc := #[.int .i64 0, .int .i64 0, .int .i64 0]) rfl hB rfl Tryz.underlying22 Tryz.sizeOf3 Tryz.zeroValue3 (by decide) (by decide) (by kernel_rfl) rfl rfl ?_
            have hh := hS44 
            rw [hF] at hh
            exact VA.to hh (by decide +kernel) (Le.mk hB [0] ⟨rfl, rfl, rfl, rfl, rfl, rfl, rfl, rfl, rfl, rfl, rfl, rfl, rfl, rfl, rfl, rfl, rfl, rfl, rfl, rfl, rfl, rfl, rfl, trivial⟩ rfl rfl (Nat.le_refl _))
        have hS54 : F 23 (lstB 67 [0, 1, 2, 3, 4, 5, 6, 7, 8, 9, 10, 11, 12, 13, 16, 17, 18, 19, 20, 21, 22, 23, 24, 27, 28, 29, 30, 31, 32, 34, 35, 36, 37, 38, 39, 41, 42, 43, 44, 45, 46, 47, 48, 49]) ⟨[(0, sp p), (53, sp p), (64, sp p), (75, sp p), (82, sp p), (89, sp p), (48, (pO gr (0 + i * 5))), (49, (pO gr (0 + i * 5))), (50, (pO gr (0 + i * 5))), (51, (pO gr (0 + i * 5))), (52, (pO gr (0 + i * 5))), (57, avS (xO l i).key), (61, avS (xO l i).key), (68, avS (xO l i).product), (72, avS (xO l i).product), (79, avI (xO l i).count), (86, avI (xO l i).ready), (93, avI (xO l i).due), (97, avI (xO l i).due), (5, .v (.slice (some ⟨gr, 0, none⟩) l.length cap)), (80, (iO 3 [avI (xO l i).count, avI 0, avI 100001])), (87, (iO 3 [avI (xO l i).ready, avI (-1), avI 345686400000]))], [.box gr ⟨rowL l, 35, cap * 5⟩], k + 1 + 4 * q + 1 + 1⟩ := by
          rw [hF]
          refine VA.all (rs := [14, 25, 50]) (by decide +kernel) (by decide) ?_
          refine ⟨⟨_, rfl, .inl rfl, ?_⟩, ⟨_, rfl, .inl rfl, ?_⟩, ⟨_, rfl, .inl rfl, ?_⟩, trivial⟩
          ·
            refine OpE.buildSlice (zc := #[.string ⟨#[]⟩, .string ⟨#[]⟩, .string ⟨#[]⟩, .string ⟨#[]⟩]) rfl hB rfl Tryz.underlying95 Tryz.sizeOf9 Tryz.zeroValue9 (by decide) (by decide) (by kernel_rfl) rfl rfl ?_
            have hh := hS39 
            rw [hF] at hh
            exact VA.to hh (by decide +kernel) (Le.mk hB [0] ⟨rfl, rfl, rfl, rfl, rfl, rfl, rfl, rfl, rfl, rfl, rfl, rfl, rfl, rfl, rfl, rfl, rfl, rfl, rfl, rfl, rfl, rfl, rfl, trivial⟩ rfl rfl (Nat.le_refl _))
          ·
            refine OpE.buildSlice (zc := #[.string ⟨#[]⟩, .string ⟨#[]⟩, .string ⟨#[]⟩, .string ⟨#[]⟩]) rfl hB rfl Tryz.underlying95 Tryz.sizeOf9 Tryz.zeroValue9 (by decide) (by decide) (by kernel_rfl) rfl rfl ?_
            have hh := hS42 
            rw [hF] at hh
            exact VA.to hh (by decide +kernel) (Le.mk hB [0] ⟨rfl, rfl, rfl, rfl, rfl, rfl, rfl, rfl, rfl, rfl, rfl, rfl, rfl, rfl, rfl, rfl, rfl, rfl, rfl, rfl, rfl, rfl, rfl, trivial⟩ rfl rfl (Nat.le_refl _))
          ·
            refine OpE.buildSlice (zc := #[.int .i64 0, .int .i64 0, .int .i64 0]) rfl hB rfl Tryz.underlying22 Tryz.sizeOf3 Tryz.zeroValue3 (by decide) (by decide) (by kernel_rfl) rfl rfl ?_
            have hh := hS45 
            rw [hF] at hh
            exact VA.to hh (by decide +kernel) (Le.mk hB [0] ⟨rfl, rfl, rfl, rfl, rfl, rfl, rfl, rfl, rfl, rfl, rfl, rfl, rfl, rfl, rfl, rfl, rfl, rfl, rfl, rfl, rfl, rfl, rfl, trivial⟩ rfl rfl (Nat.le_refl _))
        have hS55 : F 23 (lstB 67 [0, 1, 2, 3, 4, 5, 6, 7, 8, 9, 10, 11, 12, 13, 16, 17, 18, 19, 20, 21, 22, 23, 24, 27, 28, 29, 30, 31, 32, 34, 35, 36, 37, 38, 41, 42, 43, 44, 45, 46, 47, 48, 49, 50]) ⟨[(0, sp p), (53, sp p), (64, sp p), (75, sp p), (82, sp p), (89, sp p), (48, (pO gr (0 + i * 5))), (49, (pO gr (0 + i * 5))), (50, (pO gr (0 + i * 5))), (51, (pO gr (0 + i * 5))), (52, (pO gr (0 + i * 5))), (57, avS (xO l i).key), (61, avS (xO l i).key), (68, avS (xO l i).product), (72, avS (xO l i).product), (79, avI (xO l i).count), (86, avI (xO l i).ready), (93, avI (xO l i).due), (97, avI (xO l i).due), (5, .v (.slice (some ⟨gr, 0, none⟩) l.length cap)), (80, (iO 3 [avI (xO l i).count, avI 0, avI 100001])), (98, (iO 3 [avI (xO l i).due, avI (xO l i).due, avI 345686400000]))], [.box gr ⟨rowL l, 35, cap * 5⟩], k + 1 + 4 * q + 1 + 1⟩ := by
          rw [hF]
          refine VA.all (rs := [14, 25, 39]) (by decide +kernel) (by decide) ?_
          refine ⟨⟨_, rfl, .inl rfl, ?_⟩, ⟨_, rfl, .inl rfl, ?_⟩, ⟨_, rfl, .inl rfl, ?_⟩, trivial⟩
          ·
            refine OpE.buildSlice (zc := #[.string ⟨#[]⟩, .string ⟨#[]⟩, .string ⟨#[]⟩, .string ⟨#[]⟩]) rfl hB rfl Tryz.underlying95 Tryz.sizeOf9 Tryz.zeroValue9 (by decide) (by decide) (by kernel_rfl) rfl rfl ?_
            have hh := hS40 
            rw [hF] at hh
            exact VA.to hh (by decide +kernel) (Le.mk hB [0] ⟨rfl, rfl, rfl, rfl, rfl, rfl, rfl, rfl, rfl, rfl, rfl, rfl, rfl, rfl, rfl, rfl, rfl, rfl, rfl, rfl, rfl, rfl, rfl, trivial⟩ rfl rfl (Nat.le_refl _))
          ·
            refine OpE.buildSlice (zc := #[.string ⟨#[]⟩, .string ⟨#[]⟩, .string ⟨#[]⟩, .string ⟨#[]⟩]) rfl hB rfl Tryz.underlying95 Tryz.sizeOf9 Tryz.zeroValue9 (by decide) (by decide) (by kernel_rfl) rfl rfl ?_
            have hh := hS43 
            rw [hF] at hh
            exact VA.to hh (by decide +kernel) (Le.mk hB [0] ⟨rfl, rfl, rfl, rfl, rfl, rfl, rfl, rfl, rfl, rfl, rfl, rfl, rfl, rfl, rfl, rfl, rfl, rfl, rfl, rfl, rfl, rfl, rfl, trivial⟩ rfl rfl (Nat.le_refl _))
          ·
            refine OpE.buildSlice (zc := #[.int .i64 0, .int .i64 0, .int .i64 0]) rfl hB rfl Tryz.underlying22 Tryz.sizeOf3 Tryz.zeroValue3 (by decide) (by decide) (by kernel_rfl) rfl rfl ?_
            have hh := hS45 
            rw [hF] at hh
            exact VA.to hh (by decide +kernel) (Le.mk hB [0] ⟨rfl, rfl, rfl, rfl, rfl, rfl, rfl, rfl, rfl, rfl, rfl, rfl, rfl, rfl, rfl, rfl, rfl, rfl, rfl, rfl, rfl, rfl, rfl, trivial⟩ rfl rfl (Nat.le_refl _))
        have hS56 : F 23 (lstB 67 [0, 1, 2, 3, 4, 5, 6, 7, 8, 9, 10, 11, 12, 13, 16, 17, 18, 19, 20, 21, 22, 23, 24, 27, 28, 29, 30, 31, 34, 35, 36, 37, 38, 39, 41, 42, 43, 44, 45, 46, 47, 48, 49, 50]) ⟨[(0, sp p), (53, sp p), (64, sp p), (75, sp p), (82, sp p), (89, sp p), (48, (pO gr (0 + i * 5))), (49, (pO gr (0 + i * 5))), (50, (pO gr (0 + i * 5))), (51, (pO gr (0 + i * 5))), (52, (pO gr (0 + i * 5))), (57, avS (xO l i).key), (61, avS (xO l i).key), (68, avS (xO l i).product), (72, avS (xO l i).product), (79, avI (xO l i).count), (86, avI (xO l i).ready), (93, avI (xO l i).due), (97, avI (xO l i).due), (5, .v (.slice (some ⟨gr, 0, none⟩) l.length cap)), (87, (iO 3 [avI (xO l i).ready, avI (-1), avI 345686400000])), (98, (iO 3 [avI (xO l i).due, avI (xO l i).due, avI 345686400000]))], [.box gr ⟨rowL l, 35, cap * 5⟩], k + 1 + 4 * q + 1 + 1⟩ := by
          rw [hF]
          refine VA.all (rs := [14, 25, 32]) (by decide +kernel) (by decide) ?_
          refine ⟨⟨_, rfl, .inl rfl, ?_⟩, ⟨_, rfl, .inl rfl, ?_⟩, ⟨_, rfl, .inl rfl, ?_⟩, trivial⟩
          ·
            refine OpE.buildSlice (zc := #[.string ⟨#[]⟩, .string ⟨#[]⟩, .string ⟨#[]⟩, .string ⟨#[]⟩]) rfl hB rfl Tryz.underlying95 Tryz.sizeOf9 Tryz.zeroValue9 (by decide) (by decide) (by kernel_rfl) rfl rfl ?_
            have hh := hS41 
            rw [hF] at hh
            exact VA.to hh (by decide +kernel) (Le.mk hB [0] ⟨rfl, rfl, rfl, rfl, rfl, rfl, rfl, rfl, rfl, rfl, rfl, rfl, rfl, rfl, rfl, rfl, rfl, rfl, rfl, rfl, rfl, rfl, rfl, trivial⟩ rfl rfl (Nat.le_refl _))
          ·
            refine OpE.buildSlice (zc := #[.string ⟨#[]⟩, .string ⟨#[]⟩, .string ⟨#[]⟩, .string ⟨#[]⟩]) rfl hB rfl Tryz.underlying95 Tryz.sizeOf9 Tryz.zeroValue9 (by decide) (by decide) (by kernel_rfl) rfl rfl ?_
            have hh := hS44 
            rw [hF] at hh
            exact VA.to hh (by decide +kernel) (Le.mk hB [0] ⟨rfl, rfl, rfl, rfl, rfl, rfl, rfl, rfl, rfl, rfl, rfl, rfl, rfl, rfl, rfl, rfl, rfl, rfl, rfl, rfl, rfl, rfl, rfl, trivial⟩ rfl rfl (Nat.le_refl _))
          ·
            refine OpE.buildSlice (zc := #[.int .i64 0, .int .i64 0, .int .i64 0]) rfl hB rfl Tryz.underlying22 Tryz.sizeOf3 Tryz.zeroValue3 (by decide) (by decide) (by kernel_rfl) rfl rfl ?_
            have hh := hS45 
            rw [hF] at hh
            exact VA.to hh (by decide +kernel) (Le.mk hB [0] ⟨rfl, rfl, rfl, rfl, rfl, rfl, rfl, rfl, rfl, rfl, rfl, rfl, rfl, rfl, rfl, rfl, rfl, rfl, rfl, rfl, rfl, rfl, rfl, trivial⟩ rfl rfl (Nat.le_refl _))
        have hS57 : F 24 (lstB 67 [0, 1, 2, 3, 4, 5, 6, 7, 8, 9, 10, 11, 12, 13, 14, 16, 17, 18, 19, 20, 21, 22, 23, 24, 27, 28, 29, 30, 31, 34, 35, 36, 37, 38, 41, 42, 43, 44, 45, 46, 47, 48, 49]) ⟨[(0, sp p), (53, sp p), (64, sp p), (75, sp p), (82, sp p), (89, sp p), (48, (pO gr (0 + i * 5))), (49, (pO gr (0 + i * 5))), (50, (pO gr (0 + i * 5))), (51, (pO gr (0 + i * 5))), (52, (pO gr (0 + i * 5))), (57, avS (xO l i).key), (61, avS (xO l i).key), (68, avS (xO l i).product), (72, avS (xO l i).product), (79, avI (xO l i).count), (86, avI (xO l i).ready), (93, avI (xO l i).due), (97, avI (xO l i).due), (5, .v (.slice (some ⟨gr, 0, none⟩) l.length cap)), (62, (iO 4 [avS (xO l i).key, avS (xO l i).key, avS ⟨#[]⟩, avS ⟨#[111, 97]⟩]))], [.box gr ⟨rowL l, 35, cap * 5⟩], k + 1 + 4 * q + 1 + 1⟩ := by
          rw [hF]
          refine VA.all (rs := [15, 25, 32, 39, 50]) (by decide +kernel) (by decide) ?_
          refine ⟨⟨_, rfl, .inl rfl, ?_⟩, ⟨_, rfl, .inl rfl, ?_⟩, ⟨_, rfl, .inl rfl, ?_⟩, ⟨_, rfl, .inl rfl, ?_⟩, ⟨_, rfl, .inl rfl, ?_⟩, trivial⟩
          ·
            refine OpE.callT' (k + 1 + 4 * q + 1 + 1) rfl rfl hB rfl Tryz.call32 rfl (some_Q (by rfl) (by decide) (by decide) (AllQ.cons ⟨(hok.getD i).1, (hok.getD i).2.2⟩ (AllQ.cons ⟨(hok.getD i).1, (hok.getD i).2.2⟩ (AllQ.cons (by decide) (AllQ.cons (by decide) AllQ.nil))))) (by omega) ?_
            rintro _ ⟨r63, hr63, rfl⟩
            have hh := hS46 r63 hr63
            rw [hF] at hh
            exact VA.to hh (by decide +kernel) (Le.mk hB [0] ⟨rfl, rfl, rfl, rfl, rfl, rfl, rfl, rfl, rfl, rfl, rfl, rfl, rfl, rfl, rfl, rfl, rfl, rfl, rfl, rfl, rfl, rfl, trivial⟩ rfl rfl (Nat.le_refl _))
          ·
            refine OpE.buildSlice (zc := #[.string ⟨#[]⟩, .string ⟨#[]⟩, .string ⟨#[]⟩, .string ⟨#[]⟩]) rfl hB rfl Tryz.underlying95 Tryz.sizeOf9 Tryz.zeroValue9 (by decide) (by decide) (by kernel_rfl) rfl rfl ?_
            have hh := hS47 
            rw [hF] at hh
            exact VA.to hh (by decide +kernel) (Le.mk hB [0] ⟨rfl, rfl, rfl, rfl, rfl, rfl, rfl, rfl, rfl, rfl, rfl, rfl, rfl, rfl, rfl, rfl, rfl, rfl, rfl, rfl, rfl, rfl, trivial⟩ rfl rfl (Nat.le_refl _))
          ·
            refine OpE.buildSlice (zc := #[.int .i64 0, .int .i64 0, .int .i64 0]) rfl hB rfl Tryz.underlying22 Tryz.sizeOf3 Tryz.zeroValue3 (by decide) (by decide) (by kernel_rfl) rfl rfl ?_
            have hh := hS48 
            rw [hF] at hh
            exact VA.to hh (by decide +kernel) (Le.mk hB [0] ⟨rfl, rfl, rfl, rfl, rfl, rfl, rfl, rfl, rfl, rfl, rfl, rfl, rfl, rfl, rfl, rfl, rfl, rfl, rfl, rfl, rfl, rfl, trivial⟩ rfl rfl (Nat.le_refl _))
          ·
            refine OpE.buildSlice (zc := #[.int .i64 0, .int .i64 0, .int .i64 0]) rfl hB rfl Tryz.underlying22 Tryz.sizeOf3 Tryz.zeroValue3 (by decide) (by decide) (by kernel_rfl) rfl rfl ?_
            have hh := hS49 
            rw [hF] at hh
            exact VA.to hh (by decide +kernel) (Le.mk hB [0] ⟨rfl, rfl, rfl, rfl, rfl, rfl, rfl, rfl, rfl, rfl, rfl, rfl, rfl, rfl, rfl, rfl, rfl, rfl, rfl, rfl, rfl, rfl, trivial⟩ rfl rfl (Nat.le_refl _))
          ·
            refine OpE.buildSlice (zc := #[.int .i64 0, .int .i64 0, .int .i64 0]) rfl hB rfl Tryz.underlying22 Tryz.sizeOf3 Tryz.zeroValue3 (by decide) (by decide) (by kernel_rfl) rfl rfl ?_
            have hh := hS50 
            rw [hF] at hh
            exact VA.to hh (by decide +kernel) (Le.mk hB [0] ⟨rfl, rfl, rfl, rfl, rfl, rfl, rfl, rfl, rfl, rfl, rfl, rfl, rfl, rfl, rfl, rfl, rfl, rfl, rfl, rfl, rfl, rfl, trivial⟩ rfl rfl (Nat.le_refl _))
        have hS58 : F 24 (lstB 67 [0, 1, 2, 3, 4, 5, 6, 7, 8, 9, 10, 11, 12, 13, 16, 17, 18, 19, 20, 21, 22, 23, 24, 25, 27, 28, 29, 30, 31, 34, 35, 36, 37, 38, 41, 42, 43, 44, 45, 46, 47, 48, 49]) ⟨[(0, sp p), (53, sp p), (64, sp p), (75, sp p), (82, sp p), (89, sp p), (48, (pO gr (0 + i * 5))), (49, (pO gr (0 + i * 5))), (50, (pO gr (0 + i * 5))), (51, (pO gr (0 + i * 5))), (52, (pO gr (0 + i * 5))), (57, avS (xO l i).key), (61, avS (xO l i).key), (68, avS (xO l i).product), (72, avS (xO l i).product), (79, avI (xO l i).count), (86, avI (xO l i).ready), (93, avI (xO l i).due), (97, avI (xO l i).due), (5, .v (.slice (some ⟨gr, 0, none⟩) l.length cap)), (73, (iO 4 [avS (xO l i).product, avS (xO l i).product, avS ⟨#[122, 122]⟩, avS ⟨#[]⟩]))], [.box gr ⟨rowL l, 35, cap * 5⟩], k + 1 + 4 * q + 1 + 1⟩ := by
          rw [hF]
          refine VA.all (rs := [14, 32, 39, 50]) (by decide +kernel) (by decide) ?_
          refine ⟨⟨_, rfl, .inl rfl, ?_⟩, ⟨_, rfl, .inl rfl, ?_⟩, ⟨_, rfl, .inl rfl, ?_⟩, ⟨_, rfl, .inl rfl, ?_⟩, trivial⟩
          ·
            refine OpE.buildSlice (zc := #[.string ⟨#[]⟩, .string ⟨#[]⟩, .string ⟨#[]⟩, .string ⟨#[]⟩]) rfl hB rfl Tryz.underlying95 Tryz.sizeOf9 Tryz.zeroValue9 (by decide) (by decide) (by kernel_rfl) rfl rfl ?_
            have hh := hS47 
            rw [hF] at hh
            exact VA.to hh (by decide +kernel) (Le.mk hB [0] ⟨rfl, rfl, rfl, rfl, rfl, rfl, rfl, rfl, rfl, rfl, rfl, rfl, rfl, rfl, rfl, rfl, rfl, rfl, rfl, rfl, rfl, rfl, trivial⟩ rfl rfl (Nat.le_refl _))
          ·
            refine OpE.buildSlice (zc := #[.int .i64 0, .int .i64 0, .int .i64 0]) rfl hB rfl Tryz.underlying22 Tryz.sizeOf3 Tryz.zeroValue3 (by decide) (by decide) (by kernel_rfl) rfl rfl ?_
            have hh := hS51 
            rw [hF] at hh
            exact VA.to hh (by decide +kernel) (Le.mk hB [0] ⟨rfl, rfl, rfl, rfl, rfl, rfl, rfl, rfl, rfl, rfl, rfl, rfl, rfl, rfl, rfl, rfl, rfl, rfl, rfl, rfl, rfl, rfl, trivial⟩ rfl rfl (Nat.le_refl _))
          ·
            refine OpE.buildSlice (zc := #[.int .i64 0, .int .i64 0, .int .i64 0]) rfl hB rfl Tryz.underlying22 Tryz.sizeOf3 Tryz.zeroValue3 (by decide) (by decide) (by kernel_rfl) rfl rfl ?_
            have hh := hS52 
            rw [hF] at hh
            exact VA.to hh (by decide +kernel) (Le.mk hB [0] ⟨rfl, rfl, rfl, rfl, rfl, rfl, rfl, rfl, rfl, rfl, rfl, rfl, rfl, rfl, rfl, rfl, rfl, rfl, rfl, rfl, rfl, rfl, trivial⟩ rfl rfl (Nat.le_refl _))
          ·
            refine OpE.buildSlice (zc := #[.int .i64 0, .int .i64 0, .int .i64 0]) rfl hB rfl Tryz.underlying22 Tryz.sizeOf3 Tryz.zeroValue3 (by decide) (by decide) (by kernel_rfl) rfl rfl ?_
            have hh := hS53 
            rw [hF] at hh
            exact VA.to hh (by decide +kernel) (Le.mk hB [0] ⟨rfl, rfl, rfl, rfl, rfl, rfl, rfl, rfl, rfl, rfl, rfl, rfl, rfl, rfl, rfl, rfl, rfl, rfl, rfl, rfl, rfl, rfl, trivial⟩ rfl rfl (Nat.le_refl _))
        have hS59 : F 24 (lstB 67 [0, 1, 2, 3, 4, 5, 6, 7, 8, 9, 10, 11, 12, 13, 16, 17, 18, 19, 20, 21, 22, 23, 24, 27, 28, 29, 30, 31, 32, 34, 35, 36, 37, 38, 41, 42, 43, 44, 45, 46, 47, 48, 49]) ⟨[(0, sp p), (53, sp p), (64, sp p), (75, sp p), (82, sp p), (89, sp p), (48, (pO gr (0 + i * 5))), (49, (pO gr (0 + i * 5))), (50, (pO gr (0 + i * 5))), (51, (pO gr (0 + i * 5))), (52, (pO gr (0 + i * 5))), (57, avS (xO l i).key), (61, avS (xO l i).key), (68, avS (xO l i).product), (72, avS (xO l i).product), (79, avI (xO l i).count), (86, avI (xO l i).ready), (93, avI (xO l i).due), (97, avI (xO l i).due), (5, .v (.slice (some ⟨gr, 0, none⟩) l.length cap)), (80, (iO 3 [avI (xO l i).count, avI 0, avI 100001]))], [.box gr ⟨rowL l, 35, cap * 5⟩], k + 1 + 4 * q + 1 + 1⟩ := by
          rw [hF]
          refine VA.all (rs := [14, 25, 39, 50]) (by decide +kernel) (by decide) ?_
          refine ⟨⟨_, rfl, .inl rfl, ?_⟩, ⟨_, rfl, .inl rfl, ?_⟩, ⟨_, rfl, .inl rfl, ?_⟩, ⟨_, rfl, .inl rfl, ?_⟩, trivial⟩
          ·
            refine OpE.buildSlice (zc := #[.string ⟨#[]⟩, .string ⟨#[]⟩, .string ⟨#[]⟩, .string ⟨#[]⟩]) rfl hB rfl Tryz.underlying95 Tryz.sizeOf9 Tryz.zeroValue9 (by decide) (by decide) (by kernel_rfl) rfl rfl ?_
            have hh := hS48 
            rw [hF] at hh
            exact VA.to hh (by decide +kernel) (Le.mk hB [0] ⟨rfl, rfl, rfl, rfl, rfl, rfl, rfl, rfl, rfl, rfl, rfl, rfl, rfl, rfl, rfl, rfl, rfl, rfl, rfl, rfl, rfl, rfl, trivial⟩ rfl rfl (Nat.le_refl _))
          ·
            refine OpE.buildSlice (zc := #[.string ⟨#[]⟩, .string ⟨#[]⟩, .string ⟨#[]⟩, .string ⟨#[]⟩]) rfl hB rfl Tryz.underlying95 Tryz.sizeOf9 Tryz.zeroValue9 (by decide) (by decide) (by kernel_rfl) rfl rfl ?_
            have hh := hS51 
            rw [hF] at hh
            exact VA.to hh (by decide +kernel) (Le.mk hB [0] ⟨rfl, rfl, rfl, rfl, rfl, rfl, rfl, rfl, rfl, rfl, rfl, rfl, rfl, rfl, rfl, rfl, rfl, rfl, rfl, rfl, rfl, rfl, trivial⟩ rfl rfl (Nat.le_refl _))
          ·
            refine OpE.buildSlice (zc := #[.int .i64 0, .int .i64 0, .int .i64 0]) rfl hB rfl Tryz.underlying22 Tryz.sizeOf3 Tryz.zeroValue3 (by decide) (by decide) (by kernel_rfl) rfl rfl ?_
            have hh := hS54 
            rw [hF] at hh
            exact VA.to hh (by decide +kernel) (Le.mk hB [0] ⟨rfl, rfl, rfl, rfl, rfl, rfl, rfl, rfl, rfl, rfl, rfl, rfl, rfl, rfl, rfl, rfl, rfl, rfl, rfl, rfl, rfl, rfl, trivial⟩ rfl rfl (Nat.le_refl _))
          ·
            refine OpE.buildSlice (zc := #[.int .i64 0, .int .i64 0, .int .i64 0]) rfl hB rfl Tryz.underlying22 Tryz.sizeOf3 Tryz.zeroValue3 (by decide) (by decide) (by kernel_rfl) rfl rfl ?_
            have hh := hS55 
            rw [hF] at hh
            exact VA.to hh (by decide +kernel) (Le.mk hB [0] ⟨rfl, rfl, rfl, rfl, rfl, rfl, rfl, rfl, rfl, rfl, rfl, rfl, rfl, rfl, rfl, rfl, rfl, rfl, rfl, rfl, rfl, rfl, trivial⟩ rfl rfl (Nat.le_refl _))
        have hS60 : F 24 (lstB 67 [0, 1, 2, 3, 4, 5, 6, 7, 8, 9, 10, 11, 12, 13, 16, 17, 18, 19, 20, 21, 22, 23, 24, 27, 28, 29, 30, 31, 34, 35, 36, 37, 38, 39, 41, 42, 43, 44, 45, 46, 47, 48, 49]) ⟨[(0, sp p), (53, sp p), (64, sp p), (75, sp p), (82, sp p), (89, sp p), (48, (pO gr (0 + i * 5))), (49, (pO gr (0 + i * 5))), (50, (pO gr (0 + i * 5))), (51, (pO gr (0 + i * 5))), (52, (pO gr (0 + i * 5))), (57, avS (xO l i).key), (61, avS (xO l i).key), (68, avS (xO l i).product), (72, avS (xO l i).product), (79, avI (xO l i).count), (86, avI (xO l i).ready), (93, avI (xO l i).due), (97, avI (xO l i).due), (5, .v (.slice (some ⟨gr, 0, none⟩) l.length cap)), (87, (iO 3 [avI (xO l i).ready, avI (-1), avI 345686400000]))], [.box gr ⟨rowL l, 35, cap * 5⟩], k + 1 + 4 * q + 1 + 1⟩ := by
          rw [hF]
          refine VA.all (rs := [14, 25, 32, 50]) (by decide +kernel) (by decide) ?_
          refine ⟨⟨_, rfl, .inl rfl, ?_⟩, ⟨_, rfl, .inl rfl, ?_⟩, ⟨_, rfl, .inl rfl, ?_⟩, ⟨_, rfl, .inl rfl, ?_⟩, trivial⟩
          ·
            refine OpE.buildSlice (zc := #[.string ⟨#[]⟩, .string ⟨#[]⟩, .string ⟨#[]⟩, .string ⟨#[]⟩]) rfl hB rfl Tryz.underlying95 Tryz.sizeOf9 Tryz.zeroValue9 (by decide) (by decide) (by kernel_rfl) rfl rfl ?_
            have hh := hS49 
            rw [hF] at hh
            exact VA.to hh (by decide +kernel) (Le.mk hB [0] ⟨rfl, rfl, rfl, rfl, rfl, rfl, rfl, rfl, rfl, rfl, rfl, rfl, rfl, rfl, rfl, rfl, rfl, rfl, rfl, rfl, rfl, rfl, trivial⟩ rfl rfl (Nat.le_refl _))
          ·
            refine OpE.buildSlice (zc := #[.string ⟨#[]⟩, .string ⟨#[]⟩, .string ⟨#[]⟩, .string ⟨#[]⟩]) rfl hB rfl Tryz.underlying95 Tryz.sizeOf9 Tryz.zeroValue9 (by decide) (by decide) (by kernel_rfl) rfl rfl ?_
            have hh := hS52 
            rw [hF] at hh
            exact VA.to hh (by decide +kernel) (Le.mk hB [0] ⟨rfl, rfl, rfl, rfl, rfl, rfl, rfl, rfl, rfl, rfl, rfl, rfl, rfl, rfl, rfl, rfl, rfl, rfl, rfl, rfl, rfl, rfl, trivial⟩ rfl rfl (Nat.le_refl _))
          ·
            refine OpE.buildSlice (zc := #[.int .i64 0, .int .i64 0, .int .i64 0]) rfl hB rfl Tryz.underlying22 Tryz.sizeOf3 Tryz.zeroValue3 (by decide) (by decide) (by kernel_rfl) rfl rfl ?_
            have hh := hS54 
            rw [hF] at hh
            exact VA.to hh (by decide +kernel) (Le.mk hB [0] ⟨rfl, rfl, rfl, rfl, rfl, rfl, rfl, rfl, rfl, rfl, rfl, rfl, rfl, rfl, rfl, rfl, rfl, rfl, rfl, rfl, rfl, rfl, trivial⟩ rfl rfl (Nat.le_refl _))
          ·
            refine OpE.buildSlice (zc := #[.int .i64 0, .int .i64 0, .int .i64 0]) rfl hB rfl Tryz.underlying22 Tryz.sizeOf3 Tryz.zeroValue3 (by decide) (by decide) (by kernel_rfl) rfl rfl ?_
            have hh := hS56 
            rw [hF] at hh
            exact VA.to hh (by decide +kernel) (Le.mk hB [0] ⟨rfl, rfl, rfl, rfl, rfl, rfl, rfl, rfl, rfl, rfl, rfl, rfl, rfl, rfl, rfl, rfl, rfl, rfl, rfl, rfl, rfl, rfl, trivial⟩ rfl rfl (Nat.le_refl _))
        have hS61 : F 24 (lstB 67 [0, 1, 2, 3, 4, 5, 6, 7, 8, 9, 10, 11, 12, 13, 16, 17, 18, 19, 20, 21, 22, 23, 24, 27, 28, 29, 30, 31, 34, 35, 36, 37, 38, 41, 42, 43, 44, 45, 46, 47, 48, 49, 50]) ⟨[(0, sp p), (53, sp p), (64, sp p), (75, sp p), (82, sp p), (89, sp p), (48, (pO gr (0 + i * 5))), (49, (pO gr (0 + i * 5))), (50, (pO gr (0 + i * 5))), (51, (pO gr (0 + i * 5))), (52, (pO gr (0 + i * 5))), (57, avS (xO l i).key), (61, avS (xO l i).key), (68, avS (xO l i).product), (72, avS (xO l i).product), (79, avI (xO l i).count), (86, avI (xO l i).ready), (93, avI (xO l i).due), (97, avI (xO l i).due), (5, .v (.slice (some ⟨gr, 0, none⟩) l.length cap)), (98, (iO 3 [avI (xO l i).due, avI (xO l i).due, avI 345686400000]))], [.box gr ⟨rowL l, 35, cap * 5⟩], k + 1 + 4 * q + 1 + 1⟩ := by
          rw [hF]
          refine VA.all (rs := [14, 25, 32, 39]) (by decide +kernel) (by decide) ?_
          refine ⟨⟨_, rfl, .inl rfl, ?_⟩, ⟨_, rfl, .inl rfl, ?_⟩, ⟨_, rfl, .inl rfl, ?_⟩, ⟨_, rfl, .inl rfl, ?_⟩, trivial⟩
          ·
            refine OpE.buildSlice (zc := #[.string ⟨#[]⟩, .string ⟨#[]⟩, .string ⟨#[]⟩, .string ⟨#[]⟩]) rfl hB rfl Tryz.underlying95 Tryz.sizeOf9 Tryz.zeroValue9 (by decide) (by decide) (by kernel_rfl) rfl rfl ?_
            have hh := hS50 
            rw [hF] at hh
            exact VA.to hh (by decide +kernel) (Le.mk hB [0] ⟨rfl, rfl, rfl, rfl, rfl, rfl, rfl, rfl, rfl, rfl, rfl, rfl, rfl, rfl, rfl, rfl, rfl, rfl, rfl, rfl, rfl, rfl, trivial⟩ rfl rfl (Nat.le_refl _))
          ·
            refine OpE.buildSlice (zc := #[.string ⟨#[]⟩, .string ⟨#[]⟩, .string ⟨#[]⟩, .string ⟨#[]⟩]) rfl hB rfl Tryz.underlying95 Tryz.sizeOf9 Tryz.zeroValue9 (by decide) (by decide) (by kernel_rfl) rfl rfl ?_
            have hh := hS53 
            rw [hF] at hh
            exact VA.to hh (by decide +kernel) (Le.mk hB [0] ⟨rfl, rfl, rfl, rfl, rfl, rfl, rfl, rfl, rfl, rfl, rfl, rfl, rfl, rfl, rfl, rfl, rfl, rfl, rfl, rfl, rfl, rfl, trivial⟩ rfl rfl (Nat.le_refl _))
          ·
            refine OpE.buildSlice (zc := #[.int .i64 0, .int .i64 0, .int .i64 0]) rfl hB rfl Tryz.underlying22 Tryz.sizeOf3 Tryz.zeroValue3 (by decide) (by decide) (by kernel_rfl) rfl rfl ?_
            have hh := hS55 
            rw [hF] at hh
            exact VA.to hh (by decide +kernel) (Le.mk hB [0] ⟨rfl, rfl, rfl, rfl, rfl, rfl, rfl, rfl, rfl, rfl, rfl, rfl, rfl, rfl, rfl, rfl, rfl, rfl, rfl, rfl, rfl, rfl, trivial⟩ rfl rfl (Nat.le_refl _))
          ·
            refine OpE.buildSlice (zc := #[.int .i64 0, .int .i64 0, .int .i64 0]) rfl hB rfl Tryz.underlying22 Tryz.sizeOf3 Tryz.zeroValue3 (by decide) (by decide) (by kernel_rfl) rfl rfl ?_
            have hh := hS56 
            rw [hF] at hh
            exact VA.to hh (by decide +kernel) (Le.mk hB [0] ⟨rfl, rfl, rfl, rfl, rfl, rfl, rfl, rfl, rfl, rfl, rfl, rfl, rfl, rfl, rfl, rfl, rfl, rfl, rfl, rfl, rfl, rfl, trivial⟩ rfl rfl (Nat.le_refl _))
        have hS62 : F 25 (lstB 67 [0, 1, 2, 3, 4, 5, 6, 7, 8, 9, 10, 11, 12, 13, 16, 17, 18, 19, 20, 21, 22, 23, 24, 27, 28, 29, 30, 31, 34, 35, 36, 37, 38, 41, 42, 43, 44, 45, 46, 47, 48, 49]) ⟨[(0, sp p), (53, sp p), (64, sp p), (75, sp p), (82, sp p), (89, sp p), (48, (pO gr (0 + i * 5))), (49, (pO gr (0 + i * 5))), (50, (pO gr (0 + i * 5))), (51, (pO gr (0 + i * 5))), (52, (pO gr (0 + i * 5))), (57, avS (xO l i).key), (61, avS (xO l i).key), (68, avS (xO l i).product), (72, avS (xO l i).product), (79, avI (xO l i).count), (86, avI (xO l i).ready), (93, avI (xO l i).due), (97, avI (xO l i).due), (5, .v (.slice (some ⟨gr, 0, none⟩) l.length cap))], [.box gr ⟨rowL l, 35, cap * 5⟩], k + 1 + 4 * q + 1 + 1⟩ := by
          rw [hF]
          refine VA.all (rs := [14, 25, 32, 39, 50]) (by decide +kernel) (by decide) ?_
          refine ⟨⟨_, rfl, .inl rfl, ?_⟩, ⟨_, rfl, .inl rfl, ?_⟩, ⟨_, rfl, .inl rfl, ?_⟩, ⟨_, rfl, .inl rfl, ?_⟩, ⟨_, rfl, .inl rfl, ?_⟩, trivial⟩
          ·
            refine OpE.buildSlice (zc := #[.string ⟨#[]⟩, .string ⟨#[]⟩, .string ⟨#[]⟩, .string ⟨#[]⟩]) rfl hB rfl Tryz.underlying95 Tryz.sizeOf9 Tryz.zeroValue9 (by decide) (by decide) (by kernel_rfl) rfl rfl ?_
            have hh := hS57 
            rw [hF] at hh
            exact VA.to hh (by decide +kernel) (Le.mk hB [0] ⟨rfl, rfl, rfl, rfl, rfl, rfl, rfl, rfl, rfl, rfl, rfl, rfl, rfl, rfl, rfl, rfl, rfl, rfl, rfl, rfl, rfl, trivial⟩ rfl rfl (Nat.le_refl _))
          ·
            refine OpE.buildSlice (zc := #[.string ⟨#[]⟩, .string ⟨#[]⟩, .string ⟨#[]⟩, .string ⟨#[]⟩]) rfl hB rfl Tryz.underlying95 Tryz.sizeOf9 Tryz.zeroValue9 (by decide) (by decide) (by kernel_rfl) rfl rfl ?_
            have hh := hS58 
            rw [hF] at hh
            exact VA.to hh (by decide +kernel) (Le.mk hB [0] ⟨rfl, rfl, rfl, rfl, rfl, rfl, rfl, rfl, rfl, rfl, rfl, rfl, rfl, rfl, rfl, rfl, rfl, rfl, rfl, rfl, rfl, trivial⟩ rfl rfl (Nat.le_refl _))
          ·
            refine OpE.buildSlice (zc := #[.int .i64 0, .int .i64 0, .int .i64 0]) rfl hB rfl Tryz.underlying22 Tryz.sizeOf3 Tryz.zeroValue3 (by decide) (by decide) (by kernel_rfl) rfl rfl ?_
            have hh := hS59 
            rw [hF] at hh
            exact VA.to hh (by decide +kernel) (Le.mk hB [0] ⟨rfl, rfl, rfl, rfl, rfl, rfl, rfl, rfl, rfl, rfl, rfl, rfl, rfl, rfl, rfl, rfl, rfl, rfl, rfl, rfl, rfl, trivial⟩ rfl rfl (Nat.le_refl _))
          ·
            refine OpE.buildSlice (zc := #[.int .i64 0, .int .i64 0, .int .i64 0]) rfl hB rfl Tryz.underlying22 Tryz.sizeOf3 Tryz.zeroValue3 (by decide) (by decide) (by kernel_rfl) rfl rfl ?_
            have hh := hS60 
            rw [hF] at hh
            exact VA.to hh (by decide +kernel) (Le.mk hB [0] ⟨rfl, rfl, rfl, rfl, rfl, rfl, rfl, rfl, rfl, rfl, rfl, rfl, rfl, rfl, rfl, rfl, rfl, rfl, rfl, rfl, rfl, trivial⟩ rfl rfl (Nat.le_refl _))
          ·
            refine OpE.buildSlice (zc := #[.int .i64 0, .int .i64 0, .int .i64 0]) rfl hB rfl Tryz.underlying22 Tryz.sizeOf3 Tryz.zeroValue3 (by decide) (by decide) (by kernel_rfl) rfl rfl ?_
            have hh := hS61 
            rw [hF] at hh
            exact VA.to hh (by decide +kernel) (Le.mk hB [0] ⟨rfl, rfl, rfl, rfl, rfl, rfl, rfl, rfl, rfl, rfl, rfl, rfl, rfl, rfl, rfl, rfl, rfl, rfl, rfl, rfl, rfl, trivial⟩ rfl rfl (Nat.le_refl _))
        rw [hF]
        have hh := hS62 
        rw [hF] at hh
        exact VA.to hh (by decide +kernel) (Le.mk hB [0] ⟨rfl, rfl, rfl, rfl, rfl, rfl, rfl, rfl, rfl, rfl, rfl, rfl, rfl, rfl, rfl, rfl, rfl, rfl, rfl, rfl, trivial⟩ rfl rfl (Nat.le_refl _))
      · have aH3 := aH3b
        try simp only [qqT, qqF, qqN, qqM, qqL, qqE] at aH3
        refine VC.skip ?_
        refine VC.sr ?_
        refine VO.mv rfl rfl rfl rfl ?_
        refine VO.ma rfl rfl rfl rfl ?_
        refine VO.nil ?_
        skip
        refine VC.ret ?_
        exact Exists.intro _ (And.intro (RetV.one Tryz.results16 (ResV.tmp rfl)) (And.intro (by first | exact ⟨l, _, ⟨by omega, hok⟩, rfl, rfl⟩ | exact ⟨(((((l.set i ({l.getD i default with key := r63} : OrdrS)).set i ({l.getD i default with key := r63, product := r74} : OrdrS)).set i ({l.getD i default with key := r63, product := r74, count := r81} : OrdrS)).set i ({l.getD i default with key := r63, product := r74, count := r81, ready := r88} : OrdrS)).set i ({l.getD i default with key := r63, product := r74, count := r81, ready := r88, due := r99} : OrdrS)), _, ⟨by simp; omega, by repeat (first | exact hok | refine OOk.set ?_ _ ⟨by first | exact hr63.1 | exact (hok.getD i).1, by first | exact hr74 | exact (hok.getD i).2.1, by first | exact hr63.2 | exact (hok.getD i).2.2⟩)⟩, rfl, by simp only [List.length_set]; rfl⟩) ((show k + 1 + 4 * q + 1 ≤ k + 100 by omega))))
    · replace aK2b : _ = false := aK2b
      have aK2 := aK2b
      try simp only [qqT, qqF, qqN, qqM, qqL, qqE] at aK2
      refine VO.opX rfl rfl rfl rfl aK2b ?_
      refine VO.val rfl rfl (OpV.pickF rfl rfl rfl rfl aK2b) ?_
      refine VO.nil ?_
      refine VC.condF rfl rfl ?_
      refine VC.skip ?_
      refine VC.sr ?_
      refine VO.mv rfl rfl rfl rfl ?_
      refine VO.ma rfl rfl rfl rfl ?_
      refine VO.nil ?_
      skip
      refine VC.ret ?_
      exact Exists.intro _ (And.intro (RetV.one Tryz.results16 (ResV.tmp rfl)) (And.intro (by first | exact ⟨l, _, ⟨by omega, hok⟩, rfl, rfl⟩ | exact ⟨(((((l.set i ({l.getD i default with key := r63} : OrdrS)).set i ({l.getD i default with key := r63, product := r74} : OrdrS)).set i ({l.getD i default with key := r63, product := r74, count := r81} : OrdrS)).set i ({l.getD i default with key := r63, product := r74, count := r81, ready := r88} : OrdrS)).set i ({l.getD i default with key := r63, product := r74, count := r81, ready := r88, due := r99} : OrdrS)), _, ⟨by simp; omega, by repeat (first | exact hok | refine OOk.set ?_ _ ⟨by first | exact hr63.1 | exact (hok.getD i).1, by first | exact hr74 | exact (hok.getD i).2.1, by first | exact hr63.2 | exact (hok.getD i).2.2⟩)⟩, rfl, by simp only [List.length_set]; rfl⟩) ((show k + 1 + 4 * q ≤ k + 100 by omega))))
end Go.Proofs.YtmahammdnmmmoaaGreatDoor
namespace Go.Proofs.YtmahammdnmmmoaaGreatDoor
open Go.RowKit
set_option linter.unusedVariables false
set_option linter.unusedSimpArgs false

theorem bl_irr : ∀ x : List UInt8, Op.bytesLess x x = false
 | [] => rfl
 | a :: x => by
  rw [Op.bytesLess, bl_irr x]
  have : ¬ a < a := by rw [UInt8.lt_iff_toNat_lt]; omega
  simp [this]
theorem bl_trans : ∀ {x y z : List UInt8}, Op.bytesLess x y = true → Op.bytesLess y z = true → Op.bytesLess x z = true
 | _, [], _, h, _ => by simp [Op.bytesLess] at h
 | _, _ :: _, [], _, h => by simp [Op.bytesLess] at h
 | [], _ :: _, _ :: _, _, _ => rfl
 | a :: x, b :: y, c :: z, h1, h2 => by
  simp only [Op.bytesLess, Bool.or_eq_true, decide_eq_true_eq, Bool.and_eq_true, beq_iff_eq, UInt8.lt_iff_toNat_lt] at h1 h2 ⊢
  rcases h1 with h1 | ⟨rfl, h1⟩
  ·rcases h2 with h2 | ⟨rfl, h2⟩
   ·exact .inl (by omega)
   ·exact .inl h1
  ·rcases h2 with h2 | ⟨rfl, h2⟩
   ·exact .inl h2
   ·exact .inr ⟨rfl, bl_trans h1 h2⟩
theorem bl_total : ∀ {x y : List UInt8}, Op.bytesLess x y = false → x ≠ y → Op.bytesLess y x = true
 | [], [], _, h => absurd rfl h
 | _ :: _, [], _, _ => rfl
 | [], _ :: _, h, _ => by simp [Op.bytesLess] at h
 | a :: x, b :: y, h, hne => by
  simp only [Op.bytesLess, Bool.or_eq_false_iff, decide_eq_false_iff_not, Bool.and_eq_false_iff, beq_eq_false_iff_ne, UInt8.lt_iff_toNat_lt, Bool.or_eq_true, decide_eq_true_eq, Bool.and_eq_true, beq_iff_eq] at h ⊢
  by_cases hab : a = b
  ·subst hab
   have h2 : Op.bytesLess x y = false := by rcases h.2 with h2 | h2; exact absurd rfl h2; exact h2
   exact .inr ⟨rfl, bl_total h2 fun e => hne (by rw [e])⟩
  ·left
   have : a.toNat ≠ b.toNat := fun e => hab (UInt8.toNat_inj.1 e)
   omega
theorem sLt_irr (p : ByteArray) : sLt p p = false := bl_irr _
theorem sLt_trans {p q r : ByteArray} (h1 : sLt p q = true) (h2 : sLt q r = true) : sLt p r = true := bl_trans h1 h2
theorem sLt_of_not {p q : ByteArray} (h : sLe p q = false) : sLt q p = true := by
 unfold sLe at h
 rw [Bool.or_eq_false_iff] at h
 refine bl_total h.1 fun e => ?_
 have : sEq p q = true := by unfold sEq; rw [e]; simp
 rw [this] at h; cases h.2
def SortS (l : List ByteArray) : Prop := ∀ a b, a < b → b < l.length → sLt (l.getD a ByteArray.empty) (l.getD b ByteArray.empty) = true
section
variable {xs : List ByteArray} {v : ByteArray} {i : Nat}
end

end Go.Proofs.YtmahammdnmmmoaaGreatDoor
namespace Go.Proofs.YtmahammdnmmmoaaGreatDoor
open Go.RowKit
set_option linter.unusedVariables false
set_option linter.unusedSimpArgs false
def cmpB (a b : ByteArray) : Int := Lib.compareBytes a.data.toList b.data.toList
theorem strings_Compare_S {a b : ByteArray} : SpecN Tryz.prog 194 [avS a, avS b] (fun y => y = avI (cmpB a b)) := by
 intro w us ha
 rw [argsV2 ha]
 refine (Tryz.strings_Compare a b w).mono ?_
 rintro e w' ⟨rfl, rfl⟩
 exact ⟨_, _, rfl, rfl, .v _, Chg.refl _ _, trivial⟩
theorem cmp_lt : ∀ x y : List UInt8, decide (Lib.compareBytes x y < 0) = Op.bytesLess x y
 | [], [] => rfl
 | [], _ :: _ => rfl
 | _ :: _, [] => rfl
 | a :: x, b :: y => by
  unfold Lib.compareBytes Op.bytesLess
  have ih := cmp_lt x y
  by_cases h1 : a < b
  ·simp [h1]
  ·by_cases h2 : b < a
   ·simp [h1, h2]
    intro e; subst e; exact absurd h2 (UInt8.lt_irrefl _)
   ·have e : a = b := UInt8.le_antisymm (UInt8.not_lt.1 h2) (UInt8.not_lt.1 h1)
    subst e
    simp [UInt8.lt_irrefl]
    simpa using ih
theorem cmpB_lt (a b : ByteArray) : decide (cmpB a b < 0) = sLt a b := by
 unfold sLt
 rw [Lib.toList_data, Lib.toList_data]
 exact cmp_lt _ _
theorem cmp_eq : ∀ {x y : List UInt8}, Lib.compareBytes x y = 0 ↔ x = y
 | [], [] => by simp [Lib.compareBytes]
 | [], _ :: _ => by simp [Lib.compareBytes]
 | _ :: _, [] => by simp [Lib.compareBytes]
 | a :: x, b :: y => by
  unfold Lib.compareBytes
  by_cases h1 : a < b
  ·simp [h1]
   intro e; subst e; exact absurd h1 (UInt8.lt_irrefl _)
  ·by_cases h2 : b < a
   ·simp [h1, h2]
    intro e; subst e; exact absurd h2 (UInt8.lt_irrefl _)
   ·have e : a = b := UInt8.le_antisymm (UInt8.not_lt.1 h2) (UInt8.not_lt.1 h1)
    subst e
    simp [UInt8.lt_irrefl, cmp_eq]
theorem cmpB_eq {a b : ByteArray} : cmpB a b = 0 ↔ a = b := by
 unfold cmpB
 rw [cmp_eq]
 constructor
 ·intro h
  cases a; cases b
  simpa using h
 ·intro h; rw [h]
theorem sLt_total {a b : ByteArray} (h : sLt a b = false) (hne : a ≠ b) : sLt b a = true := by
 unfold sLt at h ⊢
 rw [Lib.toList_data, Lib.toList_data] at h ⊢
 exact bl_total h fun e => hne (by cases a; cases b; simpa using e)
section
variable {α : Type} {k : α → ByteArray}
end
end Go.Proofs.YtmahammdnmmmoaaGreatDoor
namespace Go.Proofs.YtmahammdnmmmoaaGreatDoor
set_option linter.unusedVariables false
set_option linter.unusedSimpArgs false
def lowK {α : Type} (key : α → ByteArray) (l : List α) (k : ByteArray) : Nat := (l.takeWhile fun x => sLt (key x) k).length
theorem lowK_le {α : Type} {key : α → ByteArray} {l : List α} {k : ByteArray} : lowK key l k ≤ l.length := by
 unfold lowK
 exact (List.takeWhile_sublist _).length_le
section
variable {α : Type} [Inhabited α] (key : α → ByteArray) (l : List α) (k : ByteArray)
def RiseK : Prop := ∀ j, 0 < j → j < l.length → sLe (key (l.getD j default)) (key (l.getD (j - 1) default)) = false
variable {key l k}
theorem takeWhile_at {p : α → Bool} : ∀ (l : List α) (j : Nat), j < (l.takeWhile p).length → p (l.getD j default) = true
 | [], j, h => by simp at h
 | x :: l, j, h => by
  rw [List.takeWhile_cons] at h
  split at h
  ·rename_i hx
   cases j with
   | zero => simpa using hx
   | succ j => simpa using takeWhile_at l j (by simpa using h)
  ·simp at h
theorem takeWhile_end {p : α → Bool} : ∀ (l : List α), (l.takeWhile p).length < l.length → p (l.getD (l.takeWhile p).length default) = false
 | [], h => by simp at h
 | x :: l, h => by
  rw [List.takeWhile_cons] at h ⊢
  split
  ·rename_i hx
   rw [if_pos hx] at h
   simpa using takeWhile_end l (by simpa using h)
  ·rename_i hx
   simpa using hx
theorem lowK_lt {j : Nat} (h : j < lowK key l k) : sLt (key (l.getD j default)) k = true := takeWhile_at (p := fun x => sLt (key x) k) l j h
theorem rise_step {a b : ByteArray} (h : sLe b a = false) : sLt a b = true := by
 unfold sLe at h
 rw [Bool.or_eq_false_iff] at h
 exact sLt_total h.1 fun e => by rw [e, sEq_eq.2 rfl] at h; cases h.2
theorem rise_lt (hr : RiseK key l) : ∀ (i j : Nat), i < j → j < l.length → sLt (key (l.getD i default)) (key (l.getD j default)) = true
 | i, 0, h, _ => by omega
 | i, j + 1, h, hl => by
  have h1 := rise_step (hr (j + 1) (by omega) hl)
  rw [Nat.add_sub_cancel] at h1
  by_cases e : i = j
  ·subst e; exact h1
  ·exact sLt_trans (rise_lt hr i j (by omega) (by omega)) h1
theorem lowK_ge (hr : RiseK key l) {j : Nat} (h : lowK key l k ≤ j) (hj : j < l.length) : sLt (key (l.getD j default)) k = false := by
 have h0 : sLt (key (l.getD (lowK key l k) default)) k = false := takeWhile_end (p := fun x => sLt (key x) k) l (Nat.lt_of_le_of_lt h hj)
 by_cases e : j = lowK key l k
 ·rw [e]; exact h0
 ·have h1 := rise_lt hr (lowK key l k) j (by omega) hj
  cases h2 : sLt (key (l.getD j default)) k with
  | false => rfl
  | true => rw [sLt_trans h1 h2] at h0; cases h0
theorem lowK_any (hr : RiseK key l) : (decide (lowK key l k < l.length) && sEq (key (l.getD (lowK key l k) default)) k) = l.any fun x => sEq (key x) k := by
 cases hb : l.any (fun x => sEq (key x) k) with
 | true =>
  obtain ⟨x, hx, he⟩ := List.any_eq_true.1 hb
  obtain ⟨j, hj, rfl⟩ := List.getElem_of_mem hx
  have hd : l.getD j default = l[j] := by rw [List.getD_eq_getElem?_getD, List.getElem?_eq_getElem hj]; rfl
  have he' : key (l.getD j default) = k := by rw [hd]; exact sEq_eq.1 he
  have h1 : lowK key l k ≤ j := by
   rcases Nat.lt_or_ge j (lowK key l k) with h | h
   ·have := lowK_lt h; rw [he', sLt_irr] at this; cases this
   ·exact h
  have h2 : lowK key l k = j := by
   by_cases e : lowK key l k = j
   ·exact e
   ·have := rise_lt hr (lowK key l k) j (by omega) hj
    rw [he'] at this
    have := lowK_ge hr (k := k) (Nat.le_refl _) (by omega)
    simp_all
  rw [h2, he', decide_eq_true hj, sEq_eq.2 rfl]; rfl
 | false =>
  cases hc : (decide (lowK key l k < l.length) && sEq (key (l.getD (lowK key l k) default)) k) with
  | false => rfl
  | true =>
   rw [Bool.and_eq_true, decide_eq_true_eq] at hc
   rw [List.any_eq_false] at hb
   have := hb _ (List.getElem_mem hc.1)
   have hc1 := hc.1
   have hd : l.getD (lowK key l k) default = l[lowK key l k]'hc1 := by rw [List.getD_eq_getElem?_getD, List.getElem?_eq_getElem hc1]; rfl
   have hc2 := hc.2
   rw [hd] at hc2
   exact absurd hc2 this
theorem find_first {p : α → Bool} : ∀ (l : List α) (j : Nat), j < l.length → p (l.getD j default) = true → (∀ i, i < j → p (l.getD i default) = false) → (l.find? p).getD default = l.getD j default
 | [], j, h, _, _ => by simp at h
 | x :: l, 0, _, h, _ => by simp at h; simp [h]
 | x :: l, j + 1, hj, h, hn => by
  have h0 := hn 0 (by omega)
  simp at h0
  simp only [List.find?_cons, h0]
  rw [find_first l j (by simpa using hj) (by simpa using h) (fun i hi => by simpa using hn (i + 1) (by omega))]
  simp
theorem lowK_find (hr : RiseK key l) (h1 : lowK key l k < l.length) (h2 : sEq (key (l.getD (lowK key l k) default)) k = true) : (l.find? fun x => sEq (key x) k).getD default = l.getD (lowK key l k) default :=
 find_first l _ h1 h2 fun i hi => by
  have := lowK_lt hi
  cases e : sEq (key (l.getD i default)) k with
  | false => rfl
  | true => rw [sEq_eq.1 e, sLt_irr] at this; cases this
theorem find_none' {p : α → Bool} {l : List α} (h : l.any p = false) : (l.find? p).getD default = default := by
 rw [List.find?_eq_none.2 fun x hx => by rw [List.any_eq_false] at h; exact h x hx]; rfl
theorem lowK_cmp (hr : RiseK key l) : (∀ j, j < lowK key l k → cmpB (key (l.getD j default)) k < 0) ∧ (∀ j, lowK key l k ≤ j → j < l.length → 0 ≤ cmpB (key (l.getD j default)) k) := by
 refine ⟨fun j hj => ?_, fun j hj hl => ?_⟩
 ·have := lowK_lt hj
  rw [← cmpB_lt, decide_eq_true_eq] at this; exact this
 ·have := lowK_ge hr hj hl
  rw [← cmpB_lt, decide_eq_false_iff_not] at this; omega
theorem cmp_zero (a b : ByteArray) : decide (cmpB a b = 0) = sEq a b := by
 rw [sEq_dec]
 by_cases h : a = b
 ·rw [decide_eq_true h, decide_eq_true (cmpB_eq.2 h)]
 ·rw [decide_eq_false h, decide_eq_false fun e => h (cmpB_eq.1 e)]
end
theorem bsf_lo {f : Nat → Int} {s0 n h : Nat} (hhi : ∀ j, s0 ≤ j → j < n → 0 ≤ f j) (hn : h < n) (hc : f h < 0) : h + 1 ≤ s0 := by
 rcases Nat.lt_or_ge h s0 with h1 | h1
 ·exact h1
 ·have := hhi h h1 hn; omega
theorem bsf_hi {f : Nat → Int} {s0 h : Nat} (hlo : ∀ j, j < s0 → f j < 0) (hc : 0 ≤ f h) : s0 ≤ h := by
 rcases Nat.lt_or_ge h s0 with h1 | h1
 ·have := hlo h h1; omega
 ·exact h1
end Go.Proofs.YtmahammdnmmmoaaGreatDoor
namespace Go.Proofs.YtmahammdnmmmoaaGreatDoor
open Go.RowKit
set_option linter.unusedVariables false
set_option linter.unusedSimpArgs false
structure Ord (n : Nat) (o : List Int) : Prop where
 nd : o.Nodup
 lt : ∀ x ∈ o, 0 ≤ x ∧ x < n
theorem Ord.nil (n : Nat) : Ord n [] := ⟨List.nodup_nil, fun x h => by simp at h⟩
theorem Ord.snoc {n : Nat} {o : List Int} (h : Ord n o) {q : Nat} (hq : q < n) (hn : (q : Int) ∉ o) : Ord n (o ++ [(q : Int)]) := by
 refine ⟨?_, fun x hx => ?_⟩
 ·rw [List.nodup_append]
  exact ⟨h.nd, by simp, fun a ha b hb => by simp at hb; subst hb; exact fun e => hn (e ▸ ha)⟩
 ·rcases List.mem_append.1 hx with hx | hx
  ·exact h.lt x hx
  ·simp at hx; subst hx; omega
section
variable {τ : Type} (n : Nat) (step : τ → List Int → τ)
def ext : Nat → List Int → τ → τ
 | 0, o, s => step s o
 | d + 1, o, s => (List.range n).foldl (fun (s : τ) (i : Nat) => if (i : Int) ∈ o then s else ext d (o ++ [(i : Int)]) s) s
def extQ (d : Nat) (o : List Int) (s : τ) (q : Nat) : τ := (List.range q).foldl (fun (s : τ) (i : Nat) => if (i : Int) ∈ o then s else ext n step d (o ++ [(i : Int)]) s) s
theorem extQ_all (d : Nat) (o : List Int) (s : τ) : extQ n step d o s n = ext n step (d + 1) o s := rfl
variable {n step}
theorem extQ_in {d : Nat} {o : List Int} {s : τ} {q : Nat} (h : (q : Int) ∈ o) : extQ n step d o s (q + 1) = extQ n step d o s q := by
 rw [extQ, List.range_succ, List.foldl_append]
 simp [h, extQ]
theorem extQ_out {d : Nat} {o : List Int} {s : τ} {q : Nat} (h : (q : Int) ∉ o) : extQ n step d o s (q + 1) = ext n step d (o ++ [(q : Int)]) (extQ n step d o s q) := by
 rw [extQ, List.range_succ, List.foldl_append]
 simp [h, extQ]
end
def usedL (n : Nat) (o : List Int) : List AV := (List.range n).map fun (i : Nat) => avB (decide ((i : Int) ∈ o))
theorem usedL_len (n : Nat) (o : List Int) : (usedL n o).length = n := by simp [usedL]
theorem usedL_get {n : Nat} {o : List Int} {q : Nat} (h : q < n) : (usedL n o)[q]? = some (avB (decide ((q : Int) ∈ o))) := by simp [usedL, h]
theorem usedL_nil (n : Nat) : usedL n [] = List.replicate n (avB false) := by
 apply List.ext_getElem (by simp [usedL])
 intro i h1 h2
 simp [usedL]
theorem usedL_set {n : Nat} {o : List Int} {q : Nat} (h : q < n) : (usedL n o).set q (avB true) = usedL n (o ++ [(q : Int)]) := by
 apply List.ext_getElem (by simp [usedL])
 intro i h1 h2
 rw [List.getElem_set]
 by_cases e : q = i
 ·subst e; simp [usedL]
 ·rw [if_neg e]
  have : ¬ ((i : Int) = (q : Int)) := by omega
  simp [usedL, this]
theorem usedL_unset {n : Nat} {o : List Int} {q : Nat} (h : q < n) (hq : (q : Int) ∉ o) : (usedL n (o ++ [(q : Int)])).set q (avB false) = usedL n o := by
 apply List.ext_getElem (by simp [usedL])
 intro i h1 h2
 rw [List.getElem_set]
 by_cases e : q = i
 ·subst e; simp [usedL, hq]
 ·rw [if_neg e]
  have : ¬ ((i : Int) = (q : Int)) := by omega
  simp [usedL, this]
theorem usedL_make {n m : Nat} (hm : m = n) : (madeCells (Value.bool false).cells (m * 1)).toList.map AV.v = usedL n [] := by
 subst hm
 rw [usedL_nil, Nat.mul_one, show (Value.bool false).cells = #[.bool false] from rfl, toList_madeCells_one]
 simp
theorem intsL_cut {o : List Int} {q : Int} {c : Nat} (h : o.length = c) : (intsL (o ++ [q])).take c = intsL o := by
 subst h
 simp [intsL]
def idO (n : Nat) : List Int := (List.range n).map fun (i : Nat) => (i : Int)
theorem idO_len (n : Nat) : (idO n).length = n := by simp [idO]
theorem idO_ord (n : Nat) : Ord n (idO n) := ⟨by
 rw [idO, List.Nodup, List.pairwise_map]
 exact List.Pairwise.imp (fun h e => h (by omega)) List.nodup_range, fun x hx => by
 obtain ⟨i, hi, rfl⟩ := List.mem_map.1 hx
 have := List.mem_range.1 hi
 omega⟩
theorem idO_succ (n : Nat) : idO (n + 1) = idO n ++ [(n : Int)] := by simp [idO, List.range_succ]
theorem perm_of_sub : ∀ {l m : List Int}, l.Nodup → (∀ x ∈ l, x ∈ m) → m.length = l.length → l.Perm m
 | [], m, _, _, hl => by rw [List.eq_nil_of_length_eq_zero hl]
 | x :: r, m, h, hs, hl => by
  have hx := hs x (by simp)
  have hp := List.perm_cons_erase hx
  have := perm_of_sub (l := r) (m := m.erase x) (List.nodup_cons.1 h).2 (fun y hy => (List.mem_erase_of_ne (fun e => by subst e; exact (List.nodup_cons.1 h).1 hy)).2 (hs y (by simp [hy]))) (by rw [List.length_erase_of_mem hx, hl]; simp)
  exact (this.cons x).trans hp.symm
theorem Ord.perm {n : Nat} {l : List Int} (h : Ord n l) (hl : l.length = n) : l.Perm (idO n) := perm_of_sub h.nd (fun x hx => by
 have := h.lt x hx
 exact List.mem_map.2 ⟨x.toNat, List.mem_range.2 (by omega), by omega⟩) (by rw [idO_len, hl])
def sumI (f : Int → Int) : List Int → Int
 | [] => 0
 | x :: r => f x + sumI f r
theorem sumI_snoc (f : Int → Int) (x : Int) : ∀ l : List Int, sumI f (l ++ [x]) = sumI f l + f x
 | [] => by simp [sumI]
 | y :: r => by rw [List.cons_append, sumI, sumI_snoc f x r, sumI]; omega
theorem sumI_perm (f : Int → Int) {l m : List Int} (h : l.Perm m) : sumI f l = sumI f m := by
 induction h with
 | nil => rfl
 | cons x _ ih => rw [sumI, sumI, ih]
 | swap x y l => simp only [sumI]; omega
 | trans _ _ h1 h2 => rw [h1, h2]
theorem ext_hit {τ : Type} {n : Nat} {step : τ → List Int → τ} {S : List Int → τ → Prop} (h1 : ∀ a o, Ord n o → o.length = n → S o (step a o)) (h2 : ∀ a o o', Ord n o → o.length = n → S o' a → S o' (step a o)) : ∀ (d : Nat) (o : List Int) (a : τ), Ord n o → o.length + d = n →
  (∀ o', S o' a → S o' (ext n step d o a)) ∧ ∀ o', Ord n o' → o'.length = n → o'.take o.length = o → S o' (ext n step d o a)
 | 0, o, a, ho, hd => ⟨fun o' h => h2 a o o' ho (by omega) h, fun o' k1 k2 k3 => by
   have : o' = o := by rw [← k3, List.take_of_length_le (by omega)]
   rw [this]; exact h1 a o ho (by omega)⟩
 | d + 1, o, a, ho, hd => by
  have key : ∀ q : Nat, q ≤ n → (∀ o', S o' a → S o' (extQ n step d o a q)) ∧ ∀ o', Ord n o' → o'.length = n → o'.take o.length = o → o'.getD o.length 0 < q → S o' (extQ n step d o a q) := by
   intro q
   induction q with
   | zero => exact fun _ => ⟨fun _ h => h, fun o' k1 k2 k3 k4 => by have := k1.lt (o'.getD o.length 0) (by simp [show o.length < o'.length by omega]); omega⟩
   | succ q ih =>
    intro hq
    obtain ⟨j1, j2⟩ := ih (by omega)
    by_cases hm : (q : Int) ∈ o
    ·rw [extQ_in hm]
     refine ⟨j1, fun o' k1 k2 k3 k4 => ?_⟩
     refine j2 o' k1 k2 k3 ?_
     have hne : o'.getD o.length 0 ≠ q := fun e => by
      have hnd := k1.nd
      rw [← k3] at hm
      obtain ⟨i, hi, ei⟩ := List.mem_iff_getElem.1 hm
      have hi' : i < o.length ∧ i < o'.length := by simp at hi; omega
      rw [List.getElem_take] at ei
      have := List.pairwise_iff_getElem.1 hnd i o.length hi'.2 (by omega) hi'.1
      apply this
      rw [ei, ← e]
      simp [show o.length < o'.length by omega]
     omega
    ·rw [extQ_out hm]
     obtain ⟨e1, e2⟩ := ext_hit h1 h2 d (o ++ [(q : Int)]) (extQ n step d o a q) (ho.snoc (by omega) hm) (by rw [List.length_append]; simp; omega)
     refine ⟨fun o' h => e1 o' (j1 o' h), fun o' k1 k2 k3 k4 => ?_⟩
     by_cases hlt : o'.getD o.length 0 < q
     ·exact e1 o' (j2 o' k1 k2 k3 hlt)
     ·refine e2 o' k1 k2 ?_
      have eq : o'.getD o.length 0 = q := by omega
      have hsn : o'.take (o.length + 1) = o'.take o.length ++ [o'.getD o.length 0] := by
       rw [List.take_succ_eq_append_getElem (by omega)]; simp [show o.length < o'.length by omega]
      rw [List.length_append, List.length_singleton, hsn, k3, eq]
  have h9 := key n (Nat.le_refl _)
  rw [extQ_all] at h9
  exact ⟨h9.1, fun o' k1 k2 k3 => h9.2 o' k1 k2 k3 (by have := k1.lt (o'.getD o.length 0) (by simp [show o.length < o'.length by omega]); omega)⟩
theorem ext_inv {τ : Type} {n : Nat} {step : τ → List Int → τ} {I : τ → Prop} (hI : ∀ a o, Ord n o → o.length = n → I a → I (step a o)) : ∀ (d : Nat) (o : List Int) (a : τ), Ord n o → o.length + d = n → I a → I (ext n step d o a)
 | 0, o, a, ho, hd, h => hI a o ho (by omega) h
 | d + 1, o, a, ho, hd, h => by
  have key : ∀ q : Nat, q ≤ n → I (extQ n step d o a q) := by
   intro q
   induction q with
   | zero => exact fun _ => h
   | succ q ih =>
    intro hq
    by_cases hm : (q : Int) ∈ o
    ·rw [extQ_in hm]; exact ih (by omega)
    ·rw [extQ_out hm]; exact ext_inv hI d _ _ (ho.snoc (by omega) hm) (by rw [List.length_append]; simp; omega) (ih (by omega))
  have := key n (Nat.le_refl _)
  rwa [extQ_all] at this
end Go.Proofs.YtmahammdnmmmoaaGreatDoor
namespace Go.Proofs.YtmahammdnmmmoaaGreatDoor
open Go.RowKit
set_option linter.unusedVariables false
set_option linter.unusedSimpArgs false
theorem pace_rise {p : List PaceS} (h : PacesOk p) : RiseK PaceS.product p := fun j h0 hj => (paceE_zero (h.all j hj)).2.1 h0
theorem needsF_lenP {l : List NeedS} {lo hi : Int} (h : needsF l lo hi = 0) : l.length ≤ 1000 := by
 unfold needsF at h
 split at h
 ·cases h
 ·omega
theorem paceO_in {p : List PaceS} {k : ByteArray} (h : hasP p k = true) : ∃ j, j < p.length ∧ paceO p k = p.getD j default := by
 unfold hasP at h
 cases hf : p.find? (fun x => sEq x.product k) with
 | none => rw [List.find?_eq_none] at hf; obtain ⟨x, hx, he⟩ := List.any_eq_true.1 h; exact absurd he (hf x hx)
 | some x =>
  obtain ⟨j, hj, e⟩ := List.getElem_of_mem (List.mem_of_find?_eq_some hf)
  refine ⟨j, hj, ?_⟩
  rw [paceO, hf, List.getD_eq_getElem?_getD, List.getElem?_eq_getElem hj, e]
theorem paceO_ok {p : List PaceS} (hp : PacesOk p) {k : ByteArray} (h : hasP p k = true) : (1 ≤ (paceO p k).cycle ∧ (paceO p k).cycle ≤ 10000000) ∧ (paceO p k).needs.length ≤ 1000 := by
 obtain ⟨j, hj, e⟩ := paceO_in h
 rw [e]
 have := paceE_zero (hp.all j hj)
 exact ⟨this.2.2.1, needsF_lenP this.2.2.2⟩
theorem paceO_sm {p : List PaceS} (hp : SmPc p) (k : ByteArray) : (paceO p k).needs.length ≤ 1000000 ∧ ∀ j, ((paceO p k).needs.getD j default).key.size ≤ 1000000 := by
 by_cases h : hasP p k = true
 ·obtain ⟨j, _, e⟩ := paceO_in h
  rw [e]; exact ⟨hp.nlen j, hp.nkey j⟩
 ·have : paceO p k = default := by
   unfold paceO
   exact find_none' (by simpa [hasP] using h)
  rw [this]
  exact ⟨by simp [default], fun j => by simp [default]⟩
theorem mul_bd {a b A B : Int} (h0 : 0 ≤ a) (h1 : a ≤ A) (h2 : 0 ≤ b) (h3 : b ≤ B) : 0 ≤ a * b ∧ a * b ≤ A * B :=
 ⟨Int.mul_nonneg h0 h2, Int.le_trans (Int.mul_le_mul_of_nonneg_right h1 h2) (Int.mul_le_mul_of_nonneg_left h3 (Int.le_trans h0 h1))⟩
structure OrdrsB (o : List OrdrS) : Prop where
 len : o.length ≤ 201
 all : ∀ j, j < o.length → (1 ≤ (o.getD j default).count ∧ (o.getD j default).count ≤ 100000) ∧ (0 ≤ (o.getD j default).ready ∧ (o.getD j default).ready ≤ 345686399999) ∧ (0 ≤ (o.getD j default).due ∧ (o.getD j default).due ≤ 345686399999)
theorem OrdrsOk.bd {o : List OrdrS} (h : OrdrsOk o) : OrdrsB o := ⟨by have := h.len; omega, fun j hj => (ordrE_zero (h.all j hj)).2.2⟩
structure SchOk (p : List PaceS) (o : List OrdrS) (l : List Int) (start each : Int) : Prop where
 pok : PacesOk p
 ook : OrdrsB o
 has : ∀ j, j < o.length → hasP p (o.getD j default).product = true
 len : l.length = o.length
 ord : Ord o.length l
 st : 0 ≤ start ∧ start ≤ 345686399999
 ea : 0 ≤ each ∧ each ≤ 10000000
theorem bothF_has {p : List PaceS} {o : List OrdrS} (h : bothF p o = 0) : ∀ j, j < o.length → hasP p (o.getD j default).product = true := fun j hj => by
 have := List.all_eq_true.1 (bothF_0 h).2.2 (o[j]) (List.getElem_mem hj)
 rwa [List.getD_eq_getElem?_getD, List.getElem?_eq_getElem hj]
theorem schF_0 {n : Nat} {l : List Int} (h : schF n l = 0) : l.length = n ∧ Ord n l := by
 unfold schF at h
 split at h
 ·rename_i h1; exact ⟨h1.1, h1.2.1, h1.2.2⟩
 ·cases h
theorem startF_0 {s e : Int} (h : startF s e = 0) : (0 ≤ s ∧ s ≤ 345686399999) ∧ (0 ≤ e ∧ e ≤ 10000000) := by
 unfold startF at h
 split at h
 ·cases h
 ·rename_i h1
  simp only [outR, Bool.or_eq_true, decide_eq_true_eq, not_or] at h1
  omega
theorem schOk {p : List PaceS} {o : List OrdrS} {l : List Int} {s e : Int} (h : scheF p o l s e = 0) : SchOk p o l s e := by
 unfold scheF at h
 split at h
 ·contradiction
 ·split at h
  ·contradiction
  ·rename_i h1 h2
   have h1' : bothF p o = 0 := by simpa using h1
   have h2' : schF o.length l = 0 := by simpa using h2
   have h3 := bothF_0 h1'
   have h4 := startF_0 h
   exact ⟨pacesOk h3.1, (ordrsOk h3.2.1).bd, bothF_has h1', (schF_0 h2').1, (schF_0 h2').2, h4.1, h4.2⟩
section
variable {p : List PaceS} {o : List OrdrS} {l : List Int} {start each : Int} (h : SchOk p o l start each)
include h
theorem SchOk.at_ {q : Nat} (hq : q < l.length) : 0 ≤ l.getD q 0 ∧ (l.getD q 0).toNat < o.length := by
 have := h.ord.lt (l[q]) (List.getElem_mem hq)
 rw [List.getD_eq_getElem?_getD, List.getElem?_eq_getElem hq]
 simp only [Option.getD_some]
 omega
theorem SchOk.long {i : Nat} (hi : i < o.length) : 0 ≤ longO p (o.getD i default) ∧ longO p (o.getD i default) ≤ 1000000000000 := by
 have h1 := (paceO_ok h.pok (h.has i hi)).1
 have h2 := (h.ook.all i hi).1
 have := mul_bd (by omega : 0 ≤ (paceO p (o.getD i default).product).cycle) h1.2 (by omega : 0 ≤ (o.getD i default).count) h2.2
 unfold longO
 omega
theorem SchOk.turn {i j : Nat} (hj : j < o.length) : 0 ≤ turnO p each (o.getD i default) (o.getD j default) ∧ turnO p each (o.getD i default) (o.getD j default) ≤ 10000000000 := by
 have h1 := (paceO_ok h.pok (h.has j hj)).2
 have h2 := chgN_le (paceO p (o.getD i default).product).needs (paceO p (o.getD j default).product).needs (paceO p (o.getD j default).product).needs.length
 have := mul_bd h.ea.1 h.ea.2 (by omega : (0 : Int) ≤ (chgN (paceO p (o.getD i default).product).needs (paceO p (o.getD j default).product).needs (paceO p (o.getD j default).product).needs.length : Int)) (by omega : _ ≤ (1000 : Int))
 unfold turnO chgI
 omega
theorem SchOk.bd : ∀ q, q < l.length → (0 ≤ fromP p o l start each q ∧ fromP p o l start each q ≤ endP p o l start each q) ∧ endP p o l start each q ≤ 345686400000 + (q + 1) * 1010000000000
 | 0, hq => by
  have h1 := h.at_ hq
  have h2 := h.long h1.2
  have h3 := (h.ook.all _ h1.2).2.1
  have h4 := h.st
  simp only [fromP, endP, orA]
  omega
 | q + 1, hq => by
  have h1 := h.at_ hq
  have h2 := h.long h1.2
  have h3 := (h.ook.all _ h1.2).2.1
  have h5 := SchOk.bd q (by omega)
  have h6 := h.turn (i := (l.getD q 0).toNat) h1.2
  simp only [fromP, endP, orA]
  omega
theorem SchOk.res : ∀ q, q ≤ l.length → (0 ≤ (resP p o l start each q).late ∧ (resP p o l start each q).late ≤ q * 300000000000000) ∧ (0 ≤ (resP p o l start each q).many ∧ (resP p o l start each q).many ≤ q) ∧ (0 ≤ (resP p o l start each q).en ∧ (resP p o l start each q).en ≤ 300000000000000)
 | 0, hq => by
  have h4 := h.st
  simp only [resP]
  omega
 | q + 1, hq => by
  have h1 := h.at_ (q := q) (by omega)
  have h3 := (h.ook.all _ h1.2).2.2
  have h5 := h.bd q (by omega)
  have h6 := SchOk.res q (by omega)
  have h7 := h.ook.len
  have h8 := h.len
  simp only [resP, orA]
  split
  ·rename_i hd
   simp only
   omega
  ·simp only
   omega
end
def schC (p : List PaceS) (o : List OrdrS) (each : Int) : Nat → AV
 | 0 => avL o
 | 1 => avInts (o.map (longO p))
 | _ => avM (o.map fun x => o.map (turnO p each x))
def schAV (p : List PaceS) (o : List OrdrS) (l : List Int) (start each : Int) : AV := if scheF p o l start each = 0 then .at_ 3 (schC p o each) else .v (.pointer none)
def timesR (p : List PaceS) (o : List OrdrS) (l : List Int) (start each : Int) : List WinS := if scheF p o l start each = 0 then timesQ p o l start each l.length else []
theorem scheF_1 {p : List PaceS} {o : List OrdrS} {l : List Int} {s e : Int} (h : bothF p o ≠ 0) : scheF p o l s e = bothF p o := by rw [scheF, if_pos h]
theorem scheF_2 {p : List PaceS} {o : List OrdrS} {l : List Int} {s e : Int} (h : bothF p o = 0) (h2 : schF o.length l ≠ 0) : scheF p o l s e = schF o.length l := by rw [scheF, if_neg (by omega), if_pos h2]
theorem scheF_3 {p : List PaceS} {o : List OrdrS} {l : List Int} {s e : Int} (h : bothF p o = 0) (h2 : schF o.length l = 0) : scheF p o l s e = startF s e := by rw [scheF, if_neg (by omega), if_neg (by omega)]
theorem schAV_no {p : List PaceS} {o : List OrdrS} {l : List Int} {s e : Int} (h : scheF p o l s e ≠ 0) : schAV p o l s e = .v (.pointer none) := by rw [schAV, if_neg h]
theorem schAV_ok {p : List PaceS} {o : List OrdrS} {l : List Int} {s e : Int} (h : scheF p o l s e = 0) : schAV p o l s e = .at_ 3 (schC p o e) := by rw [schAV, if_pos h]
theorem resP_t {p : List PaceS} {o : List OrdrS} {l : List Int} {s e : Int} {q : Nat} (h : (orA o (l.getD q 0)).due < endP p o l s e q) : resP p o l s e (q + 1) = ⟨(resP p o l s e q).late + (endP p o l s e q - (orA o (l.getD q 0)).due), (resP p o l s e q).many + 1, endP p o l s e q⟩ := by rw [resP, if_pos h]
theorem resP_f {p : List PaceS} {o : List OrdrS} {l : List Int} {s e : Int} {q : Nat} (h : ¬ (orA o (l.getD q 0)).due < endP p o l s e q) : resP p o l s e (q + 1) = ⟨(resP p o l s e q).late, (resP p o l s e q).many, endP p o l s e q⟩ := by rw [resP, if_neg h]
theorem map_getD {α β : Type} (f : α → β) {l : List α} {i : Nat} (h : i < l.length) (d : α) (e : β) : (l.map f).getD i e = f (l.getD i d) := by
 simp [List.getD_eq_getElem?_getD, h]
def runA {τ : Type} (step : τ → Int → WinS → τ) (p : List PaceS) (o : List OrdrS) (l : List Int) (start each : Int) (a : τ) : Nat → τ
 | 0 => a
 | q + 1 => step (runA step p o l start each a q) (l.getD q 0) (winP p o l start each q)
theorem runA_times (p : List PaceS) (o : List OrdrS) (l : List Int) (start each : Int) : ∀ q, runA (fun (a : List WinS) i w => a.set i.toNat w) p o l start each (List.replicate o.length default) q = timesQ p o l start each q
 | 0 => rfl
 | q + 1 => by rw [runA, runA_times p o l start each q]; rfl
def DoesW (n : Nat) {τ : Type} (K : τ → List Ent → Prop) (step : τ → Int → WinS → τ) (P : Program) (F : FuncId) (caps : Array Value) : Prop :=
 ∀ (i : Int) (w : WinS) (a : τ) (h : List Ent), 0 ≤ i → i.toNat < n → K a h →
  SpecH P F ([avI i, .agg [avI w.fr, avI w.to]] ++ caps.toList.map .v) h (fun y hp' => K (step a i w) hp')
theorem map_snoc {α β : Type} {l : List α} {q : Nat} (f : α → β) (h : q < l.length) (d : α) : (l.take (q + 1)).map f = (l.take q).map f ++ [f (l.getD q d)] := by
 rw [List.take_add_one, List.map_append, List.getD_eq_getElem?_getD, List.getElem?_eq_getElem h]; rfl
theorem Ord.take {n : Nat} {l : List Int} {q : Nat} (h : Ord n (l.take q)) (hq : q < l.length) (h0 : 0 ≤ l.getD q 0) (h1 : (l.getD q 0).toNat < n) (h2 : l.getD q 0 ∉ l.take q) : Ord n (l.take (q + 1)) := by
 have := h.snoc h1 (by rwa [Int.toNat_of_nonneg h0])
 rw [Int.toNat_of_nonneg h0] at this
 rw [List.take_add_one, List.getElem?_eq_getElem hq]
 rwa [List.getD_eq_getElem?_getD, List.getElem?_eq_getElem hq] at this
theorem schF_len {n : Nat} {l : List Int} (h : l.length ≠ n) : schF n l = 3 := by rw [schF, if_neg fun e => h e.1]
theorem schF_out {n : Nat} {l : List Int} {q : Nat} (hq : q < l.length) (h : l.getD q 0 < 0 ∨ (n : Int) ≤ l.getD q 0) : schF n l = 3 := by
 rw [schF, if_neg fun e => ?_]
 have := e.2.2 (l[q]) (List.getElem_mem hq)
 rw [List.getD_eq_getElem?_getD, List.getElem?_eq_getElem hq] at h
 simp only [Option.getD_some] at h
 omega
theorem schF_twice {n : Nat} {l : List Int} {q : Nat} (hq : q < l.length) (h : l.getD q 0 ∈ l.take q) : schF n l = 3 := by
 rw [schF, if_neg fun e => ?_]
 rw [List.getD_eq_getElem?_getD, List.getElem?_eq_getElem hq] at h
 simp only [Option.getD_some] at h
 obtain ⟨i, hi, he⟩ := List.getElem_of_mem h
 simp at hi
 rw [List.getElem_take] at he
 have := List.pairwise_iff_getElem.1 e.2.1 i q (by omega) hq (by omega)
 exact this he
theorem schF_ok {n : Nat} {l : List Int} (hl : l.length = n) (h : Ord n l) : schF n l = 0 := by rw [schF, if_pos ⟨hl, h.nd, h.lt⟩]
theorem usedL_take {n : Nat} {l : List Int} {q : Nat} (hq : q < l.length) (h0 : 0 ≤ l.getD q 0) (h1 : (l.getD q 0).toNat < n) : (usedL n (l.take q)).set (l.getD q 0).toNat (avB true) = usedL n (l.take (q + 1)) := by
 rw [usedL_set h1, Int.toNat_of_nonneg h0, List.take_add_one, List.getElem?_eq_getElem hq]
 rw [List.getD_eq_getElem?_getD, List.getElem?_eq_getElem hq]
 rfl
end Go.Proofs.YtmahammdnmmmoaaGreatDoor
namespace Go.Proofs.YtmahammdnmmmoaaGreatDoor
open Go.RowKit
set_option linter.unusedVariables false
set_option linter.unusedSimpArgs false
section
variable {P : Program} {B : Bs} {s : St'}
theorem Le.cellRow {i k j g n sz : Nat} {o' : Own'} {u : Value} {cs : List AV} {ty : TypeId} {y : AV} (hB : B.Ok) (hi : s.hp[i]? = some (.box g o')) (hj : o'.cs[j]? = some (.v u)) (hk : s.hp[k]? = some (.row u n sz cs ty)) (hik : i < k) (hy : ∀ w Z u, Rep w Z (.im n sz fun j => cs.getD j .any) u → Rep w Z y u) :
  Le B s ⟨s.sl, (s.hp.eraseIdx k).set i (.box g ⟨o'.cs.set j y, o'.ty, o'.tot⟩), s.k⟩ := fun a w hr => by
 have hr1 := hr.erase k
 have hi1 : (s.hp.eraseIdx k)[i]? = some (.box g o') := by rw [List.getElem?_eraseIdx, if_pos hik]; exact hi
 have hz : ∀ b, Zn B (s.hp.eraseIdx k) w b → Zn B ((s.hp.eraseIdx k).set i (.box g ⟨o'.cs.set j y, o'.ty, o'.tot⟩)) w b := fun b hb => ⟨hb.1, fun p hp hpb => by
  rcases List.mem_or_eq_of_mem_set hp with h | h
  ·exact hb.2.1 p h hpb
  ·subst h; exact hb.2.1 _ (List.mem_of_getElem? hi1) hpb, hb.2.2⟩
 have hz0 : ∀ b, Zn B s.hp w b → Zn B (s.hp.eraseIdx k) w b := fun b hb => ⟨hb.1, fun p hp => hb.2.1 p ((List.eraseIdx_sublist s.hp k).subset hp), hb.2.2⟩
 refine hr1.set hB hi1 (w' := w) (Chg.refl _ w) (.inl rfl) ?_
 obtain ⟨c, h1, h2, h3, h4⟩ := hr1.blocks _ (List.mem_of_getElem? hi1)
 refine ⟨c, h1, h2, by simpa using h3, fun q hq => ?_⟩
 have hq' : q < o'.cs.length := by simpa using hq
 obtain ⟨hjl, hje⟩ := List.getElem?_eq_some_iff.1 hj
 obtain ⟨v, k1, k2⟩ := h4 q hq'
 refine ⟨v, k1, ?_⟩
 rw [List.getElem_set]
 split
 ·rename_i e
  subst e
  rw [hje] at k2
  rw [k2.eq_v]
  exact hy _ _ _ (hr.repRow hk (fun b hb => hz b (hz0 b hb)) fun g' hg hl => hz g' (hr.erased hB hk hg))
 ·exact k2.keep fun b hb _ => ⟨rfl, hz b hb⟩
end
end Go.Proofs.YtmahammdnmmmoaaGreatDoor
namespace Go.Proofs.YtmahammdnmmmoaaGreatDoor
open Go.RowKit
set_option linter.unusedVariables false
set_option linter.unusedSimpArgs false
def k3P : List ByteArray := [⟨#[112]⟩, ⟨#[113]⟩, ⟨#[114]⟩]
theorem k3P_size (q : Nat) : (k3P.getD q ByteArray.empty).size ≤ 1000 := by
 match q with
 | 0 => decide
 | 1 => decide
 | 2 => decide
 | q + 3 => simp [k3P]
def k4P : List ByteArray := [⟨#[97]⟩, ⟨#[98]⟩, ⟨#[99]⟩, ⟨#[100]⟩]
theorem k4P_size (q : Nat) : (k4P.getD q ByteArray.empty).size ≤ 1000 := by
 match q with
 | 0 => decide
 | 1 => decide
 | 2 => decide
 | 3 => decide
 | q + 4 => simp [k4P]
def NsOk (m : Nat) (l : List NeedS) : Prop := l.length ≤ m ∧ ∀ y ∈ l, y.key.size ≤ 1000
theorem NsOk.snoc {m : Nat} {l : List NeedS} (h : NsOk m l) {x : NeedS} (hx : x.key.size ≤ 1000) : NsOk (m + 1) (l ++ [x]) := ⟨by have := h.1; simp; omega, fun y hy => by
 rcases List.mem_append.1 hy with hy | hy
 ·exact h.2 y hy
 ·simp at hy; subst hy; exact hx⟩
theorem NsOk.mono {m n : Nat} {l : List NeedS} (h : NsOk m l) (hn : m ≤ n) : NsOk n l := ⟨Nat.le_trans h.1 hn, h.2⟩
def PcOk (m : Nat) (x : PaceS) : Prop := x.product.size ≤ 1000 ∧ NsOk m x.needs
theorem PcOk.mono {m n : Nat} {x : PaceS} (h : PcOk m x) (hn : m ≤ n) : PcOk n x := ⟨h.1, h.2.mono hn⟩
theorem PcOk.getD {m : Nat} {l : List PaceS} (h : ∀ x ∈ l, PcOk m x) (i : Nat) : PcOk m (l.getD i default) := by
 rw [List.getD_eq_getElem?_getD]
 cases hi : l[i]? with
 | none => exact ⟨by decide, Nat.zero_le _, fun y hy => by cases hy⟩
 | some x => exact h x (List.mem_of_getElem? hi)
theorem PcOk.sm {l : List PaceS} (h : ∀ x ∈ l, PcOk 5 x) (hl : l.length ≤ 1000) : SmPc l := ⟨by omega, fun i => by have := (PcOk.getD h i).1; omega, fun i => by have := (PcOk.getD h i).2.1; omega, fun i j => by
 have := (PcOk.getD h i).2.2
 rw [List.getD_eq_getElem?_getD (l := (l.getD i default).needs)]
 cases hj : (l.getD i default).needs[j]? with
 | none => decide
 | some x => have := this x (List.mem_of_getElem? hj); simp; omega⟩
theorem PcOk.setD {m : Nat} {l : List PaceS} (h : ∀ x ∈ l, PcOk m x) (q : Nat) {x : PaceS} (hx : PcOk m x) : ∀ y ∈ l.set q x, PcOk m y := fun y hy => by
 rcases List.mem_or_eq_of_mem_set hy with h' | rfl
 ·exact h y h'
 ·exact hx
theorem pc_upd {a b : PaceS} {k : Nat} (h0 : k = 0 ∨ a.product = b.product) (h1 : k = 1 ∨ a.cycle = b.cycle) (h2 : k = 2 ∨ a.needs = b.needs) : ∀ i, i < 3 → i ≠ k → Sxc.cell a i = Sxc.cell b i := fun i hi hn => by
 match i, hi with
 | 0, _ => show avS a.product = avS b.product; rw [h0.resolve_left fun h => hn h.symm]
 | 1, _ => show avI a.cycle = avI b.cycle; rw [h1.resolve_left fun h => hn h.symm]
 | 2, _ => show avL a.needs = avL b.needs; rw [h2.resolve_left fun h => hn h.symm]
theorem getSetP {α : Type} {xs : List α} {q : Nat} {x d : α} (h : q < xs.length) : (xs.set q x).getD q d = x := by simp [h]
theorem flat_nd (xs : List NeedS) : FlatA (rowL xs) := flat_rowL (fun x j hj => by
 match j, hj with
 | 0, _ => exact ⟨_, rfl⟩
 | 1, _ => exact ⟨_, rfl⟩) xs
theorem nd_one (xs : List NeedS) (x : Nat) (h : x < xs.length * 2) : ((fun q => Sxc.cell (xs.getD q default)) (x / Sxc.k NeedS) (x % Sxc.k NeedS)).one = true := by
 have : x % Sxc.k NeedS < 2 := Nat.mod_lt _ (by decide)
 match x % Sxc.k NeedS, this with
 | 0, _ => rfl
 | 1, _ => rfl
set_option maxRecDepth 100000 in
theorem slices_CloneN_R {xs : List NeedS} (hl : xs.length ≤ 1000000000) :
  SpecR Tryz.prog 110 [avL xs] xs.length 2 (rowL xs) 125 := by
 refine SpecR.of_VC Tryz.func110 rfl Tryz.ntmps110 (Nle rfl) (flat_nd xs) fun w A hB => ?_
 have hnew : True := trivial
 refine VC.sr ?_
 refine VO.ma rfl rfl rfl rfl ?_
 refine VO.nil ?_
 refine VC.seq ?_
 refine VC.sr ?_
 refine VO.mv rfl rfl rfl rfl ?_
 refine VO.op rfl (OpE.eqNil rfl rfl Tryz.underlying109 rfl ?_)
 intro b4 hb4
 refine VO.nil ?_
 refine VC.cond rfl (fun h0b => ?_) (fun h0b => ?_)
 ·have h0 := h0b
  try simp only [qqT, qqF, qqN, qqM, qqL, qqE] at h0
  refine VC.sr ?_
  refine VO.ma rfl rfl rfl rfl ?_
  refine VO.nil ?_
  obtain rfl : xs = [] := List.eq_nil_of_length_eq_zero (hb4 h0)
  refine VC.le _ (Le.nilRow 2 125) ?_
  refine VC.ret ?_
  exact Exists.intro _ (And.intro (RetV.one Tryz.results110 (ResV.tmp rfl)) (⟨_, rfl, List.Mem.head _⟩))
 ·have h0 := h0b
  try simp only [qqT, qqF, qqN, qqM, qqL, qqE] at h0
  refine VC.skip ?_
  refine VC.sr ?_
  refine VO.op rfl (OpE.buildSlice0 rfl hB rfl Tryz.underlying109 Tryz.sizeOf125 ?_)
  intro g5
  refine VO.mv rfl rfl rfl rfl ?_
  refine VO.op rfl (OpE.appendP (i := 0) rfl hB rfl Tryz.underlying109 (infoOf Tryz.t125 2 (by kernel_rfl) rfl rfl) rfl (by decide) (by decide) rfl rfl (.im rfl) (nd_one xs) (by omega) (tab_L xs) (fun _ _ => trivial) ?_)
  intro u7
  refine VO.ma rfl rfl rfl rfl ?_
  refine VO.nil ?_
  rw [Nat.zero_add]
  refine VC.ret ?_
  exact Exists.intro _ (And.intro (RetV.one Tryz.results110 (ResV.tmp rfl)) (⟨_, rfl, List.Mem.head _⟩))
set_option maxRecDepth 100000 in
set_option maxHeartbeats 40000000 in
theorem paces_T {p : Nat} {L : List Int}  :
    SpecT Tryz.prog (TT p L) (fun b => b = p) 15 [sp p] 100 (fun y => ∃ l : List PaceS, (l.length ≤ 3 ∧ ∀ x ∈ l, PcOk 5 x) ∧ y = avL l) := by
  refine SpecT.of_VC Tryz.func15 rfl Tryz.ntmps15 (Nle rfl) (low := (fun b => b ≤ p)) (fun w A k h => h.ok) fun w A k hk hB => ?_
  have hnew : True := trivial
  refine VC.sr ?_
  refine VO.ma rfl rfl rfl rfl ?_
  refine VO.nil ?_
  refine VC.sr ?_
  refine VO.ma rfl rfl rfl rfl ?_
  refine VO.nil ?_
  refine VC.seq ?_
  refine VC.sr ?_
  refine VO.op rfl (OpE.buildSlice (zc := #[.string ⟨#[]⟩, .string ⟨#[]⟩, .string ⟨#[]⟩]) rfl hB rfl Tryz.underlying95 Tryz.sizeOf9 Tryz.zeroValue9 (by decide) (by decide) (by kernel_rfl) rfl rfl ?_)
  refine VO.le _ (Le.recast (t := 10) (y := avStrs k3P) rfl (fun w Z u h => Rep.strs (xs := k3P) rfl h)) ?_
  refine VO.val rfl rfl (OpV.len_im rfl Tryz.underlying95 rfl) ?_
  refine VO.mv rfl rfl rfl rfl ?_
  refine VO.nil ?_
  refine VC.block ?_
  refine VC.le _ (Le.nilRow 3 142) ?_
  refine VC.loopK [(0, _)] ⟨rfl, trivial⟩ ({t : Value × List PaceS × Nat // t.2.2 ≤ 3 ∧ t.2.1.length ≤ t.2.2 ∧ ∀ x ∈ t.2.1, PcOk 4 x}) (fun (iZ : {t : Value × List PaceS × Nat // t.2.2 ≤ 3 ∧ t.2.1.length ≤ t.2.2 ∧ ∀ x ∈ t.2.1, PcOk 4 x}) => match iZ with | ⟨⟨u, l, q⟩, hq, hl, hok⟩ => [(3, .v u), (10, avStrs k3P), (11, avI 3), (12, avI (q : Int))]) (fun (iZ : {t : Value × List PaceS × Nat // t.2.2 ≤ 3 ∧ t.2.1.length ≤ t.2.2 ∧ ∀ x ∈ t.2.1, PcOk 4 x}) => match iZ with | ⟨⟨u, l, q⟩, hq, hl, hok⟩ => [.row u l.length 3 (rowL l) 142]) (fun (iZ : {t : Value × List PaceS × Nat // t.2.2 ≤ 3 ∧ t.2.1.length ≤ t.2.2 ∧ ∀ x ∈ t.2.1, PcOk 4 x}) => match iZ with | ⟨⟨u, l, q⟩, hq, hl, hok⟩ => k + 12 * q) (fun (iZ : {t : Value × List PaceS × Nat // t.2.2 ≤ 3 ∧ t.2.1.length ≤ t.2.2 ∧ ∀ x ∈ t.2.1, PcOk 4 x}) => match iZ with | ⟨⟨u, l, q⟩, hq, hl, hok⟩ => 3 - q) ⟨(.slice none 0 0, [], 0), by decide, by decide, fun x h => by simp at h⟩ (Le.mk hB [0] ⟨rfl, rfl, rfl, rfl, rfl, trivial⟩ rfl rfl (show k ≤ k + 12 * 0 by omega)) ?_
  rintro ⟨⟨u, l, q⟩, hq, hl, hok⟩
  show VC _ _ _ _ ⟨[(3, .v u), (10, avStrs k3P), (11, avI 3), (12, avI (q : Int))] ++ [(0, _)], [.row u l.length 3 (rowL l) 142], k + 12 * q⟩
  simp only at hq hl hok
  refine VC.sr ?_
  refine VO.val rfl rfl (OpV.lss rfl rfl rfl) ?_
  refine VO.nil ?_
  refine VC.seq ?_
  refine VC.cond rfl (fun aH1b => ?_) (fun aH1b => ?_)
  · have aH1 := aH1b
    try simp only [qqT, qqF, qqN, qqM, qqL, qqE] at aH1
    refine VC.skip ?_
    refine VC.seq ?_
    refine VC.block ?_
    refine VC.sr ?_
    refine VO.val rfl rfl (OpV.indexAddr_1 rfl Tryz.underlying95 Tryz.sizeOf9 rfl rfl rfl (by show _ < 3; omega)) ?_
    refine VO.val rfl rfl (OpV.load_at rfl hB OutW.no Tryz.isAgg9 rfl rfl) ?_
    refine VO.ma rfl rfl rfl rfl ?_
    refine VO.nil ?_
    refine VC.seq ?_
    refine VC.sr ?_
    refine VO.mv rfl rfl rfl rfl ?_
    refine VO.op rfl (OpE.callT' (k + 12 * q) rfl rfl hB rfl Tryz.call17 rfl ((flip_T (by omega))) (by omega) ?_)
    rintro _ ⟨r17, rfl⟩
    refine VO.nil ?_
    refine VC.cond rfl (fun aH2b => ?_) (fun aH2b => ?_)
    · have aH2 := aH2b
      try simp only [qqT, qqF, qqN, qqM, qqL, qqE] at aH2
      refine VC.exit ?_
      refine VC.region ?_
      refine VO.val rfl rfl (OpV.add rfl rfl rfl (by unfold fits; omega)) ?_
      refine VO.mv rfl rfl rfl rfl ?_
      refine VO.nil ?_
      exact Exists.intro (⟨(u, l, q + 1), by show q + 1 ≤ 3; omega, by show l.length ≤ q + 1; omega, hok⟩) (And.intro (Le.mk hB [0] ⟨rfl, rfl, rfl, rfl, rfl, trivial⟩ rfl (by dsimp only; first | rfl | (rw [List.length_append]; rfl)) (show k + 12 * q + 1 ≤ k + 12 * (q + 1) by omega)) (by first | omega | (show _ < _; omega) | (simp only []; omega)))
    · have aH2 := aH2b
      try simp only [qqT, qqF, qqN, qqM, qqL, qqE] at aH2
      refine VC.skip ?_
      refine VC.sr ?_
      refine VO.mv rfl rfl rfl rfl ?_
      refine VO.mv rfl rfl rfl rfl ?_
      refine VO.op rfl (OpE.buildSlice (zc := #[.int .i64 0, .int .i64 0, .int .i64 0, .int .i64 0]) rfl hB rfl Tryz.underlying22 Tryz.sizeOf3 Tryz.zeroValue3 (by decide) (by decide) (by kernel_rfl) rfl rfl ?_)
      refine VO.op rfl (OpE.callT' (k + 12 * q + 1) rfl rfl hB rfl Tryz.call21 rfl (pick_X (by rfl) (by decide) (by decide) (by repeat (first | exact AllX.nil | refine AllX.cons ?_))) (by omega) ?_)
      rintro _ ⟨r21, rfl⟩
      refine VO.val rfl rfl (OpV.build (pls := #[(0, 1), (1, 1), (2, 1)]) rfl Tryz.zeroValue142 Tryz.underlying142 (fun w => by kernel_rfl) rfl rfl) ?_
      refine VO.op rfl (OpE.alloc rfl hB rfl Tryz.zeroValue142 rfl ?_)
      intro g6
      refine VO.op rfl (OpE.store (i := 1) rfl hB rfl Tryz.sizeOf142 rfl rfl rfl rfl rfl rfl (Nle rfl) trivial ?_)
      refine VO.nil ?_
      refine VC.seq ?_
      refine VC.sr ?_
      refine VO.op rfl (OpE.buildSlice (zc := #[.string ⟨#[]⟩, .string ⟨#[]⟩, .string ⟨#[]⟩, .string ⟨#[]⟩]) rfl hB rfl Tryz.underlying95 Tryz.sizeOf9 Tryz.zeroValue9 (by decide) (by decide) (by kernel_rfl) rfl rfl ?_)
      refine VO.le _ (Le.recast (t := 23) (y := avStrs k4P) rfl (fun w Z u h => Rep.strs (xs := k4P) rfl h)) ?_
      refine VO.val rfl rfl (OpV.len_im rfl Tryz.underlying95 rfl) ?_
      refine VO.mv rfl rfl rfl rfl ?_
      refine VO.nil ?_
      refine VC.block ?_
      refine VC.le _ (Le.nilRow 2 125) ?_
      refine VC.loopK [(0, _)] ⟨rfl, trivial⟩ ({t : Option Addr × Nat × List NeedS × Nat // t.2.2.2 ≤ 4 ∧ NsOk t.2.2.2 t.2.2.1}) (fun (iZ : {t : Option Addr × Nat × List NeedS × Nat // t.2.2.2 ≤ 4 ∧ NsOk t.2.2.2 t.2.2.1}) => match iZ with | ⟨⟨b, c, ns, r⟩, hr, hns⟩ => [(3, .v u), (6, .v (.pointer (some ⟨g6, 0, none⟩))), (10, avStrs k3P), (11, avI 3), (12, avI (q : Int)), (23, avStrs k4P), (24, avI 4), (25, avI (r : Int))]) (fun (iZ : {t : Option Addr × Nat × List NeedS × Nat // t.2.2.2 ≤ 4 ∧ NsOk t.2.2.2 t.2.2.1}) => match iZ with | ⟨⟨b, c, ns, r⟩, hr, hns⟩ => [.row u l.length 3 (rowL l) 142, .box g6 ⟨[avS (k3P.getD q ByteArray.empty), avI r21, .v (.slice b ns.length c)], 142, 3⟩, .row (.slice b ns.length c) ns.length 2 (rowL ns) 125]) (fun (iZ : {t : Option Addr × Nat × List NeedS × Nat // t.2.2.2 ≤ 4 ∧ NsOk t.2.2.2 t.2.2.1}) => match iZ with | ⟨⟨b, c, ns, r⟩, hr, hns⟩ => k + 12 * q + 2 + 2 * r) (fun (iZ : {t : Option Addr × Nat × List NeedS × Nat // t.2.2.2 ≤ 4 ∧ NsOk t.2.2.2 t.2.2.1}) => match iZ with | ⟨⟨b, c, ns, r⟩, hr, hns⟩ => 4 - r) ⟨(none, 0, [], 0), by decide, by decide, fun x h => by simp at h⟩ (Le.mk hB [0, 1, 2] ⟨rfl, rfl, rfl, rfl, rfl, rfl, rfl, rfl, rfl, trivial⟩ rfl rfl (show k + 12 * q + 1 + 1 ≤ k + 12 * q + 2 + 2 * 0 by omega)) ?_
      rintro ⟨⟨b, c, ns, r⟩, hr, hns⟩
      show VC _ _ _ _ ⟨[(3, .v u), (6, .v (.pointer (some ⟨g6, 0, none⟩))), (10, avStrs k3P), (11, avI 3), (12, avI (q : Int)), (23, avStrs k4P), (24, avI 4), (25, avI (r : Int))] ++ [(0, _)], [.row u l.length 3 (rowL l) 142, .box g6 ⟨[avS (k3P.getD q ByteArray.empty), avI r21, .v (.slice b ns.length c)], 142, 3⟩, .row (.slice b ns.length c) ns.length 2 (rowL ns) 125], k + 12 * q + 2 + 2 * r⟩
      simp only at hr hns
      have hnl := hns.1
      refine VC.sr ?_
      refine VO.val rfl rfl (OpV.lss rfl rfl rfl) ?_
      refine VO.nil ?_
      refine VC.seq ?_
      refine VC.cond rfl (fun aH3b => ?_) (fun aH3b => ?_)
      · have aH3 := aH3b
        try simp only [qqT, qqF, qqN, qqM, qqL, qqE] at aH3
        refine VC.skip ?_
        refine VC.seq ?_
        refine VC.block ?_
        refine VC.sr ?_
        refine VO.val rfl rfl (OpV.indexAddr_1 rfl Tryz.underlying95 Tryz.sizeOf9 rfl rfl rfl (by show _ < 4; omega)) ?_
        refine VO.val rfl rfl (OpV.load_at rfl hB OutW.no Tryz.isAgg9 rfl rfl) ?_
        refine VO.ma rfl rfl rfl rfl ?_
        refine VO.nil ?_
        refine VC.sr ?_
        refine VO.mv rfl rfl rfl rfl ?_
        refine VO.op rfl (OpE.callT' (k + 12 * q + 2 + 2 * r) rfl rfl hB rfl Tryz.call17 rfl ((flip_T (by omega))) (by omega) ?_)
        rintro _ ⟨r30, rfl⟩
        refine VO.nil ?_
        refine VC.cond rfl (fun aH4b => ?_) (fun aH4b => ?_)
        · have aH4 := aH4b
          try simp only [qqT, qqF, qqN, qqM, qqL, qqE] at aH4
          refine VC.draw (fun j b => (j = 9 ∧ b = g6) ∨ (j = 7 ∧ b ≠ g6)) hB (by kernel_rfl) ?_
          refine VA.take (i := 0) rfl (by decide +kernel) (by decide +kernel) (by decide +kernel) rfl rfl (OpV.fieldAddrO 2 rfl Tryz.underlying142 rfl rfl Tryz.sizeOf109 rfl) ?_
          refine VA.take (i := 1) rfl (by decide +kernel) (by decide +kernel) (by decide +kernel) rfl rfl (OpV.load_own (i := 1) rfl hB Tryz.isAgg109 rfl rfl rfl (Wi.notN (by decide +kernel))) ?_
          refine VA.take (i := 2) rfl (by decide +kernel) (by decide +kernel) (by decide +kernel) rfl rfl (OpV.move (.inl rfl) rfl) ?_
          refine VA.take (i := 3) rfl (by decide +kernel) (by decide +kernel) (by decide +kernel) rfl rfl (OpV.move (.inl rfl) rfl) ?_
          refine VA.all (rs := [4]) (by decide +kernel) (by decide) ?_
          refine ⟨⟨_, rfl, .inl rfl, ?_⟩, trivial⟩
          refine OpE.callT' (k + 12 * q + 2 + 2 * r + 1) rfl rfl hB rfl Tryz.call40 rfl ((range_T (by omega) (by omega) (by omega))) (by omega) ?_
          rintro _ ⟨r35, hr35, rfl⟩
          refine VA.take (i := 5) rfl (by decide +kernel) (by decide +kernel) (by decide +kernel) rfl rfl (OpV.build (pls := #[(0, 1), (1, 1)]) rfl Tryz.zeroValue125 Tryz.underlying125 (fun w => by kernel_rfl) rfl rfl) ?_
          refine VA.all (rs := [6]) (by decide +kernel) (by decide) ?_
          refine ⟨⟨_, rfl, .inl rfl, ?_⟩, trivial⟩
          refine OpE.buildSlice (zc := #[.string ⟨#[]⟩, .int .i64 0]) rfl hB rfl Tryz.underlying109 Tryz.sizeOf125 Tryz.zeroValue125 (by decide) (by decide) (by kernel_rfl) rfl rfl ?_
          refine VA.all (rs := [7]) (by decide +kernel) (by decide) ?_
          refine ⟨⟨_, rfl, .inl rfl, ?_⟩, trivial⟩
          refine OpE.hap (fun hap => ?_)
          refine OpE.append1S (i := 2) rfl hB rfl Tryz.underlying109 (infoOf Tryz.t125 2 (by kernel_rfl) rfl rfl) rfl (by decide) (by decide) rfl rfl rfl rfl (rowL_snoc ns (⟨k4P.getD r ByteArray.empty, r35⟩ : NeedS)) (by omega) (fun g' hg => .inr ⟨rfl, apart_ne hap (i := 2) (j := 1) hg rfl (by decide)⟩) ?_
          intro b2 c2
          refine VA.take (i := 8) rfl (by decide +kernel) (by decide +kernel) (by decide +kernel) rfl rfl (OpV.fieldAddrO 2 rfl Tryz.underlying142 rfl rfl Tryz.sizeOf109 rfl) ?_
          refine VA.all (rs := [9]) (by decide +kernel) (by decide) ?_
          refine ⟨⟨_, rfl, .inl rfl, ?_⟩, trivial⟩
          refine OpE.hap (fun hap => ?_)
          refine OpE.store (i := 1) rfl hB rfl Tryz.sizeOf109 rfl rfl rfl rfl rfl rfl (Nle rfl) (by first | exact .inl ⟨rfl, rfl⟩ | (refine ⟨by first | exact rfl | exact .inl rfl | exact .inr rfl, ?_⟩; repeat (first | (first | exact apart_ne hap (i := 2) (j := 0) rfl rfl (by decide) | exact apart_ne hap (i := 2) (j := 1) rfl rfl (by decide) | exact apart_ne hap (i := 1) (j := 0) rfl rfl (by decide) | exact apart_ne hap (i := 1) (j := 2) rfl rfl (by decide) | exact apart_ne hap (i := 0) (j := 1) rfl rfl (by decide) | exact apart_ne hap (i := 0) (j := 2) rfl rfl (by decide)) | refine And.intro ?_ ?_))) ?_
          refine VA.done (by decide +kernel) ?_
          refine VC.region ?_
          refine VO.val rfl rfl (OpV.add rfl rfl rfl (by unfold fits; omega)) ?_
          refine VO.mv rfl rfl rfl rfl ?_
          refine VO.nil ?_
          exact Exists.intro (⟨(b2, c2, ns ++ [⟨k4P.getD r ByteArray.empty, r35⟩], r + 1), by show r + 1 ≤ 4; omega, hns.snoc (k4P_size r)⟩) (And.intro (Le.mk hB [0, 1, 2] ⟨rfl, rfl, rfl, rfl, rfl, rfl, rfl, rfl, rfl, trivial⟩ rfl (by dsimp only; first | rfl | (rw [List.length_append]; rfl)) (show k + 12 * q + 2 + 2 * r + 1 + 1 ≤ k + 12 * q + 2 + 2 * (r + 1) by omega)) (by first | omega | (show _ < _; omega) | (simp only []; omega)))
        · have aH4 := aH4b
          try simp only [qqT, qqF, qqN, qqM, qqL, qqE] at aH4
          refine VC.skip ?_
          refine VC.region ?_
          refine VO.val rfl rfl (OpV.add rfl rfl rfl (by unfold fits; omega)) ?_
          refine VO.mv rfl rfl rfl rfl ?_
          refine VO.nil ?_
          exact Exists.intro (⟨(b, c, ns, r + 1), by show r + 1 ≤ 4; omega, hns.mono (by show r ≤ r + 1; omega)⟩) (And.intro (Le.mk hB [0, 1, 2] ⟨rfl, rfl, rfl, rfl, rfl, rfl, rfl, rfl, rfl, trivial⟩ rfl (by dsimp only; first | rfl | (rw [List.length_append]; rfl)) (show k + 12 * q + 2 + 2 * r + 1 ≤ k + 12 * q + 2 + 2 * (r + 1) by omega)) (by first | omega | (show _ < _; omega) | (simp only []; omega)))
      · have aH3 := aH3b
        try simp only [qqT, qqF, qqN, qqM, qqL, qqE] at aH3
        refine VC.exit ?_
        refine VC.le _ (Le.cellRow (i := 1) (k := 2) (j := 2) (y := avL ns) hB rfl rfl rfl (by omega) (fun w Z u h => Rep.rowL (xs := ns) rfl h)) ?_
        refine VC.region ?_
        refine VO.mv rfl rfl rfl rfl ?_
        refine VO.val rfl rfl (OpV.loadK_own (i := 1) rfl hB Tryz.isAgg142 Tryz.sizeOf142 rfl rfl rfl (fun h => h)) ?_
        refine VO.op rfl (OpE.buildSlice (zc := #[.string ⟨#[]⟩, .int .i64 0, .slice none 0 0]) rfl hB rfl Tryz.underlying26 Tryz.sizeOf142 Tryz.zeroValue142 (by decide) (by decide) (by kernel_rfl) rfl rfl ?_)
        refine VO.op rfl (OpE.append1 (i := 0) rfl hB rfl Tryz.underlying26 (infoOf Tryz.t142 3 (by kernel_rfl) rfl rfl) rfl (by decide) (by decide) rfl rfl rfl rfl (rowL_snoc l (⟨k3P.getD q ByteArray.empty, r21, ns⟩ : PaceS)) (by omega) (fun _ _ => trivial) ?_)
        intro u2
        refine VO.ma rfl rfl rfl rfl ?_
        refine VO.nil ?_
        refine VC.region ?_
        refine VO.val rfl rfl (OpV.add rfl rfl rfl (by unfold fits; omega)) ?_
        refine VO.mv rfl rfl rfl rfl ?_
        refine VO.nil ?_
        exact Exists.intro (⟨(u2, l ++ [⟨k3P.getD q ByteArray.empty, r21, ns⟩], q + 1), by show q + 1 ≤ 3; omega, by show (l ++ [_]).length ≤ q + 1; simp; omega, fun x hx => by rcases List.mem_append.1 hx with hx | hx; exact hok x hx; (simp at hx; subst hx; exact ⟨k3P_size q, hns.mono (by omega)⟩)⟩) (And.intro (Le.mk hB [0] ⟨rfl, rfl, rfl, rfl, rfl, trivial⟩ rfl (by dsimp only; first | rfl | (rw [List.length_append]; rfl)) (show k + 12 * q + 2 + 2 * r ≤ k + 12 * (q + 1) by omega)) (by first | omega | (show _ < _; omega) | (simp only []; omega)))
  · have aH1 := aH1b
    try simp only [qqT, qqF, qqN, qqM, qqL, qqE] at aH1
    refine VC.exit ?_
    refine VC.seq ?_
    refine VC.sr ?_
    refine VO.mv rfl rfl rfl rfl ?_
    refine VO.val rfl rfl (OpV.len_row (i := 0) rfl Tryz.underlying26 rfl rfl) ?_
    refine VO.val rfl rfl (OpV.gtr rfl rfl rfl) ?_
    refine VO.mv rfl rfl rfl rfl ?_
    refine VO.opG rfl rfl rfl rfl (fun aK5b => ?_) (fun aK5b => ?_)
    · replace aK5b : _ = true := aK5b
      have aK5 := aK5b
      try simp only [qqT, qqF, qqN, qqM, qqL, qqE] at aK5
      refine OpE.val (W := NoB) (OpV.move (.inl rfl) rfl) rfl ?_
      refine VO.opY rfl rfl rfl rfl aK5b ?_
      refine OpE.callT' (k + 12 * q) rfl rfl hB rfl Tryz.call17 rfl ((flip_T (by omega))) (by omega) ?_
      rintro _ ⟨r51, rfl⟩
      refine VO.val rfl rfl (OpV.pickT rfl rfl rfl rfl aK5b) ?_
      refine VO.nil ?_
      refine VC.cond rfl (fun aH6b => ?_) (fun aH6b => ?_)
      · have aH6 := aH6b
        try simp only [qqT, qqF, qqN, qqM, qqL, qqE] at aH6
        refine VC.seq ?_
        refine VC.asBox (i := 0) rfl (by omega) (fun gr cap hu hcap hmx => ?_)
        subst hu
        refine VC.region ?_
        refine VO.mv rfl rfl rfl rfl ?_
        refine VO.mv rfl rfl rfl rfl ?_
        refine VO.mv rfl rfl rfl rfl ?_
        refine VO.val rfl rfl (OpV.len_v rfl Tryz.underlying26 rfl) ?_
        refine VO.op rfl (OpE.callT' (k + 12 * q + 1) rfl rfl hB rfl Tryz.call42 rfl ((next_T (by omega))) (by omega) ?_)
        rintro _ ⟨r57, hr57, rfl⟩
        obtain ⟨i, rfl⟩ : ∃ i : Nat, r57 = i := ⟨r57.toNat, by omega⟩
        refine VO.val rfl rfl (OpV.indexAddr_q rfl Tryz.underlying26 Tryz.sizeOf142 rfl rfl rfl (by omega)) ?_
        refine VO.ma rfl rfl rfl rfl ?_
        refine VO.nil ?_
        refine VC.seq ?_
        refine VC.draw (fun j b => j ∈ [18, 21] ∧ b = gr) hB (by kernel_rfl) ?_
        refine VA.take (i := 0) rfl (by decide +kernel) (by decide +kernel) (by decide +kernel) rfl rfl (OpV.move (.inl rfl) rfl) ?_
        refine VA.take (i := 1) rfl (by decide +kernel) (by decide +kernel) (by decide +kernel) rfl rfl (OpV.move (.inl rfl) rfl) ?_
        refine VA.take (i := 2) rfl (by decide +kernel) (by decide +kernel) (by decide +kernel) rfl rfl (OpV.move (.inl rfl) rfl) ?_
        refine VA.take (i := 3) rfl (by decide +kernel) (by decide +kernel) (by decide +kernel) rfl rfl (OpV.move (.inl rfl) rfl) ?_
        refine VA.take (i := 4) rfl (by decide +kernel) (by decide +kernel) (by decide +kernel) rfl rfl (OpV.nilCheck rfl rfl) ?_
        refine VA.take (i := 5) rfl (by decide +kernel) (by decide +kernel) (by decide +kernel) rfl rfl (OpV.fieldAddrO 0 rfl Tryz.underlying142 rfl rfl Tryz.sizeOf9 rfl) ?_
        refine VA.take (i := 6) rfl (by decide +kernel) (by decide +kernel) (by decide +kernel) rfl rfl (OpV.load_own (i := 0) rfl hB Tryz.isAgg9 rfl rfl (rowL_at rfl (by omega) (by decide)) (Wi.notD (by decide +kernel))) ?_
        refine VA.take (i := 9) rfl (by decide +kernel) (by decide +kernel) (by decide +kernel) rfl rfl (OpV.move (.inl rfl) rfl) ?_
        refine VA.take (i := 10) rfl (by decide +kernel) (by decide +kernel) (by decide +kernel) rfl rfl (OpV.move (.inl rfl) rfl) ?_
        refine VA.take (i := 11) rfl (by decide +kernel) (by decide +kernel) (by decide +kernel) rfl rfl (OpV.nilCheck rfl rfl) ?_
        refine VA.take (i := 12) rfl (by decide +kernel) (by decide +kernel) (by decide +kernel) rfl rfl (OpV.fieldAddrO 1 rfl Tryz.underlying142 rfl rfl Tryz.sizeOf3 rfl) ?_
        refine VA.take (i := 13) rfl (by decide +kernel) (by decide +kernel) (by decide +kernel) rfl rfl (OpV.load_own (i := 0) rfl hB Tryz.isAgg3 rfl rfl (rowL_at rfl (by omega) (by decide)) (Wi.notD (by decide +kernel))) ?_
        refine VA.all (rs := [7, 14]) (by decide +kernel) (by decide) ?_
        refine ⟨⟨_, rfl, .inl rfl, ?_⟩, ⟨_, rfl, .inl rfl, ?_⟩, trivial⟩
        ·
          refine OpE.buildSlice (zc := #[.string ⟨#[]⟩, .string ⟨#[]⟩, .string ⟨#[]⟩]) rfl hB rfl Tryz.underlying95 Tryz.sizeOf9 Tryz.zeroValue9 (by decide) (by decide) (by kernel_rfl) rfl rfl ?_
          refine VA.all (rs := [8, 14]) (by decide +kernel) (by decide) ?_
          refine ⟨⟨_, rfl, .inl rfl, ?_⟩, ⟨_, rfl, .inl rfl, ?_⟩, trivial⟩
          ·
            refine OpE.callT' (k + 12 * q + 1 + 1) rfl rfl hB rfl Tryz.call32 rfl (some_T 1000 (by rfl) (by decide) (by decide) (AllS.cons (PcOk.getD hok i).1 (AllS.cons (by decide) (AllS.cons (by decide) AllS.nil)))) (by omega) ?_
            rintro _ ⟨r67, hr67, rfl⟩
            refine VA.all (rs := [14]) (by decide +kernel) (by decide) ?_
            refine ⟨⟨_, rfl, .inl rfl, ?_⟩, trivial⟩
            refine OpE.buildSlice (zc := #[.int .i64 0, .int .i64 0, .int .i64 0]) rfl hB rfl Tryz.underlying22 Tryz.sizeOf3 Tryz.zeroValue3 (by decide) (by decide) (by kernel_rfl) rfl rfl ?_
            refine VA.all (rs := [15]) (by decide +kernel) (by decide) ?_
            refine ⟨⟨_, rfl, .inl rfl, ?_⟩, trivial⟩
            refine OpE.callT' (k + 12 * q + 1 + 1 + 1) rfl rfl hB rfl Tryz.call21 rfl (pick_X (by rfl) (by decide) (by decide) (by repeat (first | exact AllX.nil | refine AllX.cons ?_))) (by omega) ?_
            rintro _ ⟨r74, rfl⟩
            refine VA.take (i := 16) rfl (by decide +kernel) (by decide +kernel) (by decide +kernel) rfl rfl (OpV.nilCheck rfl rfl) ?_
            refine VA.take (i := 17) rfl (by decide +kernel) (by decide +kernel) (by decide +kernel) rfl rfl (OpV.fieldAddrO 0 rfl Tryz.underlying142 rfl rfl Tryz.sizeOf9 rfl) ?_
            refine VA.all (rs := [18]) (by decide +kernel) (by decide) ?_
            refine ⟨⟨_, rfl, .inl rfl, ?_⟩, trivial⟩
            refine OpE.store1 (i := 0) rfl hB rfl Tryz.sizeOf9 rfl rfl rfl rfl rfl rfl (rowL_in rfl (by omega) (by decide)) (rowL_set (x := ({l.getD i default with product := r67} : PaceS)) rfl (by omega) (by decide) rfl (fun i hi hn => pc_upd (by simp) (by simp) (by simp) i hi hn)) (by first | exact ⟨rfl, rfl⟩ | exact .inl ⟨rfl, rfl⟩ | exact .inr ⟨rfl, rfl⟩ | exact ⟨rfl, trivial⟩ | exact .inl ⟨rfl, trivial⟩ | exact .inr ⟨rfl, trivial⟩ | exact ⟨by decide, rfl⟩) ?_
            refine VA.take (i := 19) rfl (by decide +kernel) (by decide +kernel) (by decide +kernel) rfl rfl (OpV.nilCheck rfl rfl) ?_
            refine VA.take (i := 20) rfl (by decide +kernel) (by decide +kernel) (by decide +kernel) rfl rfl (OpV.fieldAddrO 1 rfl Tryz.underlying142 rfl rfl Tryz.sizeOf3 rfl) ?_
            refine VA.all (rs := [21]) (by decide +kernel) (by decide) ?_
            refine ⟨⟨_, rfl, .inl rfl, ?_⟩, trivial⟩
            refine OpE.store1 (i := 0) rfl hB rfl Tryz.sizeOf3 rfl rfl rfl rfl rfl rfl (rowL_in rfl (by rw [List.length_set]; omega) (by decide)) (rowL_set (x := ({l.getD i default with product := r67, cycle := r74} : PaceS)) rfl (by rw [List.length_set]; omega) (by decide) rfl (fun i hi hn => by rw [getSetP (by omega)]; exact pc_upd (by simp) (by simp) (by simp) i hi hn)) (by first | exact ⟨rfl, rfl⟩ | exact .inl ⟨rfl, rfl⟩ | exact .inr ⟨rfl, rfl⟩ | exact ⟨rfl, trivial⟩ | exact .inl ⟨rfl, trivial⟩ | exact .inr ⟨rfl, trivial⟩ | exact ⟨by decide, rfl⟩) ?_
            refine VA.done (by decide +kernel) ?_
            refine VC.seq ?_
            obtain ⟨l2, e2, h2, ok2⟩ : ∃ l2 : List PaceS, l2 = (l.set i ({l.getD i default with product := r67} : PaceS)).set i ({l.getD i default with product := r67, cycle := r74} : PaceS) ∧ l2.length = l.length ∧ ∀ x ∈ l2, PcOk 4 x := ⟨_, rfl, by simp, PcOk.setD (PcOk.setD hok i (x := ⟨r67, (l.getD i default).cycle, (l.getD i default).needs⟩) ⟨hr67, (PcOk.getD hok i).2⟩) i (x := ⟨r67, r74, (l.getD i default).needs⟩) ⟨hr67, (PcOk.getD hok i).2⟩⟩
            refine VC.le _ (Le.pickH (hp := [.box gr ⟨rowL l2, 142, cap * 3⟩]) [0] rfl (by rw [e2]; rfl)) ?_
            refine VC.region ?_
            refine VO.mv rfl rfl rfl rfl ?_
            refine VO.op rfl (OpE.callT' (k + 12 * q + 1 + 1 + 1 + 1) rfl rfl hB rfl Tryz.call17 rfl ((flip_T (by omega))) (by omega) ?_)
            rintro _ ⟨r80, rfl⟩
            refine VO.nil ?_
            refine VC.cond rfl (fun aH7b => ?_) (fun aH7b => ?_)
            · have aH7 := aH7b
              try simp only [qqT, qqF, qqN, qqM, qqL, qqE] at aH7
              refine VC.region ?_
              refine VO.mv rfl rfl rfl rfl ?_
              refine VO.mv rfl rfl rfl rfl ?_
              refine VO.val rfl rfl (OpV.nilCheck rfl rfl) ?_
              refine VO.val rfl rfl (OpV.fieldAddrO 2 rfl Tryz.underlying142 rfl rfl Tryz.sizeOf109 rfl) ?_
              refine VO.val rfl rfl (OpV.load_own (i := 0) rfl hB Tryz.isAgg109 rfl rfl (rowL_at rfl (by first | omega | (simp only [List.length_set]; omega)) (by decide)) (fun h => h)) ?_
              refine VO.op rfl (OpE.callR rfl hB rfl Tryz.call110 (slices_CloneN_R (by have := (PcOk.getD ok2 i).2.1; omega)) (ArgsP.cons (ArgP.ev rfl) (ArgsP.nil)) ?_)
              intro u86
              refine VO.mv rfl rfl rfl rfl ?_
              refine VO.op rfl (OpE.buildSlice (zc := #[.string ⟨#[]⟩, .string ⟨#[]⟩]) rfl hB rfl Tryz.underlying95 Tryz.sizeOf9 Tryz.zeroValue9 (by decide) (by decide) (by kernel_rfl) rfl rfl ?_)
              refine VO.op rfl (OpE.callT' (k + 12 * q + 1 + 1 + 1 + 1 + 1) rfl rfl hB rfl Tryz.call32 rfl ((some_T 1000 (by rfl) (by decide) (by decide) (by repeat (first | exact AllS.nil | refine AllS.cons (by first | decide | omega) ?_)))) (by omega) ?_)
              rintro _ ⟨r89, hr89, rfl⟩
              refine VO.mv rfl rfl rfl rfl ?_
              refine VO.op rfl (OpE.buildSlice (zc := #[.int .i64 0, .int .i64 0]) rfl hB rfl Tryz.underlying22 Tryz.sizeOf3 Tryz.zeroValue3 (by decide) (by decide) (by kernel_rfl) rfl rfl ?_)
              refine VO.op rfl (OpE.callT' (k + 12 * q + 1 + 1 + 1 + 1 + 1 + 1) rfl rfl hB rfl Tryz.call21 rfl ((pick_T (-100000000) 100000000 (by rfl) (by decide) (by decide) (by repeat (first | exact AllI.nil | refine AllI.cons (by omega) ?_)))) (by omega) ?_)
              rintro _ ⟨r92, hr92, rfl⟩
              refine VO.val rfl rfl (OpV.build (pls := #[(0, 1), (1, 1)]) rfl Tryz.zeroValue125 Tryz.underlying125 (fun w => by kernel_rfl) rfl rfl) ?_
              refine VO.op rfl (OpE.buildSlice (zc := #[.string ⟨#[]⟩, .int .i64 0]) rfl hB rfl Tryz.underlying109 Tryz.sizeOf125 Tryz.zeroValue125 (by decide) (by decide) (by kernel_rfl) rfl rfl ?_)
              refine VO.op rfl (OpE.append1 (i := 1) rfl hB rfl Tryz.underlying109 (infoOf Tryz.t125 2 (by kernel_rfl) rfl rfl) rfl (by decide) (by decide) rfl rfl rfl rfl (rowL_snoc (l2.getD i default).needs (⟨r89, r92⟩ : NeedS)) (by have := (PcOk.getD ok2 i).2.1; omega) (fun _ _ => trivial) ?_)
              intro u95
              refine VO.le _ (Le.rowT (t := 95) (xs := (l2.getD i default).needs ++ [(⟨r89, r92⟩ : NeedS)]) (i := 1) hB hnew rfl rfl (by simp)) ?_
              refine VO.val rfl rfl (OpV.nilCheck rfl rfl) ?_
              refine VO.val rfl rfl (OpV.fieldAddrO 2 rfl Tryz.underlying142 rfl rfl Tryz.sizeOf109 rfl) ?_
              refine VO.op rfl (OpE.store1 (i := 0) rfl hB rfl Tryz.sizeOf109 rfl rfl rfl rfl rfl rfl (rowL_in rfl (by omega) (by decide)) (rowL_set (x := ({l2.getD i default with needs := (l2.getD i default).needs ++ [(⟨r89, r92⟩ : NeedS)]} : PaceS)) rfl (by omega) (by decide) rfl (fun i hi hn => pc_upd (by simp) (by simp) (by simp) i hi hn)) trivial ?_)
              refine VO.nil ?_
              refine VC.sr ?_
              refine VO.mv rfl rfl rfl rfl ?_
              refine VO.ma rfl rfl rfl rfl ?_
              refine VO.nil ?_
              refine VC.le _ (Le.boxT (t := 2) (i := 0) (n := l.length) (xs := l2.set i ({l2.getD i default with needs := (l2.getD i default).needs ++ [(⟨r89, r92⟩ : NeedS)]} : PaceS)) hB hnew rfl rfl (by rw [List.length_set]; omega) hcap hmx) ?_
              refine VC.ret ?_
              exact Exists.intro _ (And.intro (RetV.one Tryz.results15 (ResV.tmp rfl)) (And.intro (by first | exact ⟨l, ⟨by omega, fun x hx => (hok x hx).mono (by omega)⟩, rfl⟩ | exact ⟨l2, ⟨by omega, fun x hx => (ok2 x hx).mono (by omega)⟩, rfl⟩ | exact ⟨l2.set i ({l2.getD i default with needs := (l2.getD i default).needs ++ [(⟨r89, r92⟩ : NeedS)]} : PaceS), ⟨by rw [List.length_set]; omega, PcOk.setD (fun x hx => (ok2 x hx).mono (by omega)) _ ⟨(PcOk.getD ok2 i).1, (PcOk.getD ok2 i).2.snoc hr89⟩⟩, rfl⟩) ((show k + 12 * q + 1 + 1 + 1 + 1 + 1 + 1 + 1 ≤ k + 100 by omega))))
            · have aH7 := aH7b
              try simp only [qqT, qqF, qqN, qqM, qqL, qqE] at aH7
              refine VC.skip ?_
              refine VC.sr ?_
              refine VO.mv rfl rfl rfl rfl ?_
              refine VO.ma rfl rfl rfl rfl ?_
              refine VO.nil ?_
              refine VC.le _ (Le.boxT (t := 2) (i := 0) (n := l.length) (xs := l2) hB hnew rfl rfl (by omega) hcap hmx) ?_
              refine VC.ret ?_
              exact Exists.intro _ (And.intro (RetV.one Tryz.results15 (ResV.tmp rfl)) (And.intro (by first | exact ⟨l, ⟨by omega, fun x hx => (hok x hx).mono (by omega)⟩, rfl⟩ | exact ⟨l2, ⟨by omega, fun x hx => (ok2 x hx).mono (by omega)⟩, rfl⟩ | exact ⟨l2.set i ({l2.getD i default with needs := (l2.getD i default).needs ++ [(⟨r89, r92⟩ : NeedS)]} : PaceS), ⟨by rw [List.length_set]; omega, PcOk.setD (fun x hx => (ok2 x hx).mono (by omega)) _ ⟨(PcOk.getD ok2 i).1, (PcOk.getD ok2 i).2.snoc hr89⟩⟩, rfl⟩) ((show k + 12 * q + 1 + 1 + 1 + 1 + 1 ≤ k + 100 by omega))))
          ·
            refine OpE.buildSlice (zc := #[.int .i64 0, .int .i64 0, .int .i64 0]) rfl hB rfl Tryz.underlying22 Tryz.sizeOf3 Tryz.zeroValue3 (by decide) (by decide) (by kernel_rfl) rfl rfl ?_
            refine VA.all (rs := [8]) (by decide +kernel) (by decide) ?_
            refine ⟨⟨_, rfl, .inl rfl, ?_⟩, trivial⟩
            refine OpE.callT' (k + 12 * q + 1 + 1) rfl rfl hB rfl Tryz.call32 rfl (some_T 1000 (by rfl) (by decide) (by decide) (AllS.cons (PcOk.getD hok i).1 (AllS.cons (by decide) (AllS.cons (by decide) AllS.nil)))) (by omega) ?_
            rintro _ ⟨r67, hr67, rfl⟩
            refine VA.all (rs := [15]) (by decide +kernel) (by decide) ?_
            refine ⟨⟨_, rfl, .inl rfl, ?_⟩, trivial⟩
            refine OpE.callT' (k + 12 * q + 1 + 1 + 1) rfl rfl hB rfl Tryz.call21 rfl (pick_X (by rfl) (by decide) (by decide) (by repeat (first | exact AllX.nil | refine AllX.cons ?_))) (by omega) ?_
            rintro _ ⟨r74, rfl⟩
            refine VA.take (i := 16) rfl (by decide +kernel) (by decide +kernel) (by decide +kernel) rfl rfl (OpV.nilCheck rfl rfl) ?_
            refine VA.take (i := 17) rfl (by decide +kernel) (by decide +kernel) (by decide +kernel) rfl rfl (OpV.fieldAddrO 0 rfl Tryz.underlying142 rfl rfl Tryz.sizeOf9 rfl) ?_
            refine VA.all (rs := [18]) (by decide +kernel) (by decide) ?_
            refine ⟨⟨_, rfl, .inl rfl, ?_⟩, trivial⟩
            refine OpE.store1 (i := 0) rfl hB rfl Tryz.sizeOf9 rfl rfl rfl rfl rfl rfl (rowL_in rfl (by omega) (by decide)) (rowL_set (x := ({l.getD i default with product := r67} : PaceS)) rfl (by omega) (by decide) rfl (fun i hi hn => pc_upd (by simp) (by simp) (by simp) i hi hn)) (by first | exact ⟨rfl, rfl⟩ | exact .inl ⟨rfl, rfl⟩ | exact .inr ⟨rfl, rfl⟩ | exact ⟨rfl, trivial⟩ | exact .inl ⟨rfl, trivial⟩ | exact .inr ⟨rfl, trivial⟩ | exact ⟨by decide, rfl⟩) ?_
            refine VA.take (i := 19) rfl (by decide +kernel) (by decide +kernel) (by decide +kernel) rfl rfl (OpV.nilCheck rfl rfl) ?_
            refine VA.take (i := 20) rfl (by decide +kernel) (by decide +kernel) (by decide +kernel) rfl rfl (OpV.fieldAddrO 1 rfl Tryz.underlying142 rfl rfl Tryz.sizeOf3 rfl) ?_
            refine VA.all (rs := [21]) (by decide +kernel) (by decide) ?_
            refine ⟨⟨_, rfl, .inl rfl, ?_⟩, trivial⟩
            refine OpE.store1 (i := 0) rfl hB rfl Tryz.sizeOf3 rfl rfl rfl rfl rfl rfl (rowL_in rfl (by rw [List.length_set]; omega) (by decide)) (rowL_set (x := ({l.getD i default with product := r67, cycle := r74} : PaceS)) rfl (by rw [List.length_set]; omega) (by decide) rfl (fun i hi hn => by rw [getSetP (by omega)]; exact pc_upd (by simp) (by simp) (by simp) i hi hn)) (by first | exact ⟨rfl, rfl⟩ | exact .inl ⟨rfl, rfl⟩ | exact .inr ⟨rfl, rfl⟩ | exact ⟨rfl, trivial⟩ | exact .inl ⟨rfl, trivial⟩ | exact .inr ⟨rfl, trivial⟩ | exact ⟨by decide, rfl⟩) ?_
            refine VA.done (by decide +kernel) ?_
            refine VC.seq ?_
            obtain ⟨l2, e2, h2, ok2⟩ : ∃ l2 : List PaceS, l2 = (l.set i ({l.getD i default with product := r67} : PaceS)).set i ({l.getD i default with product := r67, cycle := r74} : PaceS) ∧ l2.length = l.length ∧ ∀ x ∈ l2, PcOk 4 x := ⟨_, rfl, by simp, PcOk.setD (PcOk.setD hok i (x := ⟨r67, (l.getD i default).cycle, (l.getD i default).needs⟩) ⟨hr67, (PcOk.getD hok i).2⟩) i (x := ⟨r67, r74, (l.getD i default).needs⟩) ⟨hr67, (PcOk.getD hok i).2⟩⟩
            refine VC.le _ (Le.pickH (hp := [.box gr ⟨rowL l2, 142, cap * 3⟩]) [0] rfl (by rw [e2]; rfl)) ?_
            refine VC.region ?_
            refine VO.mv rfl rfl rfl rfl ?_
            refine VO.op rfl (OpE.callT' (k + 12 * q + 1 + 1 + 1 + 1) rfl rfl hB rfl Tryz.call17 rfl ((flip_T (by omega))) (by omega) ?_)
            rintro _ ⟨r80, rfl⟩
            refine VO.nil ?_
            refine VC.cond rfl (fun aH8b => ?_) (fun aH8b => ?_)
            · have aH8 := aH8b
              try simp only [qqT, qqF, qqN, qqM, qqL, qqE] at aH8
              refine VC.region ?_
              refine VO.mv rfl rfl rfl rfl ?_
              refine VO.mv rfl rfl rfl rfl ?_
              refine VO.val rfl rfl (OpV.nilCheck rfl rfl) ?_
              refine VO.val rfl rfl (OpV.fieldAddrO 2 rfl Tryz.underlying142 rfl rfl Tryz.sizeOf109 rfl) ?_
              refine VO.val rfl rfl (OpV.load_own (i := 0) rfl hB Tryz.isAgg109 rfl rfl (rowL_at rfl (by first | omega | (simp only [List.length_set]; omega)) (by decide)) (fun h => h)) ?_
              refine VO.op rfl (OpE.callR rfl hB rfl Tryz.call110 (slices_CloneN_R (by have := (PcOk.getD ok2 i).2.1; omega)) (ArgsP.cons (ArgP.ev rfl) (ArgsP.nil)) ?_)
              intro u86
              refine VO.mv rfl rfl rfl rfl ?_
              refine VO.op rfl (OpE.buildSlice (zc := #[.string ⟨#[]⟩, .string ⟨#[]⟩]) rfl hB rfl Tryz.underlying95 Tryz.sizeOf9 Tryz.zeroValue9 (by decide) (by decide) (by kernel_rfl) rfl rfl ?_)
              refine VO.op rfl (OpE.callT' (k + 12 * q + 1 + 1 + 1 + 1 + 1) rfl rfl hB rfl Tryz.call32 rfl ((some_T 1000 (by rfl) (by decide) (by decide) (by repeat (first | exact AllS.nil | refine AllS.cons (by first | decide | omega) ?_)))) (by omega) ?_)
              rintro _ ⟨r89, hr89, rfl⟩
              refine VO.mv rfl rfl rfl rfl ?_
              refine VO.op rfl (OpE.buildSlice (zc := #[.int .i64 0, .int .i64 0]) rfl hB rfl Tryz.underlying22 Tryz.sizeOf3 Tryz.zeroValue3 (by decide) (by decide) (by kernel_rfl) rfl rfl ?_)
              refine VO.op rfl (OpE.callT' (k + 12 * q + 1 + 1 + 1 + 1 + 1 + 1) rfl rfl hB rfl Tryz.call21 rfl ((pick_T (-100000000) 100000000 (by rfl) (by decide) (by decide) (by repeat (first | exact AllI.nil | refine AllI.cons (by omega) ?_)))) (by omega) ?_)
              rintro _ ⟨r92, hr92, rfl⟩
              refine VO.val rfl rfl (OpV.build (pls := #[(0, 1), (1, 1)]) rfl Tryz.zeroValue125 Tryz.underlying125 (fun w => by kernel_rfl) rfl rfl) ?_
              refine VO.op rfl (OpE.buildSlice (zc := #[.string ⟨#[]⟩, .int .i64 0]) rfl hB rfl Tryz.underlying109 Tryz.sizeOf125 Tryz.zeroValue125 (by decide) (by decide) (by kernel_rfl) rfl rfl ?_)
              refine VO.op rfl (OpE.append1 (i := 1) rfl hB rfl Tryz.underlying109 (infoOf Tryz.t125 2 (by kernel_rfl) rfl rfl) rfl (by decide) (by decide) rfl rfl rfl rfl (rowL_snoc (l2.getD i default).needs (⟨r89, r92⟩ : NeedS)) (by have := (PcOk.getD ok2 i).2.1; omega) (fun _ _ => trivial) ?_)
              intro u95
              refine VO.le _ (Le.rowT (t := 95) (xs := (l2.getD i default).needs ++ [(⟨r89, r92⟩ : NeedS)]) (i := 1) hB hnew rfl rfl (by simp)) ?_
              refine VO.val rfl rfl (OpV.nilCheck rfl rfl) ?_
              refine VO.val rfl rfl (OpV.fieldAddrO 2 rfl Tryz.underlying142 rfl rfl Tryz.sizeOf109 rfl) ?_
              refine VO.op rfl (OpE.store1 (i := 0) rfl hB rfl Tryz.sizeOf109 rfl rfl rfl rfl rfl rfl (rowL_in rfl (by omega) (by decide)) (rowL_set (x := ({l2.getD i default with needs := (l2.getD i default).needs ++ [(⟨r89, r92⟩ : NeedS)]} : PaceS)) rfl (by omega) (by decide) rfl (fun i hi hn => pc_upd (by simp) (by simp) (by simp) i hi hn)) trivial ?_)
              refine VO.nil ?_
              refine VC.sr ?_
              refine VO.mv rfl rfl rfl rfl ?_
              refine VO.ma rfl rfl rfl rfl ?_
              refine VO.nil ?_
              refine VC.le _ (Le.boxT (t := 2) (i := 0) (n := l.length) (xs := l2.set i ({l2.getD i default with needs := (l2.getD i default).needs ++ [(⟨r89, r92⟩ : NeedS)]} : PaceS)) hB hnew rfl rfl (by rw [List.length_set]; omega) hcap hmx) ?_
              refine VC.ret ?_
              exact Exists.intro _ (And.intro (RetV.one Tryz.results15 (ResV.tmp rfl)) (And.intro (by first | exact ⟨l, ⟨by omega, fun x hx => (hok x hx).mono (by omega)⟩, rfl⟩ | exact ⟨l2, ⟨by omega, fun x hx => (ok2 x hx).mono (by omega)⟩, rfl⟩ | exact ⟨l2.set i ({l2.getD i default with needs := (l2.getD i default).needs ++ [(⟨r89, r92⟩ : NeedS)]} : PaceS), ⟨by rw [List.length_set]; omega, PcOk.setD (fun x hx => (ok2 x hx).mono (by omega)) _ ⟨(PcOk.getD ok2 i).1, (PcOk.getD ok2 i).2.snoc hr89⟩⟩, rfl⟩) ((show k + 12 * q + 1 + 1 + 1 + 1 + 1 + 1 + 1 ≤ k + 100 by omega))))
            · have aH8 := aH8b
              try simp only [qqT, qqF, qqN, qqM, qqL, qqE] at aH8
              refine VC.skip ?_
              refine VC.sr ?_
              refine VO.mv rfl rfl rfl rfl ?_
              refine VO.ma rfl rfl rfl rfl ?_
              refine VO.nil ?_
              refine VC.le _ (Le.boxT (t := 2) (i := 0) (n := l.length) (xs := l2) hB hnew rfl rfl (by omega) hcap hmx) ?_
              refine VC.ret ?_
              exact Exists.intro _ (And.intro (RetV.one Tryz.results15 (ResV.tmp rfl)) (And.intro (by first | exact ⟨l, ⟨by omega, fun x hx => (hok x hx).mono (by omega)⟩, rfl⟩ | exact ⟨l2, ⟨by omega, fun x hx => (ok2 x hx).mono (by omega)⟩, rfl⟩ | exact ⟨l2.set i ({l2.getD i default with needs := (l2.getD i default).needs ++ [(⟨r89, r92⟩ : NeedS)]} : PaceS), ⟨by rw [List.length_set]; omega, PcOk.setD (fun x hx => (ok2 x hx).mono (by omega)) _ ⟨(PcOk.getD ok2 i).1, (PcOk.getD ok2 i).2.snoc hr89⟩⟩, rfl⟩) ((show k + 12 * q + 1 + 1 + 1 + 1 + 1 ≤ k + 100 by omega))))
        ·
          refine OpE.buildSlice (zc := #[.int .i64 0, .int .i64 0, .int .i64 0]) rfl hB rfl Tryz.underlying22 Tryz.sizeOf3 Tryz.zeroValue3 (by decide) (by decide) (by kernel_rfl) rfl rfl ?_
          refine VA.all (rs := [7]) (by decide +kernel) (by decide) ?_
          refine ⟨⟨_, rfl, .inl rfl, ?_⟩, trivial⟩
          refine OpE.buildSlice (zc := #[.string ⟨#[]⟩, .string ⟨#[]⟩, .string ⟨#[]⟩]) rfl hB rfl Tryz.underlying95 Tryz.sizeOf9 Tryz.zeroValue9 (by decide) (by decide) (by kernel_rfl) rfl rfl ?_
          refine VA.all (rs := [8]) (by decide +kernel) (by decide) ?_
          refine ⟨⟨_, rfl, .inl rfl, ?_⟩, trivial⟩
          refine OpE.callT' (k + 12 * q + 1 + 1) rfl rfl hB rfl Tryz.call32 rfl (some_T 1000 (by rfl) (by decide) (by decide) (AllS.cons (PcOk.getD hok i).1 (AllS.cons (by decide) (AllS.cons (by decide) AllS.nil)))) (by omega) ?_
          rintro _ ⟨r67, hr67, rfl⟩
          refine VA.all (rs := [15]) (by decide +kernel) (by decide) ?_
          refine ⟨⟨_, rfl, .inl rfl, ?_⟩, trivial⟩
          refine OpE.callT' (k + 12 * q + 1 + 1 + 1) rfl rfl hB rfl Tryz.call21 rfl (pick_X (by rfl) (by decide) (by decide) (by repeat (first | exact AllX.nil | refine AllX.cons ?_))) (by omega) ?_
          rintro _ ⟨r74, rfl⟩
          refine VA.take (i := 16) rfl (by decide +kernel) (by decide +kernel) (by decide +kernel) rfl rfl (OpV.nilCheck rfl rfl) ?_
          refine VA.take (i := 17) rfl (by decide +kernel) (by decide +kernel) (by decide +kernel) rfl rfl (OpV.fieldAddrO 0 rfl Tryz.underlying142 rfl rfl Tryz.sizeOf9 rfl) ?_
          refine VA.all (rs := [18]) (by decide +kernel) (by decide) ?_
          refine ⟨⟨_, rfl, .inl rfl, ?_⟩, trivial⟩
          refine OpE.store1 (i := 0) rfl hB rfl Tryz.sizeOf9 rfl rfl rfl rfl rfl rfl (rowL_in rfl (by omega) (by decide)) (rowL_set (x := ({l.getD i default with product := r67} : PaceS)) rfl (by omega) (by decide) rfl (fun i hi hn => pc_upd (by simp) (by simp) (by simp) i hi hn)) (by first | exact ⟨rfl, rfl⟩ | exact .inl ⟨rfl, rfl⟩ | exact .inr ⟨rfl, rfl⟩ | exact ⟨rfl, trivial⟩ | exact .inl ⟨rfl, trivial⟩ | exact .inr ⟨rfl, trivial⟩ | exact ⟨by decide, rfl⟩) ?_
          refine VA.take (i := 19) rfl (by decide +kernel) (by decide +kernel) (by decide +kernel) rfl rfl (OpV.nilCheck rfl rfl) ?_
          refine VA.take (i := 20) rfl (by decide +kernel) (by decide +kernel) (by decide +kernel) rfl rfl (OpV.fieldAddrO 1 rfl Tryz.underlying142 rfl rfl Tryz.sizeOf3 rfl) ?_
          refine VA.all (rs := [21]) (by decide +kernel) (by decide) ?_
          refine ⟨⟨_, rfl, .inl rfl, ?_⟩, trivial⟩
          refine OpE.store1 (i := 0) rfl hB rfl Tryz.sizeOf3 rfl rfl rfl rfl rfl rfl (rowL_in rfl (by rw [List.length_set]; omega) (by decide)) (rowL_set (x := ({l.getD i default with product := r67, cycle := r74} : PaceS)) rfl (by rw [List.length_set]; omega) (by decide) rfl (fun i hi hn => by rw [getSetP (by omega)]; exact pc_upd (by simp) (by simp) (by simp) i hi hn)) (by first | exact ⟨rfl, rfl⟩ | exact .inl ⟨rfl, rfl⟩ | exact .inr ⟨rfl, rfl⟩ | exact ⟨rfl, trivial⟩ | exact .inl ⟨rfl, trivial⟩ | exact .inr ⟨rfl, trivial⟩ | exact ⟨by decide, rfl⟩) ?_
          refine VA.done (by decide +kernel) ?_
          refine VC.seq ?_
          obtain ⟨l2, e2, h2, ok2⟩ : ∃ l2 : List PaceS, l2 = (l.set i ({l.getD i default with product := r67} : PaceS)).set i ({l.getD i default with product := r67, cycle := r74} : PaceS) ∧ l2.length = l.length ∧ ∀ x ∈ l2, PcOk 4 x := ⟨_, rfl, by simp, PcOk.setD (PcOk.setD hok i (x := ⟨r67, (l.getD i default).cycle, (l.getD i default).needs⟩) ⟨hr67, (PcOk.getD hok i).2⟩) i (x := ⟨r67, r74, (l.getD i default).needs⟩) ⟨hr67, (PcOk.getD hok i).2⟩⟩
          refine VC.le _ (Le.pickH (hp := [.box gr ⟨rowL l2, 142, cap * 3⟩]) [0] rfl (by rw [e2]; rfl)) ?_
          refine VC.region ?_
          refine VO.mv rfl rfl rfl rfl ?_
          refine VO.op rfl (OpE.callT' (k + 12 * q + 1 + 1 + 1 + 1) rfl rfl hB rfl Tryz.call17 rfl ((flip_T (by omega))) (by omega) ?_)
          rintro _ ⟨r80, rfl⟩
          refine VO.nil ?_
          refine VC.cond rfl (fun aH9b => ?_) (fun aH9b => ?_)
          · have aH9 := aH9b
            try simp only [qqT, qqF, qqN, qqM, qqL, qqE] at aH9
            refine VC.region ?_
            refine VO.mv rfl rfl rfl rfl ?_
            refine VO.mv rfl rfl rfl rfl ?_
            refine VO.val rfl rfl (OpV.nilCheck rfl rfl) ?_
            refine VO.val rfl rfl (OpV.fieldAddrO 2 rfl Tryz.underlying142 rfl rfl Tryz.sizeOf109 rfl) ?_
            refine VO.val rfl rfl (OpV.load_own (i := 0) rfl hB Tryz.isAgg109 rfl rfl (rowL_at rfl (by first | omega | (simp only [List.length_set]; omega)) (by decide)) (fun h => h)) ?_
            refine VO.op rfl (OpE.callR rfl hB rfl Tryz.call110 (slices_CloneN_R (by have := (PcOk.getD ok2 i).2.1; omega)) (ArgsP.cons (ArgP.ev rfl) (ArgsP.nil)) ?_)
            intro u86
            refine VO.mv rfl rfl rfl rfl ?_
            refine VO.op rfl (OpE.buildSlice (zc := #[.string ⟨#[]⟩, .string ⟨#[]⟩]) rfl hB rfl Tryz.underlying95 Tryz.sizeOf9 Tryz.zeroValue9 (by decide) (by decide) (by kernel_rfl) rfl rfl ?_)
            refine VO.op rfl (OpE.callT' (k + 12 * q + 1 + 1 + 1 + 1 + 1) rfl rfl hB rfl Tryz.call32 rfl ((some_T 1000 (by rfl) (by decide) (by decide) (by repeat (first | exact AllS.nil | refine AllS.cons (by first | decide | omega) ?_)))) (by omega) ?_)
            rintro _ ⟨r89, hr89, rfl⟩
            refine VO.mv rfl rfl rfl rfl ?_
            refine VO.op rfl (OpE.buildSlice (zc := #[.int .i64 0, .int .i64 0]) rfl hB rfl Tryz.underlying22 Tryz.sizeOf3 Tryz.zeroValue3 (by decide) (by decide) (by kernel_rfl) rfl rfl ?_)
            refine VO.op rfl (OpE.callT' (k + 12 * q + 1 + 1 + 1 + 1 + 1 + 1) rfl rfl hB rfl Tryz.call21 rfl ((pick_T (-100000000) 100000000 (by rfl) (by decide) (by decide) (by repeat (first | exact AllI.nil | refine AllI.cons (by omega) ?_)))) (by omega) ?_)
            rintro _ ⟨r92, hr92, rfl⟩
            refine VO.val rfl rfl (OpV.build (pls := #[(0, 1), (1, 1)]) rfl Tryz.zeroValue125 Tryz.underlying125 (fun w => by kernel_rfl) rfl rfl) ?_
            refine VO.op rfl (OpE.buildSlice (zc := #[.string ⟨#[]⟩, .int .i64 0]) rfl hB rfl Tryz.underlying109 Tryz.sizeOf125 Tryz.zeroValue125 (by decide) (by decide) (by kernel_rfl) rfl rfl ?_)
            refine VO.op rfl (OpE.append1 (i := 1) rfl hB rfl Tryz.underlying109 (infoOf Tryz.t125 2 (by kernel_rfl) rfl rfl) rfl (by decide) (by decide) rfl rfl rfl rfl (rowL_snoc (l2.getD i default).needs (⟨r89, r92⟩ : NeedS)) (by have := (PcOk.getD ok2 i).2.1; omega) (fun _ _ => trivial) ?_)
            intro u95
            refine VO.le _ (Le.rowT (t := 95) (xs := (l2.getD i default).needs ++ [(⟨r89, r92⟩ : NeedS)]) (i := 1) hB hnew rfl rfl (by simp)) ?_
            refine VO.val rfl rfl (OpV.nilCheck rfl rfl) ?_
            refine VO.val rfl rfl (OpV.fieldAddrO 2 rfl Tryz.underlying142 rfl rfl Tryz.sizeOf109 rfl) ?_
            refine VO.op rfl (OpE.store1 (i := 0) rfl hB rfl Tryz.sizeOf109 rfl rfl rfl rfl rfl rfl (rowL_in rfl (by omega) (by decide)) (rowL_set (x := ({l2.getD i default with needs := (l2.getD i default).needs ++ [(⟨r89, r92⟩ : NeedS)]} : PaceS)) rfl (by omega) (by decide) rfl (fun i hi hn => pc_upd (by simp) (by simp) (by simp) i hi hn)) trivial ?_)
            refine VO.nil ?_
            refine VC.sr ?_
            refine VO.mv rfl rfl rfl rfl ?_
            refine VO.ma rfl rfl rfl rfl ?_
            refine VO.nil ?_
            refine VC.le _ (Le.boxT (t := 2) (i := 0) (n := l.length) (xs := l2.set i ({l2.getD i default with needs := (l2.getD i default).needs ++ [(⟨r89, r92⟩ : NeedS)]} : PaceS)) hB hnew rfl rfl (by rw [List.length_set]; omega) hcap hmx) ?_
            refine VC.ret ?_
            exact Exists.intro _ (And.intro (RetV.one Tryz.results15 (ResV.tmp rfl)) (And.intro (by first | exact ⟨l, ⟨by omega, fun x hx => (hok x hx).mono (by omega)⟩, rfl⟩ | exact ⟨l2, ⟨by omega, fun x hx => (ok2 x hx).mono (by omega)⟩, rfl⟩ | exact ⟨l2.set i ({l2.getD i default with needs := (l2.getD i default).needs ++ [(⟨r89, r92⟩ : NeedS)]} : PaceS), ⟨by rw [List.length_set]; omega, PcOk.setD (fun x hx => (ok2 x hx).mono (by omega)) _ ⟨(PcOk.getD ok2 i).1, (PcOk.getD ok2 i).2.snoc hr89⟩⟩, rfl⟩) ((show k + 12 * q + 1 + 1 + 1 + 1 + 1 + 1 + 1 ≤ k + 100 by omega))))
          · have aH9 := aH9b
            try simp only [qqT, qqF, qqN, qqM, qqL, qqE] at aH9
            refine VC.skip ?_
            refine VC.sr ?_
            refine VO.mv rfl rfl rfl rfl ?_
            refine VO.ma rfl rfl rfl rfl ?_
            refine VO.nil ?_
            refine VC.le _ (Le.boxT (t := 2) (i := 0) (n := l.length) (xs := l2) hB hnew rfl rfl (by omega) hcap hmx) ?_
            refine VC.ret ?_
            exact Exists.intro _ (And.intro (RetV.one Tryz.results15 (ResV.tmp rfl)) (And.intro (by first | exact ⟨l, ⟨by omega, fun x hx => (hok x hx).mono (by omega)⟩, rfl⟩ | exact ⟨l2, ⟨by omega, fun x hx => (ok2 x hx).mono (by omega)⟩, rfl⟩ | exact ⟨l2.set i ({l2.getD i default with needs := (l2.getD i default).needs ++ [(⟨r89, r92⟩ : NeedS)]} : PaceS), ⟨by rw [List.length_set]; omega, PcOk.setD (fun x hx => (ok2 x hx).mono (by omega)) _ ⟨(PcOk.getD ok2 i).1, (PcOk.getD ok2 i).2.snoc hr89⟩⟩, rfl⟩) ((show k + 12 * q + 1 + 1 + 1 + 1 + 1 ≤ k + 100 by omega))))
      · have aH6 := aH6b
        try simp only [qqT, qqF, qqN, qqM, qqL, qqE] at aH6
        refine VC.skip ?_
        refine VC.sr ?_
        refine VO.mv rfl rfl rfl rfl ?_
        refine VO.ma rfl rfl rfl rfl ?_
        refine VO.nil ?_
        refine VC.le _ (Le.rowT (t := 2) (i := 0) (n := l.length) (xs := l) hB hnew rfl rfl rfl) ?_
        refine VC.ret ?_
        exact Exists.intro _ (And.intro (RetV.one Tryz.results15 (ResV.tmp rfl)) (And.intro (by first | exact ⟨l, ⟨by omega, fun x hx => (hok x hx).mono (by omega)⟩, rfl⟩ | exact ⟨l2, ⟨by omega, fun x hx => (ok2 x hx).mono (by omega)⟩, rfl⟩ | exact ⟨l2.set i ({l2.getD i default with needs := (l2.getD i default).needs ++ [(⟨r89, r92⟩ : NeedS)]} : PaceS), ⟨by rw [List.length_set]; omega, PcOk.setD (fun x hx => (ok2 x hx).mono (by omega)) _ ⟨(PcOk.getD ok2 i).1, (PcOk.getD ok2 i).2.snoc hr89⟩⟩, rfl⟩) ((show k + 12 * q + 1 ≤ k + 100 by omega))))
    · replace aK5b : _ = false := aK5b
      have aK5 := aK5b
      try simp only [qqT, qqF, qqN, qqM, qqL, qqE] at aK5
      refine VO.opX rfl rfl rfl rfl aK5b ?_
      refine VO.val rfl rfl (OpV.pickF rfl rfl rfl rfl aK5b) ?_
      refine VO.nil ?_
      refine VC.condF rfl rfl ?_
      refine VC.skip ?_
      refine VC.sr ?_
      refine VO.mv rfl rfl rfl rfl ?_
      refine VO.ma rfl rfl rfl rfl ?_
      refine VO.nil ?_
      refine VC.le _ (Le.rowT (t := 2) (i := 0) (n := l.length) (xs := l) hB hnew rfl rfl rfl) ?_
      refine VC.ret ?_
      exact Exists.intro _ (And.intro (RetV.one Tryz.results15 (ResV.tmp rfl)) (And.intro (by first | exact ⟨l, ⟨by omega, fun x hx => (hok x hx).mono (by omega)⟩, rfl⟩ | exact ⟨l2, ⟨by omega, fun x hx => (ok2 x hx).mono (by omega)⟩, rfl⟩ | exact ⟨l2.set i ({l2.getD i default with needs := (l2.getD i default).needs ++ [(⟨r89, r92⟩ : NeedS)]} : PaceS), ⟨by rw [List.length_set]; omega, PcOk.setD (fun x hx => (ok2 x hx).mono (by omega)) _ ⟨(PcOk.getD ok2 i).1, (PcOk.getD ok2 i).2.snoc hr89⟩⟩, rfl⟩) ((show k + 12 * q ≤ k + 100 by omega))))
end Go.Proofs.YtmahammdnmmmoaaGreatDoor
