/- Part 4 of a proof: the walks and laws that it needs. -/
import Derived.Test.YtceflkkgmmcieaaGreatDoorZB3
namespace Go.Proofs.YtceflkkgmmcieaaGreatDoor
open Go.RowKit
set_option linter.unusedVariables false
set_option linter.unusedSimpArgs false
theorem getD_setS {α : Type} {xs : List α} {q : Nat} {x d : α} (h : q < xs.length) : (xs.set q x).getD q d = x := by simp [h]
theorem sl_upd {a b : SlotS} {k : Nat} (h0 : k = 0 ∨ a.x = b.x) (h1 : k = 1 ∨ a.y = b.y) (h2 : k = 2 ∨ a.quarter = b.quarter) (h3 : k = 3 ∨ a.skip = b.skip) : ∀ i, i < 4 → i ≠ k → Sxc.cell a i = Sxc.cell b i := fun i hi hn => by
 match i, hi with
 | 0, _ => show avI a.x = avI b.x; rw [h0.resolve_left fun h => hn h.symm]
 | 1, _ => show avI a.y = avI b.y; rw [h1.resolve_left fun h => hn h.symm]
 | 2, _ => show avI a.quarter = avI b.quarter; rw [h2.resolve_left fun h => hn h.symm]
 | 3, _ => show avB a.skip = avB b.skip; rw [h3.resolve_left fun h => hn h.symm]
abbrev pB (g o : Nat) : AV := .v (.pointer (some ⟨g, o, none⟩))
abbrev xB (l : List SlotS) (m : Nat) : SlotS := l.getD m default
abbrev iB (n : Nat) (cs : List AV) : AV := .im n 1 (fun j => cs.getD j .any)
abbrev bB (g : Nat) : Ent := .box g ⟨[avI 0, avI 0, .v (.slice none 0 0)], 32, 3⟩
set_option maxRecDepth 100000 in
set_option maxHeartbeats 40000000 in
theorem aPanel_T {p : Nat} {L : List Int} {pr : ProdS}  :
    SpecT Tryz.prog (TT p L) (fun b => b = p) 12 [sp p, avProd pr] 40 (fun y => ∃ n : PanS, n.slots.length ≤ 5 ∧ y = avPan n) := by
  refine SpecT.of_VC Tryz.func12 rfl Tryz.ntmps12 (Nle rfl) (low := (fun b => b ≤ p)) (fun w A k h => h.ok) fun w A k hk hB => ?_
  have hnew : True := trivial
  refine VC.sr ?_
  refine VO.op rfl (OpE.box rfl hB rfl rfl rfl ?_)
  intro g3
  refine VO.op rfl (OpE.alloc rfl hB rfl Tryz.zeroValue32 rfl ?_)
  intro g4
  refine VO.nil ?_
  refine VC.sr ?_
  refine VO.mv rfl rfl rfl rfl ?_
  refine VO.op rfl (OpE.buildSlice (zc := #[.int .i64 0, .int .i64 0]) rfl hB rfl Tryz.underlying22 Tryz.sizeOf3 Tryz.zeroValue3 (by decide) (by decide) (by kernel_rfl) rfl rfl ?_)
  refine VO.op rfl (OpE.callT' (k) rfl rfl hB rfl Tryz.call13 rfl (pick_X (by rfl) (by decide) (by decide) (by repeat (first | exact AllX.nil | refine AllX.cons ?_))) (by omega) ?_)
  rintro _ ⟨r9, rfl⟩
  refine VO.mv rfl rfl rfl rfl ?_
  refine VO.op rfl (OpE.buildSlice (zc := #[.int .i64 0, .int .i64 0]) rfl hB rfl Tryz.underlying22 Tryz.sizeOf3 Tryz.zeroValue3 (by decide) (by decide) (by kernel_rfl) rfl rfl ?_)
  refine VO.op rfl (OpE.callT' (k + 1) rfl rfl hB rfl Tryz.call13 rfl (pick_X (by rfl) (by decide) (by decide) (by repeat (first | exact AllX.nil | refine AllX.cons ?_))) (by omega) ?_)
  rintro _ ⟨r12, rfl⟩
  refine VO.val rfl rfl (OpV.build (pls := #[(0, 1), (1, 1), (2, 1)]) rfl Tryz.zeroValue32 Tryz.underlying32 (fun w => by kernel_rfl) rfl rfl) ?_
  refine VO.op rfl (OpE.alloc rfl hB rfl Tryz.zeroValue32 rfl ?_)
  intro g5
  refine VO.op rfl (OpE.store (i := 2) rfl hB rfl Tryz.sizeOf32 rfl rfl rfl rfl rfl rfl (Nle rfl) trivial ?_)
  refine VO.nil ?_
  refine VC.seq ?_
  refine VC.sr ?_
  refine VO.mv rfl rfl rfl rfl ?_
  refine VO.op rfl (OpE.callT' (k + 1 + 1) rfl rfl hB rfl Tryz.call37 rfl (range_T (by decide) (by decide) (by decide)) (by omega) ?_)
  rintro _ ⟨r15, hr15, rfl⟩
  obtain ⟨m0, rfl⟩ : ∃ m : Nat, r15 = m := ⟨r15.toNat, by omega⟩
  refine VO.mv rfl rfl rfl rfl ?_
  refine VO.nil ?_
  refine VC.block ?_
  refine VC.le _ (Le.nilRow 4 94) ?_
  refine VC.loopK [(0, _), (3, _), (4, _), (5, _), (15, _)] ⟨rfl, rfl, rfl, rfl, rfl, trivial⟩ ({t : Option Addr × Nat × List SlotS × Nat // t.2.2.2 ≤ m0 ∧ t.2.2.1.length ≤ t.2.2.2}) (fun (iZ : {t : Option Addr × Nat × List SlotS × Nat // t.2.2.2 ≤ m0 ∧ t.2.2.1.length ≤ t.2.2.2}) => match iZ with | ⟨⟨b, c, l, q⟩, hq, hl⟩ => [(16, avI (q : Int))]) (fun (iZ : {t : Option Addr × Nat × List SlotS × Nat // t.2.2.2 ≤ m0 ∧ t.2.2.1.length ≤ t.2.2.2}) => match iZ with | ⟨⟨b, c, l, q⟩, hq, hl⟩ => [boxProd g3 pr 28, bB g4, .box g5 ⟨[avI r9, avI r12, .v (.slice b l.length c)], 32, 3⟩, .row (.slice b l.length c) l.length 4 (rowL l) 94]) (fun (iZ : {t : Option Addr × Nat × List SlotS × Nat // t.2.2.2 ≤ m0 ∧ t.2.2.1.length ≤ t.2.2.2}) => match iZ with | ⟨⟨b, c, l, q⟩, hq, hl⟩ => k + 3 + 4 * q) (fun (iZ : {t : Option Addr × Nat × List SlotS × Nat // t.2.2.2 ≤ m0 ∧ t.2.2.1.length ≤ t.2.2.2}) => match iZ with | ⟨⟨b, c, l, q⟩, hq, hl⟩ => m0 - q) ⟨(none, 0, [], 0), Nat.zero_le _, Nat.le_refl _⟩ (Le.mk hB [0, 1, 2, 3] ⟨rfl, rfl, rfl, rfl, rfl, rfl, trivial⟩ rfl rfl (show k + 1 + 1 + 1 ≤ k + 3 + 4 * 0 by omega)) ?_
  rintro ⟨⟨b, c, l, q⟩, hq, hl⟩
  show VC _ _ _ _ ⟨[(16, avI (q : Int))] ++ [(0, _), (3, _), (4, _), (5, _), (15, _)], [boxProd g3 pr 28, bB g4, .box g5 ⟨[avI r9, avI r12, .v (.slice b l.length c)], 32, 3⟩, .row (.slice b l.length c) l.length 4 (rowL l) 94], k + 3 + 4 * q⟩
  simp only at hq hl
  refine VC.sr ?_
  refine VO.val rfl rfl (OpV.lss rfl rfl rfl) ?_
  refine VO.nil ?_
  refine VC.seq ?_
  refine VC.cond rfl (fun aH1b => ?_) (fun aH1b => ?_)
  · have aH1 := aH1b
    try simp only [qqT, qqF, qqN, qqM, qqL, qqE] at aH1
    refine VC.skip ?_
    refine VC.seq ?_
    refine VC.block ?_
    refine VC.draw (fun j b => (j = 25 ∧ b = g5) ∨ (j = 23 ∧ (b ≠ g5 ∧ b ≠ g3))) hB (by kernel_rfl) ?_
    refine VA.take (i := 0) rfl (by decide +kernel) (by decide +kernel) (by decide +kernel) rfl rfl (OpV.fieldAddrO 2 rfl Tryz.underlying32 rfl rfl Tryz.sizeOf30 rfl) ?_
    refine VA.take (i := 1) rfl (by decide +kernel) (by decide +kernel) (by decide +kernel) rfl rfl (OpV.load_own (i := 2) rfl hB Tryz.isAgg30 rfl rfl rfl (Wi.notN2 (by decide +kernel) (fun h => h.1 rfl))) ?_
    refine VA.take (i := 2) rfl (by decide +kernel) (by decide +kernel) (by decide +kernel) rfl rfl (OpV.move (.inl rfl) rfl) ?_
    refine VA.take (i := 3) rfl (by decide +kernel) (by decide +kernel) (by decide +kernel) rfl rfl (OpV.fieldAddrO 1 rfl Tryz.underlying28 rfl rfl Tryz.sizeOf3 rfl) ?_
    refine VA.take (i := 4) rfl (by decide +kernel) (by decide +kernel) (by decide +kernel) rfl rfl (OpV.load_own (i := 0) rfl hB Tryz.isAgg3 rfl rfl rfl (Wi.notN2 (by decide +kernel) (fun h => h.2 rfl))) ?_
    refine VA.take (i := 5) rfl (by decide +kernel) (by decide +kernel) (by decide +kernel) rfl rfl (OpV.min2 rfl rfl rfl) ?_
    refine VA.take (i := 6) rfl (by decide +kernel) (by decide +kernel) (by decide +kernel) rfl rfl (OpV.max2 rfl rfl rfl) ?_
    refine VA.take (i := 9) rfl (by decide +kernel) (by decide +kernel) (by decide +kernel) rfl rfl (OpV.move (.inl rfl) rfl) ?_
    refine VA.take (i := 10) rfl (by decide +kernel) (by decide +kernel) (by decide +kernel) rfl rfl (OpV.fieldAddrO 2 rfl Tryz.underlying28 rfl rfl Tryz.sizeOf3 rfl) ?_
    refine VA.take (i := 11) rfl (by decide +kernel) (by decide +kernel) (by decide +kernel) rfl rfl (OpV.load_own (i := 0) rfl hB Tryz.isAgg3 rfl rfl rfl (Wi.notN2 (by decide +kernel) (fun h => h.2 rfl))) ?_
    refine VA.take (i := 12) rfl (by decide +kernel) (by decide +kernel) (by decide +kernel) rfl rfl (OpV.min2 rfl rfl rfl) ?_
    refine VA.take (i := 13) rfl (by decide +kernel) (by decide +kernel) (by decide +kernel) rfl rfl (OpV.max2 rfl rfl rfl) ?_
    refine VA.take (i := 16) rfl (by decide +kernel) (by decide +kernel) (by decide +kernel) rfl rfl (OpV.move (.inl rfl) rfl) ?_
    refine VA.take (i := 19) rfl (by decide +kernel) (by decide +kernel) (by decide +kernel) rfl rfl (OpV.move (.inl rfl) rfl) ?_
    refine VA.bind (fun F hF => ?_)
    have hS0 : ∀ (r26 : Int) (r33 : Int) (r36 : Int) (r38 : Bool), F 4 (lstB 26 [0, 1, 2, 3, 4, 5, 6, 7, 8, 9, 10, 11, 12, 13, 14, 15, 16, 17, 18, 19, 20, 21]) ⟨[(0, sp p), (3, (pB g3 (0))), (4, (pB g4 (0))), (5, (pB g5 (0))), (15, avI (m0 : Int)), (16, avI (q : Int)), (19, .v (.slice b l.length c)), (20, sp p), (24, avI (max 0 (min pr.wide 1000))), (31, avI (max 0 (min pr.high 1000))), (27, sp p), (34, sp p), (37, sp p), (25, (iB 5 [avI 0, avI 10, avI 100, avI 150, avI (max 0 (min pr.wide 1000))])), (26, avI r26), (32, (iB 5 [avI 0, avI 40, avI 60, avI 100, avI (max 0 (min pr.high 1000))])), (33, avI r33), (35, (iB 5 [avI 0, avI 0, avI 1, avI 2, avI 3])), (36, avI r36), (38, avB r38), (39, .agg [avI r26, avI r33, avI r36, avB r38])], [boxProd g3 pr 28, bB g4, .box g5 ⟨[avI r9, avI r12, .v (.slice b l.length c)], 32, 3⟩, .row (.slice b l.length c) l.length 4 (rowL l) 94], k + 3 + 4 * q + 1 + 1 + 1 + 1⟩ := by
      intro r26 r33 r36 r38
      rw [hF]
      refine VA.all (rs := [22]) (by decide +kernel) (by decide) ?_
      refine ⟨⟨_, rfl, .inl rfl, ?_⟩, trivial⟩
      refine OpE.buildSlice (zc := #[.int .i64 0, .int .i64 0, .int .i64 0, .bool false]) rfl hB rfl Tryz.underlying30 Tryz.sizeOf94 Tryz.zeroValue94 (by decide) (by decide) (by kernel_rfl) rfl rfl ?_
      refine VA.all (rs := [23]) (by decide +kernel) (by decide) ?_
      refine ⟨⟨_, rfl, .inl rfl, ?_⟩, trivial⟩
      refine OpE.hap (fun hap => ?_)
      refine OpE.append1S (i := 3) rfl hB rfl Tryz.underlying30 (infoOf Tryz.t94 4 (by kernel_rfl) rfl rfl) rfl (by decide) (by decide) rfl rfl rfl rfl (rowL_snoc l (⟨r26, r33, r36, r38⟩ : SlotS)) (by omega) (fun g' hg => .inr ⟨rfl, apart_ne hap (i := 3) (j := 2) hg rfl (by decide), apart_ne hap (i := 3) (j := 0) hg rfl (by decide)⟩) ?_
      intro b2 c2
      refine VA.take (i := 24) rfl (by decide +kernel) (by decide +kernel) (by decide +kernel) rfl rfl (OpV.fieldAddrO 2 rfl Tryz.underlying32 rfl rfl Tryz.sizeOf30 rfl) ?_
      refine VA.all (rs := [25]) (by decide +kernel) (by decide) ?_
      refine ⟨⟨_, rfl, .inl rfl, ?_⟩, trivial⟩
      refine OpE.hap (fun hap => ?_)
      refine OpE.store (i := 2) rfl hB rfl Tryz.sizeOf30 rfl rfl rfl rfl rfl rfl (Nle rfl) (by first | exact .inl ⟨rfl, rfl⟩ | (refine ⟨by first | exact rfl | exact .inl rfl | exact .inr rfl, ?_⟩; repeat (first | (first | exact apart_ne hap (i := 3) (j := 0) rfl rfl (by decide) | exact apart_ne hap (i := 3) (j := 1) rfl rfl (by decide) | exact apart_ne hap (i := 3) (j := 2) rfl rfl (by decide) | exact apart_ne hap (i := 2) (j := 0) rfl rfl (by decide) | exact apart_ne hap (i := 2) (j := 1) rfl rfl (by decide) | exact apart_ne hap (i := 2) (j := 3) rfl rfl (by decide) | exact apart_ne hap (i := 1) (j := 0) rfl rfl (by decide) | exact apart_ne hap (i := 1) (j := 2) rfl rfl (by decide) | exact apart_ne hap (i := 1) (j := 3) rfl rfl (by decide) | exact apart_ne hap (i := 0) (j := 1) rfl rfl (by decide) | exact apart_ne hap (i := 0) (j := 2) rfl rfl (by decide) | exact apart_ne hap (i := 0) (j := 3) rfl rfl (by decide)) | refine And.intro ?_ ?_))) ?_
      refine VA.done (by decide +kernel) ?_
      refine VC.region ?_
      refine VO.val rfl rfl (OpV.add rfl rfl rfl (by unfold fits; omega)) ?_
      refine VO.mv rfl rfl rfl rfl ?_
      refine VO.nil ?_
      exact Exists.intro (⟨(b2, c2, l ++ [⟨r26, r33, r36, r38⟩], q + 1), by show q + 1 ≤ m0; omega, by show (l ++ [_]).length ≤ q + 1; simp; omega⟩) (And.intro (Le.mk hB [0, 1, 2, 3] ⟨rfl, rfl, rfl, rfl, rfl, rfl, trivial⟩ rfl (by first | rfl | (dsimp only; rw [List.length_append]; rfl)) (show k + 3 + 4 * q + 1 + 1 + 1 + 1 ≤ k + 3 + 4 * (q + 1) by omega)) (by first | omega | (show _ < _; omega) | (simp only []; omega)))
    have hS1 : ∀ (r26 : Int) (r33 : Int) (r36 : Int), F 6 (lstB 26 [0, 1, 2, 3, 4, 5, 6, 7, 8, 9, 10, 11, 12, 13, 14, 15, 16, 17, 18, 19]) ⟨[(0, sp p), (3, (pB g3 (0))), (4, (pB g4 (0))), (5, (pB g5 (0))), (15, avI (m0 : Int)), (16, avI (q : Int)), (19, .v (.slice b l.length c)), (20, sp p), (24, avI (max 0 (min pr.wide 1000))), (31, avI (max 0 (min pr.high 1000))), (27, sp p), (34, sp p), (37, sp p), (25, (iB 5 [avI 0, avI 10, avI 100, avI 150, avI (max 0 (min pr.wide 1000))])), (26, avI r26), (32, (iB 5 [avI 0, avI 40, avI 60, avI 100, avI (max 0 (min pr.high 1000))])), (33, avI r33), (35, (iB 5 [avI 0, avI 0, avI 1, avI 2, avI 3])), (36, avI r36)], [boxProd g3 pr 28, bB g4, .box g5 ⟨[avI r9, avI r12, .v (.slice b l.length c)], 32, 3⟩, .row (.slice b l.length c) l.length 4 (rowL l) 94], k + 3 + 4 * q + 1 + 1 + 1⟩ := by
      intro r26 r33 r36
      rw [hF]
      refine VA.all (rs := [20]) (by decide +kernel) (by decide) ?_
      refine ⟨⟨_, rfl, .inl rfl, ?_⟩, trivial⟩
      refine OpE.callT' (k + 3 + 4 * q + 1 + 1 + 1) rfl rfl hB rfl Tryz.call69 rfl (flip_T (by decide)) (by omega) ?_
      rintro _ ⟨r38, rfl⟩
      refine VA.take (i := 21) rfl (by decide +kernel) (by decide +kernel) (by decide +kernel) rfl rfl (OpV.build (pls := #[(0, 1), (1, 1), (2, 1), (3, 1)]) rfl Tryz.zeroValue94 Tryz.underlying94 (fun w => by kernel_rfl) rfl rfl) ?_
      have hh := hS0 r26 r33 r36 r38
      rw [hF] at hh
      exact VA.to hh (by decide +kernel) (Le.mk hB [0, 1, 2, 3] ⟨rfl, rfl, rfl, rfl, rfl, rfl, rfl, rfl, rfl, rfl, rfl, rfl, rfl, rfl, rfl, rfl, rfl, rfl, rfl, rfl, rfl, trivial⟩ rfl rfl (Nat.le_refl _))
    have hS2 : ∀ (r26 : Int) (r33 : Int), F 7 (lstB 26 [0, 1, 2, 3, 4, 5, 6, 7, 8, 9, 10, 11, 12, 13, 14, 15, 16, 17, 19]) ⟨[(0, sp p), (3, (pB g3 (0))), (4, (pB g4 (0))), (5, (pB g5 (0))), (15, avI (m0 : Int)), (16, avI (q : Int)), (19, .v (.slice b l.length c)), (20, sp p), (24, avI (max 0 (min pr.wide 1000))), (31, avI (max 0 (min pr.high 1000))), (27, sp p), (34, sp p), (37, sp p), (25, (iB 5 [avI 0, avI 10, avI 100, avI 150, avI (max 0 (min pr.wide 1000))])), (26, avI r26), (32, (iB 5 [avI 0, avI 40, avI 60, avI 100, avI (max 0 (min pr.high 1000))])), (33, avI r33), (35, (iB 5 [avI 0, avI 0, avI 1, avI 2, avI 3]))], [boxProd g3 pr 28, bB g4, .box g5 ⟨[avI r9, avI r12, .v (.slice b l.length c)], 32, 3⟩, .row (.slice b l.length c) l.length 4 (rowL l) 94], k + 3 + 4 * q + 1 + 1⟩ := by
      intro r26 r33
      rw [hF]
      refine VA.all (rs := [18]) (by decide +kernel) (by decide) ?_
      refine ⟨⟨_, rfl, .inl rfl, ?_⟩, trivial⟩
      refine OpE.callT' (k + 3 + 4 * q + 1 + 1) rfl rfl hB rfl Tryz.call13 rfl (pick_X (by rfl) (by decide) (by decide) (by repeat (first | exact AllX.nil | refine AllX.cons ?_))) (by omega) ?_
      rintro _ ⟨r36, rfl⟩
      have hh := hS1 r26 r33 r36
      rw [hF] at hh
      exact VA.to hh (by decide +kernel) (Le.mk hB [0, 1, 2, 3] ⟨rfl, rfl, rfl, rfl, rfl, rfl, rfl, rfl, rfl, rfl, rfl, rfl, rfl, rfl, rfl, rfl, rfl, rfl, rfl, trivial⟩ rfl rfl (Nat.le_refl _))
    have hS3 : ∀ (r26 : Int) (r33 : Int), F 8 (lstB 26 [0, 1, 2, 3, 4, 5, 6, 7, 8, 9, 10, 11, 12, 13, 14, 15, 16, 19]) ⟨[(0, sp p), (3, (pB g3 (0))), (4, (pB g4 (0))), (5, (pB g5 (0))), (15, avI (m0 : Int)), (16, avI (q : Int)), (19, .v (.slice b l.length c)), (20, sp p), (24, avI (max 0 (min pr.wide 1000))), (31, avI (max 0 (min pr.high 1000))), (27, sp p), (34, sp p), (37, sp p), (25, (iB 5 [avI 0, avI 10, avI 100, avI 150, avI (max 0 (min pr.wide 1000))])), (26, avI r26), (32, (iB 5 [avI 0, avI 40, avI 60, avI 100, avI (max 0 (min pr.high 1000))])), (33, avI r33)], [boxProd g3 pr 28, bB g4, .box g5 ⟨[avI r9, avI r12, .v (.slice b l.length c)], 32, 3⟩, .row (.slice b l.length c) l.length 4 (rowL l) 94], k + 3 + 4 * q + 1 + 1⟩ := by
      intro r26 r33
      rw [hF]
      refine VA.all (rs := [17]) (by decide +kernel) (by decide) ?_
      refine ⟨⟨_, rfl, .inl rfl, ?_⟩, trivial⟩
      refine OpE.buildSlice (zc := #[.int .i64 0, .int .i64 0, .int .i64 0, .int .i64 0, .int .i64 0]) rfl hB rfl Tryz.underlying22 Tryz.sizeOf3 Tryz.zeroValue3 (by decide) (by decide) (by kernel_rfl) rfl rfl ?_
      have hh := hS2 r26 r33
      rw [hF] at hh
      exact VA.to hh (by decide +kernel) (Le.mk hB [0, 1, 2, 3] ⟨rfl, rfl, rfl, rfl, rfl, rfl, rfl, rfl, rfl, rfl, rfl, rfl, rfl, rfl, rfl, rfl, rfl, rfl, trivial⟩ rfl rfl (Nat.le_refl _))
    have hS4 : ∀ (r26 : Int), F 8 (lstB 26 [0, 1, 2, 3, 4, 5, 6, 7, 8, 9, 10, 11, 12, 13, 14, 16, 17, 19]) ⟨[(0, sp p), (3, (pB g3 (0))), (4, (pB g4 (0))), (5, (pB g5 (0))), (15, avI (m0 : Int)), (16, avI (q : Int)), (19, .v (.slice b l.length c)), (20, sp p), (24, avI (max 0 (min pr.wide 1000))), (31, avI (max 0 (min pr.high 1000))), (27, sp p), (34, sp p), (37, sp p), (25, (iB 5 [avI 0, avI 10, avI 100, avI 150, avI (max 0 (min pr.wide 1000))])), (26, avI r26), (32, (iB 5 [avI 0, avI 40, avI 60, avI 100, avI (max 0 (min pr.high 1000))])), (35, (iB 5 [avI 0, avI 0, avI 1, avI 2, avI 3]))], [boxProd g3 pr 28, bB g4, .box g5 ⟨[avI r9, avI r12, .v (.slice b l.length c)], 32, 3⟩, .row (.slice b l.length c) l.length 4 (rowL l) 94], k + 3 + 4 * q + 1⟩ := by
      intro r26
      rw [hF]
      refine VA.all (rs := [15]) (by decide +kernel) (by decide) ?_
      refine ⟨⟨_, rfl, .inl rfl, ?_⟩, trivial⟩
      refine OpE.callT' (k + 3 + 4 * q + 1) rfl rfl hB rfl Tryz.call13 rfl (pick_X (by rfl) (by decide) (by decide) (by repeat (first | exact AllX.nil | refine AllX.cons ?_))) (by omega) ?_
      rintro _ ⟨r33, rfl⟩
      have hh := hS2 r26 r33
      rw [hF] at hh
      exact VA.to hh (by decide +kernel) (Le.mk hB [0, 1, 2, 3] ⟨rfl, rfl, rfl, rfl, rfl, rfl, rfl, rfl, rfl, rfl, rfl, rfl, rfl, rfl, rfl, rfl, rfl, rfl, trivial⟩ rfl rfl (Nat.le_refl _))
    have hS5 : ∀ (r26 : Int), F 9 (lstB 26 [0, 1, 2, 3, 4, 5, 6, 7, 8, 9, 10, 11, 12, 13, 14, 16, 19]) ⟨[(0, sp p), (3, (pB g3 (0))), (4, (pB g4 (0))), (5, (pB g5 (0))), (15, avI (m0 : Int)), (16, avI (q : Int)), (19, .v (.slice b l.length c)), (20, sp p), (24, avI (max 0 (min pr.wide 1000))), (31, avI (max 0 (min pr.high 1000))), (27, sp p), (34, sp p), (37, sp p), (25, (iB 5 [avI 0, avI 10, avI 100, avI 150, avI (max 0 (min pr.wide 1000))])), (26, avI r26), (32, (iB 5 [avI 0, avI 40, avI 60, avI 100, avI (max 0 (min pr.high 1000))]))], [boxProd g3 pr 28, bB g4, .box g5 ⟨[avI r9, avI r12, .v (.slice b l.length c)], 32, 3⟩, .row (.slice b l.length c) l.length 4 (rowL l) 94], k + 3 + 4 * q + 1⟩ := by
      intro r26
      rw [hF]
      refine VA.all (rs := [15, 17]) (by decide +kernel) (by decide) ?_
      refine ⟨⟨_, rfl, .inl rfl, ?_⟩, ⟨_, rfl, .inl rfl, ?_⟩, trivial⟩
      ·
        refine OpE.callT' (k + 3 + 4 * q + 1) rfl rfl hB rfl Tryz.call13 rfl (pick_X (by rfl) (by decide) (by decide) (by repeat (first | exact AllX.nil | refine AllX.cons ?_))) (by omega) ?_
        rintro _ ⟨r33, rfl⟩
        have hh := hS3 r26 r33
        rw [hF] at hh
        exact VA.to hh (by decide +kernel) (Le.mk hB [0, 1, 2, 3] ⟨rfl, rfl, rfl, rfl, rfl, rfl, rfl, rfl, rfl, rfl, rfl, rfl, rfl, rfl, rfl, rfl, rfl, trivial⟩ rfl rfl (Nat.le_refl _))
      ·
        refine OpE.buildSlice (zc := #[.int .i64 0, .int .i64 0, .int .i64 0, .int .i64 0, .int .i64 0]) rfl hB rfl Tryz.underlying22 Tryz.sizeOf3 Tryz.zeroValue3 (by decide) (by decide) (by kernel_rfl) rfl rfl ?_
        have hh := hS4 r26
        rw [hF] at hh
        exact VA.to hh (by decide +kernel) (Le.mk hB [0, 1, 2, 3] ⟨rfl, rfl, rfl, rfl, rfl, rfl, rfl, rfl, rfl, rfl, rfl, rfl, rfl, rfl, rfl, rfl, rfl, trivial⟩ rfl rfl (Nat.le_refl _))
    have hS6 : ∀ (r26 : Int), F 9 (lstB 26 [0, 1, 2, 3, 4, 5, 6, 7, 8, 9, 10, 11, 12, 13, 16, 17, 19]) ⟨[(0, sp p), (3, (pB g3 (0))), (4, (pB g4 (0))), (5, (pB g5 (0))), (15, avI (m0 : Int)), (16, avI (q : Int)), (19, .v (.slice b l.length c)), (20, sp p), (24, avI (max 0 (min pr.wide 1000))), (31, avI (max 0 (min pr.high 1000))), (27, sp p), (34, sp p), (37, sp p), (25, (iB 5 [avI 0, avI 10, avI 100, avI 150, avI (max 0 (min pr.wide 1000))])), (26, avI r26), (35, (iB 5 [avI 0, avI 0, avI 1, avI 2, avI 3]))], [boxProd g3 pr 28, bB g4, .box g5 ⟨[avI r9, avI r12, .v (.slice b l.length c)], 32, 3⟩, .row (.slice b l.length c) l.length 4 (rowL l) 94], k + 3 + 4 * q + 1⟩ := by
      intro r26
      rw [hF]
      refine VA.all (rs := [14]) (by decide +kernel) (by decide) ?_
      refine ⟨⟨_, rfl, .inl rfl, ?_⟩, trivial⟩
      refine OpE.buildSlice (zc := #[.int .i64 0, .int .i64 0, .int .i64 0, .int .i64 0, .int .i64 0]) rfl hB rfl Tryz.underlying22 Tryz.sizeOf3 Tryz.zeroValue3 (by decide) (by decide) (by kernel_rfl) rfl rfl ?_
      have hh := hS4 r26
      rw [hF] at hh
      exact VA.to hh (by decide +kernel) (Le.mk hB [0, 1, 2, 3] ⟨rfl, rfl, rfl, rfl, rfl, rfl, rfl, rfl, rfl, rfl, rfl, rfl, rfl, rfl, rfl, rfl, rfl, trivial⟩ rfl rfl (Nat.le_refl _))
    have hS7 : F 9 (lstB 26 [0, 1, 2, 3, 4, 5, 6, 7, 9, 10, 11, 12, 13, 14, 16, 17, 19]) ⟨[(0, sp p), (3, (pB g3 (0))), (4, (pB g4 (0))), (5, (pB g5 (0))), (15, avI (m0 : Int)), (16, avI (q : Int)), (19, .v (.slice b l.length c)), (20, sp p), (24, avI (max 0 (min pr.wide 1000))), (31, avI (max 0 (min pr.high 1000))), (27, sp p), (34, sp p), (37, sp p), (25, (iB 5 [avI 0, avI 10, avI 100, avI 150, avI (max 0 (min pr.wide 1000))])), (32, (iB 5 [avI 0, avI 40, avI 60, avI 100, avI (max 0 (min pr.high 1000))])), (35, (iB 5 [avI 0, avI 0, avI 1, avI 2, avI 3]))], [boxProd g3 pr 28, bB g4, .box g5 ⟨[avI r9, avI r12, .v (.slice b l.length c)], 32, 3⟩, .row (.slice b l.length c) l.length 4 (rowL l) 94], k + 3 + 4 * q⟩ := by
      rw [hF]
      refine VA.all (rs := [8]) (by decide +kernel) (by decide) ?_
      refine ⟨⟨_, rfl, .inl rfl, ?_⟩, trivial⟩
      refine OpE.callT' (k + 3 + 4 * q) rfl rfl hB rfl Tryz.call13 rfl (pick_X (by rfl) (by decide) (by decide) (by repeat (first | exact AllX.nil | refine AllX.cons ?_))) (by omega) ?_
      rintro _ ⟨r26, rfl⟩
      have hh := hS4 r26
      rw [hF] at hh
      exact VA.to hh (by decide +kernel) (Le.mk hB [0, 1, 2, 3] ⟨rfl, rfl, rfl, rfl, rfl, rfl, rfl, rfl, rfl, rfl, rfl, rfl, rfl, rfl, rfl, rfl, rfl, trivial⟩ rfl rfl (Nat.le_refl _))
    have hS8 : ∀ (r26 : Int), F 10 (lstB 26 [0, 1, 2, 3, 4, 5, 6, 7, 8, 9, 10, 11, 12, 13, 16, 19]) ⟨[(0, sp p), (3, (pB g3 (0))), (4, (pB g4 (0))), (5, (pB g5 (0))), (15, avI (m0 : Int)), (16, avI (q : Int)), (19, .v (.slice b l.length c)), (20, sp p), (24, avI (max 0 (min pr.wide 1000))), (31, avI (max 0 (min pr.high 1000))), (27, sp p), (34, sp p), (37, sp p), (25, (iB 5 [avI 0, avI 10, avI 100, avI 150, avI (max 0 (min pr.wide 1000))])), (26, avI r26)], [boxProd g3 pr 28, bB g4, .box g5 ⟨[avI r9, avI r12, .v (.slice b l.length c)], 32, 3⟩, .row (.slice b l.length c) l.length 4 (rowL l) 94], k + 3 + 4 * q + 1⟩ := by
      intro r26
      rw [hF]
      refine VA.all (rs := [14, 17]) (by decide +kernel) (by decide) ?_
      refine ⟨⟨_, rfl, .inl rfl, ?_⟩, ⟨_, rfl, .inl rfl, ?_⟩, trivial⟩
      ·
        refine OpE.buildSlice (zc := #[.int .i64 0, .int .i64 0, .int .i64 0, .int .i64 0, .int .i64 0]) rfl hB rfl Tryz.underlying22 Tryz.sizeOf3 Tryz.zeroValue3 (by decide) (by decide) (by kernel_rfl) rfl rfl ?_
        have hh := hS5 r26
        rw [hF] at hh
        exact VA.to hh (by decide +kernel) (Le.mk hB [0, 1, 2, 3] ⟨rfl, rfl, rfl, rfl, rfl, rfl, rfl, rfl, rfl, rfl, rfl, rfl, rfl, rfl, rfl, rfl, trivial⟩ rfl rfl (Nat.le_refl _))
      ·
        refine OpE.buildSlice (zc := #[.int .i64 0, .int .i64 0, .int .i64 0, .int .i64 0, .int .i64 0]) rfl hB rfl Tryz.underlying22 Tryz.sizeOf3 Tryz.zeroValue3 (by decide) (by decide) (by kernel_rfl) rfl rfl ?_
        have hh := hS6 r26
        rw [hF] at hh
        exact VA.to hh (by decide +kernel) (Le.mk hB [0, 1, 2, 3] ⟨rfl, rfl, rfl, rfl, rfl, rfl, rfl, rfl, rfl, rfl, rfl, rfl, rfl, rfl, rfl, rfl, trivial⟩ rfl rfl (Nat.le_refl _))
    have hS9 : F 10 (lstB 26 [0, 1, 2, 3, 4, 5, 6, 7, 9, 10, 11, 12, 13, 14, 16, 19]) ⟨[(0, sp p), (3, (pB g3 (0))), (4, (pB g4 (0))), (5, (pB g5 (0))), (15, avI (m0 : Int)), (16, avI (q : Int)), (19, .v (.slice b l.length c)), (20, sp p), (24, avI (max 0 (min pr.wide 1000))), (31, avI (max 0 (min pr.high 1000))), (27, sp p), (34, sp p), (37, sp p), (25, (iB 5 [avI 0, avI 10, avI 100, avI 150, avI (max 0 (min pr.wide 1000))])), (32, (iB 5 [avI 0, avI 40, avI 60, avI 100, avI (max 0 (min pr.high 1000))]))], [boxProd g3 pr 28, bB g4, .box g5 ⟨[avI r9, avI r12, .v (.slice b l.length c)], 32, 3⟩, .row (.slice b l.length c) l.length 4 (rowL l) 94], k + 3 + 4 * q⟩ := by
      rw [hF]
      refine VA.all (rs := [8, 17]) (by decide +kernel) (by decide) ?_
      refine ⟨⟨_, rfl, .inl rfl, ?_⟩, ⟨_, rfl, .inl rfl, ?_⟩, trivial⟩
      ·
        refine OpE.callT' (k + 3 + 4 * q) rfl rfl hB rfl Tryz.call13 rfl (pick_X (by rfl) (by decide) (by decide) (by repeat (first | exact AllX.nil | refine AllX.cons ?_))) (by omega) ?_
        rintro _ ⟨r26, rfl⟩
        have hh := hS5 r26
        rw [hF] at hh
        exact VA.to hh (by decide +kernel) (Le.mk hB [0, 1, 2, 3] ⟨rfl, rfl, rfl, rfl, rfl, rfl, rfl, rfl, rfl, rfl, rfl, rfl, rfl, rfl, rfl, rfl, trivial⟩ rfl rfl (Nat.le_refl _))
      ·
        refine OpE.buildSlice (zc := #[.int .i64 0, .int .i64 0, .int .i64 0, .int .i64 0, .int .i64 0]) rfl hB rfl Tryz.underlying22 Tryz.sizeOf3 Tryz.zeroValue3 (by decide) (by decide) (by kernel_rfl) rfl rfl ?_
        have hh := hS7 
        rw [hF] at hh
        exact VA.to hh (by decide +kernel) (Le.mk hB [0, 1, 2, 3] ⟨rfl, rfl, rfl, rfl, rfl, rfl, rfl, rfl, rfl, rfl, rfl, rfl, rfl, rfl, rfl, rfl, trivial⟩ rfl rfl (Nat.le_refl _))
    have hS10 : F 10 (lstB 26 [0, 1, 2, 3, 4, 5, 6, 7, 9, 10, 11, 12, 13, 16, 17, 19]) ⟨[(0, sp p), (3, (pB g3 (0))), (4, (pB g4 (0))), (5, (pB g5 (0))), (15, avI (m0 : Int)), (16, avI (q : Int)), (19, .v (.slice b l.length c)), (20, sp p), (24, avI (max 0 (min pr.wide 1000))), (31, avI (max 0 (min pr.high 1000))), (27, sp p), (34, sp p), (37, sp p), (25, (iB 5 [avI 0, avI 10, avI 100, avI 150, avI (max 0 (min pr.wide 1000))])), (35, (iB 5 [avI 0, avI 0, avI 1, avI 2, avI 3]))], [boxProd g3 pr 28, bB g4, .box g5 ⟨[avI r9, avI r12, .v (.slice b l.length c)], 32, 3⟩, .row (.slice b l.length c) l.length 4 (rowL l) 94], k + 3 + 4 * q⟩ := by
      rw [hF]
      refine VA.all (rs := [8, 14]) (by decide +kernel) (by decide) ?_
      refine ⟨⟨_, rfl, .inl rfl, ?_⟩, ⟨_, rfl, .inl rfl, ?_⟩, trivial⟩
      ·
        refine OpE.callT' (k + 3 + 4 * q) rfl rfl hB rfl Tryz.call13 rfl (pick_X (by rfl) (by decide) (by decide) (by repeat (first | exact AllX.nil | refine AllX.cons ?_))) (by omega) ?_
        rintro _ ⟨r26, rfl⟩
        have hh := hS6 r26
        rw [hF] at hh
        exact VA.to hh (by decide +kernel) (Le.mk hB [0, 1, 2, 3] ⟨rfl, rfl, rfl, rfl, rfl, rfl, rfl, rfl, rfl, rfl, rfl, rfl, rfl, rfl, rfl, rfl, trivial⟩ rfl rfl (Nat.le_refl _))
      ·
        refine OpE.buildSlice (zc := #[.int .i64 0, .int .i64 0, .int .i64 0, .int .i64 0, .int .i64 0]) rfl hB rfl Tryz.underlying22 Tryz.sizeOf3 Tryz.zeroValue3 (by decide) (by decide) (by kernel_rfl) rfl rfl ?_
        have hh := hS7 
        rw [hF] at hh
        exact VA.to hh (by decide +kernel) (Le.mk hB [0, 1, 2, 3] ⟨rfl, rfl, rfl, rfl, rfl, rfl, rfl, rfl, rfl, rfl, rfl, rfl, rfl, rfl, rfl, rfl, trivial⟩ rfl rfl (Nat.le_refl _))
    have hS11 : F 10 (lstB 26 [0, 1, 2, 3, 4, 5, 6, 9, 10, 11, 12, 13, 14, 16, 17, 19]) ⟨[(0, sp p), (3, (pB g3 (0))), (4, (pB g4 (0))), (5, (pB g5 (0))), (15, avI (m0 : Int)), (16, avI (q : Int)), (19, .v (.slice b l.length c)), (20, sp p), (24, avI (max 0 (min pr.wide 1000))), (31, avI (max 0 (min pr.high 1000))), (27, sp p), (34, sp p), (37, sp p), (32, (iB 5 [avI 0, avI 40, avI 60, avI 100, avI (max 0 (min pr.high 1000))])), (35, (iB 5 [avI 0, avI 0, avI 1, avI 2, avI 3]))], [boxProd g3 pr 28, bB g4, .box g5 ⟨[avI r9, avI r12, .v (.slice b l.length c)], 32, 3⟩, .row (.slice b l.length c) l.length 4 (rowL l) 94], k + 3 + 4 * q⟩ := by
      rw [hF]
      refine VA.all (rs := [7]) (by decide +kernel) (by decide) ?_
      refine ⟨⟨_, rfl, .inl rfl, ?_⟩, trivial⟩
      refine OpE.buildSlice (zc := #[.int .i64 0, .int .i64 0, .int .i64 0, .int .i64 0, .int .i64 0]) rfl hB rfl Tryz.underlying22 Tryz.sizeOf3 Tryz.zeroValue3 (by decide) (by decide) (by kernel_rfl) rfl rfl ?_
      have hh := hS7 
      rw [hF] at hh
      exact VA.to hh (by decide +kernel) (Le.mk hB [0, 1, 2, 3] ⟨rfl, rfl, rfl, rfl, rfl, rfl, rfl, rfl, rfl, rfl, rfl, rfl, rfl, rfl, rfl, rfl, trivial⟩ rfl rfl (Nat.le_refl _))
    have hS12 : F 11 (lstB 26 [0, 1, 2, 3, 4, 5, 6, 7, 9, 10, 11, 12, 13, 16, 19]) ⟨[(0, sp p), (3, (pB g3 (0))), (4, (pB g4 (0))), (5, (pB g5 (0))), (15, avI (m0 : Int)), (16, avI (q : Int)), (19, .v (.slice b l.length c)), (20, sp p), (24, avI (max 0 (min pr.wide 1000))), (31, avI (max 0 (min pr.high 1000))), (27, sp p), (34, sp p), (37, sp p), (25, (iB 5 [avI 0, avI 10, avI 100, avI 150, avI (max 0 (min pr.wide 1000))]))], [boxProd g3 pr 28, bB g4, .box g5 ⟨[avI r9, avI r12, .v (.slice b l.length c)], 32, 3⟩, .row (.slice b l.length c) l.length 4 (rowL l) 94], k + 3 + 4 * q⟩ := by
      rw [hF]
      refine VA.all (rs := [8, 14, 17]) (by decide +kernel) (by decide) ?_
      refine ⟨⟨_, rfl, .inl rfl, ?_⟩, ⟨_, rfl, .inl rfl, ?_⟩, ⟨_, rfl, .inl rfl, ?_⟩, trivial⟩
      ·
        refine OpE.callT' (k + 3 + 4 * q) rfl rfl hB rfl Tryz.call13 rfl (pick_X (by rfl) (by decide) (by decide) (by repeat (first | exact AllX.nil | refine AllX.cons ?_))) (by omega) ?_
        rintro _ ⟨r26, rfl⟩
        have hh := hS8 r26
        rw [hF] at hh
        exact VA.to hh (by decide +kernel) (Le.mk hB [0, 1, 2, 3] ⟨rfl, rfl, rfl, rfl, rfl, rfl, rfl, rfl, rfl, rfl, rfl, rfl, rfl, rfl, rfl, trivial⟩ rfl rfl (Nat.le_refl _))
      ·
        refine OpE.buildSlice (zc := #[.int .i64 0, .int .i64 0, .int .i64 0, .int .i64 0, .int .i64 0]) rfl hB rfl Tryz.underlying22 Tryz.sizeOf3 Tryz.zeroValue3 (by decide) (by decide) (by kernel_rfl) rfl rfl ?_
        have hh := hS9 
        rw [hF] at hh
        exact VA.to hh (by decide +kernel) (Le.mk hB [0, 1, 2, 3] ⟨rfl, rfl, rfl, rfl, rfl, rfl, rfl, rfl, rfl, rfl, rfl, rfl, rfl, rfl, rfl, trivial⟩ rfl rfl (Nat.le_refl _))
      ·
        refine OpE.buildSlice (zc := #[.int .i64 0, .int .i64 0, .int .i64 0, .int .i64 0, .int .i64 0]) rfl hB rfl Tryz.underlying22 Tryz.sizeOf3 Tryz.zeroValue3 (by decide) (by decide) (by kernel_rfl) rfl rfl ?_
        have hh := hS10 
        rw [hF] at hh
        exact VA.to hh (by decide +kernel) (Le.mk hB [0, 1, 2, 3] ⟨rfl, rfl, rfl, rfl, rfl, rfl, rfl, rfl, rfl, rfl, rfl, rfl, rfl, rfl, rfl, trivial⟩ rfl rfl (Nat.le_refl _))
    have hS13 : F 11 (lstB 26 [0, 1, 2, 3, 4, 5, 6, 9, 10, 11, 12, 13, 14, 16, 19]) ⟨[(0, sp p), (3, (pB g3 (0))), (4, (pB g4 (0))), (5, (pB g5 (0))), (15, avI (m0 : Int)), (16, avI (q : Int)), (19, .v (.slice b l.length c)), (20, sp p), (24, avI (max 0 (min pr.wide 1000))), (31, avI (max 0 (min pr.high 1000))), (27, sp p), (34, sp p), (37, sp p), (32, (iB 5 [avI 0, avI 40, avI 60, avI 100, avI (max 0 (min pr.high 1000))]))], [boxProd g3 pr 28, bB g4, .box g5 ⟨[avI r9, avI r12, .v (.slice b l.length c)], 32, 3⟩, .row (.slice b l.length c) l.length 4 (rowL l) 94], k + 3 + 4 * q⟩ := by
      rw [hF]
      refine VA.all (rs := [7, 17]) (by decide +kernel) (by decide) ?_
      refine ⟨⟨_, rfl, .inl rfl, ?_⟩, ⟨_, rfl, .inl rfl, ?_⟩, trivial⟩
      ·
        refine OpE.buildSlice (zc := #[.int .i64 0, .int .i64 0, .int .i64 0, .int .i64 0, .int .i64 0]) rfl hB rfl Tryz.underlying22 Tryz.sizeOf3 Tryz.zeroValue3 (by decide) (by decide) (by kernel_rfl) rfl rfl ?_
        have hh := hS9 
        rw [hF] at hh
        exact VA.to hh (by decide +kernel) (Le.mk hB [0, 1, 2, 3] ⟨rfl, rfl, rfl, rfl, rfl, rfl, rfl, rfl, rfl, rfl, rfl, rfl, rfl, rfl, rfl, trivial⟩ rfl rfl (Nat.le_refl _))
      ·
        refine OpE.buildSlice (zc := #[.int .i64 0, .int .i64 0, .int .i64 0, .int .i64 0, .int .i64 0]) rfl hB rfl Tryz.underlying22 Tryz.sizeOf3 Tryz.zeroValue3 (by decide) (by decide) (by kernel_rfl) rfl rfl ?_
        have hh := hS11 
        rw [hF] at hh
        exact VA.to hh (by decide +kernel) (Le.mk hB [0, 1, 2, 3] ⟨rfl, rfl, rfl, rfl, rfl, rfl, rfl, rfl, rfl, rfl, rfl, rfl, rfl, rfl, rfl, trivial⟩ rfl rfl (Nat.le_refl _))
    have hS14 : F 11 (lstB 26 [0, 1, 2, 3, 4, 5, 6, 9, 10, 11, 12, 13, 16, 17, 19]) ⟨[(0, sp p), (3, (pB g3 (0))), (4, (pB g4 (0))), (5, (pB g5 (0))), (15, avI (m0 : Int)), (16, avI (q : Int)), (19, .v (.slice b l.length c)), (20, sp p), (24, avI (max 0 (min pr.wide 1000))), (31, avI (max 0 (min pr.high 1000))), (27, sp p), (34, sp p), (37, sp p), (35, (iB 5 [avI 0, avI 0, avI 1, avI 2, avI 3]))], [boxProd g3 pr 28, bB g4, .box g5 ⟨[avI r9, avI r12, .v (.slice b l.length c)], 32, 3⟩, .row (.slice b l.length c) l.length 4 (rowL l) 94], k + 3 + 4 * q⟩ := by
      rw [hF]
      refine VA.all (rs := [7, 14]) (by decide +kernel) (by decide) ?_
      refine ⟨⟨_, rfl, .inl rfl, ?_⟩, ⟨_, rfl, .inl rfl, ?_⟩, trivial⟩
      ·
        refine OpE.buildSlice (zc := #[.int .i64 0, .int .i64 0, .int .i64 0, .int .i64 0, .int .i64 0]) rfl hB rfl Tryz.underlying22 Tryz.sizeOf3 Tryz.zeroValue3 (by decide) (by decide) (by kernel_rfl) rfl rfl ?_
        have hh := hS10 
        rw [hF] at hh
        exact VA.to hh (by decide +kernel) (Le.mk hB [0, 1, 2, 3] ⟨rfl, rfl, rfl, rfl, rfl, rfl, rfl, rfl, rfl, rfl, rfl, rfl, rfl, rfl, rfl, trivial⟩ rfl rfl (Nat.le_refl _))
      ·
        refine OpE.buildSlice (zc := #[.int .i64 0, .int .i64 0, .int .i64 0, .int .i64 0, .int .i64 0]) rfl hB rfl Tryz.underlying22 Tryz.sizeOf3 Tryz.zeroValue3 (by decide) (by decide) (by kernel_rfl) rfl rfl ?_
        have hh := hS11 
        rw [hF] at hh
        exact VA.to hh (by decide +kernel) (Le.mk hB [0, 1, 2, 3] ⟨rfl, rfl, rfl, rfl, rfl, rfl, rfl, rfl, rfl, rfl, rfl, rfl, rfl, rfl, rfl, trivial⟩ rfl rfl (Nat.le_refl _))
    have hS15 : F 12 (lstB 26 [0, 1, 2, 3, 4, 5, 6, 9, 10, 11, 12, 13, 16, 19]) ⟨[(0, sp p), (3, (pB g3 (0))), (4, (pB g4 (0))), (5, (pB g5 (0))), (15, avI (m0 : Int)), (16, avI (q : Int)), (19, .v (.slice b l.length c)), (20, sp p), (24, avI (max 0 (min pr.wide 1000))), (31, avI (max 0 (min pr.high 1000))), (27, sp p), (34, sp p), (37, sp p)], [boxProd g3 pr 28, bB g4, .box g5 ⟨[avI r9, avI r12, .v (.slice b l.length c)], 32, 3⟩, .row (.slice b l.length c) l.length 4 (rowL l) 94], k + 3 + 4 * q⟩ := by
      rw [hF]
      refine VA.all (rs := [7, 14, 17]) (by decide +kernel) (by decide) ?_
      refine ⟨⟨_, rfl, .inl rfl, ?_⟩, ⟨_, rfl, .inl rfl, ?_⟩, ⟨_, rfl, .inl rfl, ?_⟩, trivial⟩
      ·
        refine OpE.buildSlice (zc := #[.int .i64 0, .int .i64 0, .int .i64 0, .int .i64 0, .int .i64 0]) rfl hB rfl Tryz.underlying22 Tryz.sizeOf3 Tryz.zeroValue3 (by decide) (by decide) (by kernel_rfl) rfl rfl ?_
        have hh := hS12 
        rw [hF] at hh
        exact VA.to hh (by decide +kernel) (Le.mk hB [0, 1, 2, 3] ⟨rfl, rfl, rfl, rfl, rfl, rfl, rfl, rfl, rfl, rfl, rfl, rfl, rfl, rfl, trivial⟩ rfl rfl (Nat.le_refl _))
      ·
        refine OpE.buildSlice (zc := #[.int .i64 0, .int .i64 0, .int .i64 0, .int .i64 0, .int .i64 0]) rfl hB rfl Tryz.underlying22 Tryz.sizeOf3 Tryz.zeroValue3 (by decide) (by decide) (by kernel_rfl) rfl rfl ?_
        have hh := hS13 
        rw [hF] at hh
        exact VA.to hh (by decide +kernel) (Le.mk hB [0, 1, 2, 3] ⟨rfl, rfl, rfl, rfl, rfl, rfl, rfl, rfl, rfl, rfl, rfl, rfl, rfl, rfl, trivial⟩ rfl rfl (Nat.le_refl _))
      ·
        refine OpE.buildSlice (zc := #[.int .i64 0, .int .i64 0, .int .i64 0, .int .i64 0, .int .i64 0]) rfl hB rfl Tryz.underlying22 Tryz.sizeOf3 Tryz.zeroValue3 (by decide) (by decide) (by kernel_rfl) rfl rfl ?_
        have hh := hS14 
        rw [hF] at hh
        exact VA.to hh (by decide +kernel) (Le.mk hB [0, 1, 2, 3] ⟨rfl, rfl, rfl, rfl, rfl, rfl, rfl, rfl, rfl, rfl, rfl, rfl, rfl, rfl, trivial⟩ rfl rfl (Nat.le_refl _))
    rw [hF]
    have hh := hS15 
    rw [hF] at hh
    exact VA.to hh (by decide +kernel) (Le.mk hB [0, 1, 2, 3] ⟨rfl, rfl, rfl, rfl, rfl, rfl, rfl, rfl, rfl, rfl, rfl, rfl, rfl, trivial⟩ rfl rfl (Nat.le_refl _))
  · have aH1 := aH1b
    try simp only [qqT, qqF, qqN, qqM, qqL, qqE] at aH1
    refine VC.exit ?_
    refine VC.seq ?_
    refine VC.sr ?_
    refine VO.mv rfl rfl rfl rfl ?_
    refine VO.op rfl (OpE.callT' (k + 3 + 4 * q) rfl rfl hB rfl Tryz.call69 rfl (flip_T (by decide)) (by omega) ?_)
    rintro _ ⟨r45, rfl⟩
    refine VO.nil ?_
    refine VC.cond rfl (fun aH2b => ?_) (fun aH2b => ?_)
    · have aH2 := aH2b
      try simp only [qqT, qqF, qqN, qqM, qqL, qqE] at aH2
      refine VC.sr ?_
      refine VO.val rfl rfl (OpV.fieldAddrO 2 rfl Tryz.underlying32 rfl rfl Tryz.sizeOf30 rfl) ?_
      refine VO.val rfl rfl (OpV.load_own (i := 2) rfl hB Tryz.isAgg30 rfl rfl rfl (fun h => h)) ?_
      refine VO.val rfl rfl (OpV.len_v rfl Tryz.underlying30 rfl) ?_
      refine VO.val rfl rfl (OpV.gtr rfl rfl rfl) ?_
      refine VO.mv rfl rfl rfl rfl ?_
      refine VO.opG rfl rfl rfl rfl (fun aK3b => ?_) (fun aK3b => ?_)
      · replace aK3b : _ = true := aK3b
        have aK3 := aK3b
        try simp only [qqT, qqF, qqN, qqM, qqL, qqE] at aK3
        refine OpE.val (W := NoB) (OpV.move (.inl rfl) rfl) rfl ?_
        refine VO.opY rfl rfl rfl rfl aK3b ?_
        refine OpE.callT' (k + 3 + 4 * q + 1) rfl rfl hB rfl Tryz.call69 rfl (flip_T (by decide)) (by omega) ?_
        rintro _ ⟨r52, rfl⟩
        refine VO.val rfl rfl (OpV.pickT rfl rfl rfl rfl aK3b) ?_
        refine VO.nil ?_
        refine VC.cond rfl (fun aH4b => ?_) (fun aH4b => ?_)
        · have aH4 := aH4b
          try simp only [qqT, qqF, qqN, qqM, qqL, qqE] at aH4
          refine VC.seq ?_
          refine VC.asBox (i := 3) rfl (by omega) (fun gr cap hu hcap hmx => ?_)
          obtain ⟨hb, hc⟩ : b = some ⟨gr, 0, none⟩ ∧ c = cap := by injection hu with h1 h2 h3; exact ⟨h1, h3⟩
          subst hb
          subst hc
          refine VC.draw (fun _ => NoB) hB (by kernel_rfl) ?_
          refine VA.take (i := 0) rfl (by decide +kernel) (by decide +kernel) (by decide +kernel) rfl rfl (OpV.fieldAddrO 2 rfl Tryz.underlying32 rfl rfl Tryz.sizeOf30 rfl) ?_
          refine VA.take (i := 1) rfl (by decide +kernel) (by decide +kernel) (by decide +kernel) rfl rfl (OpV.load_own (i := 2) rfl hB Tryz.isAgg30 rfl rfl rfl Wi.not0) ?_
          refine VA.take (i := 2) rfl (by decide +kernel) (by decide +kernel) (by decide +kernel) rfl rfl (OpV.move (.inl rfl) rfl) ?_
          refine VA.take (i := 3) rfl (by decide +kernel) (by decide +kernel) (by decide +kernel) rfl rfl (OpV.fieldAddrO 2 rfl Tryz.underlying32 rfl rfl Tryz.sizeOf30 rfl) ?_
          refine VA.take (i := 4) rfl (by decide +kernel) (by decide +kernel) (by decide +kernel) rfl rfl (OpV.load_own (i := 2) rfl hB Tryz.isAgg30 rfl rfl rfl Wi.not0) ?_
          refine VA.take (i := 5) rfl (by decide +kernel) (by decide +kernel) (by decide +kernel) rfl rfl (OpV.len_v rfl Tryz.underlying30 rfl) ?_
          refine VA.all (rs := [6]) (by decide +kernel) (by decide) ?_
          refine ⟨⟨_, rfl, .inl rfl, ?_⟩, trivial⟩
          refine OpE.callT' (k + 3 + 4 * q + 1 + 1) rfl rfl hB rfl Tryz.call70 rfl (next_T (by omega)) (by omega) ?_
          rintro _ ⟨r60, hr60, rfl⟩
          obtain ⟨m, rfl⟩ : ∃ m : Nat, r60 = m := ⟨r60.toNat, by omega⟩
          refine VA.take (i := 7) rfl (by decide +kernel) (by decide +kernel) (by decide +kernel) rfl rfl (OpV.indexAddr_q rfl Tryz.underlying30 Tryz.sizeOf94 rfl rfl rfl (by omega)) ?_
          refine VA.take (i := 8) rfl (by decide +kernel) (by decide +kernel) (by decide +kernel) rfl rfl (OpV.move (.inr rfl) rfl) ?_
          refine VA.done (by decide +kernel) ?_
          refine VC.draw (fun j b => j ∈ [30, 33, 36] ∧ b = gr) hB (by kernel_rfl) ?_
          refine VA.take (i := 0) rfl (by decide +kernel) (by decide +kernel) (by decide +kernel) rfl rfl (OpV.move (.inl rfl) rfl) ?_
          refine VA.take (i := 1) rfl (by decide +kernel) (by decide +kernel) (by decide +kernel) rfl rfl (OpV.move (.inl rfl) rfl) ?_
          refine VA.take (i := 2) rfl (by decide +kernel) (by decide +kernel) (by decide +kernel) rfl rfl (OpV.move (.inl rfl) rfl) ?_
          refine VA.take (i := 3) rfl (by decide +kernel) (by decide +kernel) (by decide +kernel) rfl rfl (OpV.move (.inl rfl) rfl) ?_
          refine VA.take (i := 4) rfl (by decide +kernel) (by decide +kernel) (by decide +kernel) rfl rfl (OpV.move (.inl rfl) rfl) ?_
          refine VA.take (i := 5) rfl (by decide +kernel) (by decide +kernel) (by decide +kernel) rfl rfl (OpV.nilCheck rfl rfl) ?_
          refine VA.take (i := 6) rfl (by decide +kernel) (by decide +kernel) (by decide +kernel) rfl rfl (OpV.fieldAddrO 0 rfl Tryz.underlying94 rfl rfl Tryz.sizeOf3 rfl) ?_
          refine VA.take (i := 7) rfl (by decide +kernel) (by decide +kernel) (by decide +kernel) rfl rfl (OpV.load_own (i := 3) rfl hB Tryz.isAgg3 rfl rfl (rowL_at rfl (by omega) (by decide)) (Wi.notD (by decide +kernel))) ?_
          refine VA.take (i := 10) rfl (by decide +kernel) (by decide +kernel) (by decide +kernel) rfl rfl (OpV.move (.inl rfl) rfl) ?_
          refine VA.take (i := 11) rfl (by decide +kernel) (by decide +kernel) (by decide +kernel) rfl rfl (OpV.move (.inl rfl) rfl) ?_
          refine VA.take (i := 12) rfl (by decide +kernel) (by decide +kernel) (by decide +kernel) rfl rfl (OpV.nilCheck rfl rfl) ?_
          refine VA.take (i := 13) rfl (by decide +kernel) (by decide +kernel) (by decide +kernel) rfl rfl (OpV.fieldAddrO 1 rfl Tryz.underlying94 rfl rfl Tryz.sizeOf3 rfl) ?_
          refine VA.take (i := 14) rfl (by decide +kernel) (by decide +kernel) (by decide +kernel) rfl rfl (OpV.load_own (i := 3) rfl hB Tryz.isAgg3 rfl rfl (rowL_at rfl (by omega) (by decide)) (Wi.notD (by decide +kernel))) ?_
          refine VA.take (i := 15) rfl (by decide +kernel) (by decide +kernel) (by decide +kernel) rfl rfl (OpV.move (.inl rfl) rfl) ?_
          refine VA.take (i := 16) rfl (by decide +kernel) (by decide +kernel) (by decide +kernel) rfl rfl (OpV.nilCheck rfl rfl) ?_
          refine VA.take (i := 17) rfl (by decide +kernel) (by decide +kernel) (by decide +kernel) rfl rfl (OpV.fieldAddrO 1 rfl Tryz.underlying94 rfl rfl Tryz.sizeOf3 rfl) ?_
          refine VA.take (i := 18) rfl (by decide +kernel) (by decide +kernel) (by decide +kernel) rfl rfl (OpV.load_own (i := 3) rfl hB Tryz.isAgg3 rfl rfl (rowL_at rfl (by omega) (by decide)) (Wi.notD (by decide +kernel))) ?_
          refine VA.take (i := 21) rfl (by decide +kernel) (by decide +kernel) (by decide +kernel) rfl rfl (OpV.move (.inl rfl) rfl) ?_
          refine VA.take (i := 22) rfl (by decide +kernel) (by decide +kernel) (by decide +kernel) rfl rfl (OpV.move (.inl rfl) rfl) ?_
          refine VA.take (i := 23) rfl (by decide +kernel) (by decide +kernel) (by decide +kernel) rfl rfl (OpV.nilCheck rfl rfl) ?_
          refine VA.take (i := 24) rfl (by decide +kernel) (by decide +kernel) (by decide +kernel) rfl rfl (OpV.fieldAddrO 2 rfl Tryz.underlying94 rfl rfl Tryz.sizeOf3 rfl) ?_
          refine VA.take (i := 25) rfl (by decide +kernel) (by decide +kernel) (by decide +kernel) rfl rfl (OpV.load_own (i := 3) rfl hB Tryz.isAgg3 rfl rfl (rowL_at rfl (by omega) (by decide)) (Wi.notD (by decide +kernel))) ?_
          refine VA.bind (fun F hF => ?_)
          have hS0 : ∀ (r71 : Int) (r82 : Int) (r89 : Int), F 7 (lstB 37 [0, 1, 2, 3, 4, 5, 6, 7, 8, 9, 10, 11, 12, 13, 14, 15, 16, 17, 18, 19, 20, 21, 22, 23, 24, 25, 26, 27, 28, 29]) ⟨[(0, sp p), (3, (pB g3 (0))), (4, (pB g4 (0))), (5, (pB g5 (0))), (62, (pB gr (0 + m * 4))), (63, (pB gr (0 + m * 4))), (64, (pB gr (0 + m * 4))), (65, sp p), (72, sp p), (83, sp p), (69, avI (xB l m).x), (76, avI (xB l m).y), (80, avI (xB l m).y), (87, avI (xB l m).quarter), (70, (iB 3 [avI (xB l m).x, avI (-1), avI 500001])), (71, avI r71), (81, (iB 4 [avI (xB l m).y, avI (xB l m).y, avI (-1), avI 500000])), (82, avI r82), (88, (iB 3 [avI (xB l m).quarter, avI 4, avI (-1)])), (89, avI r89), (91, (pB gr (0 + m * 4 + 0)))], [boxProd g3 pr 28, bB g4, .box g5 ⟨[avI r9, avI r12, .v (.slice (some ⟨gr, 0, none⟩) l.length c)], 32, 3⟩, .box gr ⟨rowL l, 94, c * 4⟩], k + 3 + 4 * q + 1 + 1 + 1 + 1 + 1 + 1⟩ := by
            intro r71 r82 r89
            rw [hF]
            refine VA.all (rs := [30]) (by decide +kernel) (by decide) ?_
            refine ⟨⟨_, rfl, .inl rfl, ?_⟩, trivial⟩
            refine OpE.store1 (i := 3) rfl hB rfl Tryz.sizeOf3 rfl rfl rfl rfl rfl rfl (rowL_in rfl (by omega) (by decide)) (rowL_set (x := ({l.getD m default with x := r71} : SlotS)) rfl (by omega) (by decide) rfl (fun i hi hn => sl_upd (by simp) (by simp) (by simp) (by simp) i hi hn)) (by first | exact ⟨rfl, rfl⟩ | exact .inl ⟨rfl, rfl⟩ | exact .inr ⟨rfl, rfl⟩ | exact ⟨rfl, trivial⟩ | exact .inl ⟨rfl, trivial⟩ | exact .inr ⟨rfl, trivial⟩ | exact ⟨by decide, rfl⟩) ?_
            refine VA.take (i := 31) rfl (by decide +kernel) (by decide +kernel) (by decide +kernel) rfl rfl (OpV.nilCheck rfl rfl) ?_
            refine VA.take (i := 32) rfl (by decide +kernel) (by decide +kernel) (by decide +kernel) rfl rfl (OpV.fieldAddrO 1 rfl Tryz.underlying94 rfl rfl Tryz.sizeOf3 rfl) ?_
            refine VA.all (rs := [33]) (by decide +kernel) (by decide) ?_
            refine ⟨⟨_, rfl, .inl rfl, ?_⟩, trivial⟩
            refine OpE.store1 (i := 3) rfl hB rfl Tryz.sizeOf3 rfl rfl rfl rfl rfl rfl (rowL_in rfl (by first | omega | (simp only [List.length_set]; omega) | (simp; omega)) (by decide)) (rowL_set (x := ({l.getD m default with x := r71, y := r82} : SlotS)) rfl (by first | omega | (simp only [List.length_set]; omega) | (simp; omega)) (by decide) rfl (fun i hi hn => by rw [getD_setS (by first | omega | (simp only [List.length_set]; omega) | (simp; omega))]; exact sl_upd (by simp) (by simp) (by simp) (by simp) i hi hn)) (by first | exact ⟨rfl, rfl⟩ | exact .inl ⟨rfl, rfl⟩ | exact .inr ⟨rfl, rfl⟩ | exact ⟨rfl, trivial⟩ | exact .inl ⟨rfl, trivial⟩ | exact .inr ⟨rfl, trivial⟩ | exact ⟨by decide, rfl⟩) ?_
            refine VA.take (i := 34) rfl (by decide +kernel) (by decide +kernel) (by decide +kernel) rfl rfl (OpV.nilCheck rfl rfl) ?_
            refine VA.take (i := 35) rfl (by decide +kernel) (by decide +kernel) (by decide +kernel) rfl rfl (OpV.fieldAddrO 2 rfl Tryz.underlying94 rfl rfl Tryz.sizeOf3 rfl) ?_
            refine VA.all (rs := [36]) (by decide +kernel) (by decide) ?_
            refine ⟨⟨_, rfl, .inl rfl, ?_⟩, trivial⟩
            refine OpE.store1 (i := 3) rfl hB rfl Tryz.sizeOf3 rfl rfl rfl rfl rfl rfl (rowL_in rfl (by first | omega | (simp only [List.length_set]; omega) | (simp; omega)) (by decide)) (rowL_set (x := ({l.getD m default with x := r71, y := r82, quarter := r89} : SlotS)) rfl (by first | omega | (simp only [List.length_set]; omega) | (simp; omega)) (by decide) rfl (fun i hi hn => by rw [getD_setS (by first | omega | (simp only [List.length_set]; omega) | (simp; omega))]; exact sl_upd (by simp) (by simp) (by simp) (by simp) i hi hn)) (by first | exact ⟨rfl, rfl⟩ | exact .inl ⟨rfl, rfl⟩ | exact .inr ⟨rfl, rfl⟩ | exact ⟨rfl, trivial⟩ | exact .inl ⟨rfl, trivial⟩ | exact .inr ⟨rfl, trivial⟩ | exact ⟨by decide, rfl⟩) ?_
            refine VA.done (by decide +kernel) ?_
            refine VC.seq ?_
            first | refine VC.le _ (Le.boxRow (i := 3) (n := l.length) (sz := 4) rfl (by simp only [rowL_len, List.length_set]; rfl) (by omega) (by omega)) ?_ | skip
            refine VC.region ?_
            refine VO.val rfl rfl (OpV.loadK_own (i := 2) rfl hB Tryz.isAgg32 Tryz.sizeOf32 rfl rfl rfl (fun h => h)) ?_
            refine VO.le _ (Le.aggRow (t := 108) (j := 2) (i := 3) (y := avL (((l.set m ({l.getD m default with x := r71} : SlotS)).set m ({l.getD m default with x := r71, y := r82} : SlotS)).set m ({l.getD m default with x := r71, y := r82, quarter := r89} : SlotS))) hB hnew rfl rfl rfl (fun w Z u h => Rep.rowL (by simp) h)) ?_
            refine VO.op rfl (OpE.store (i := 1) rfl hB rfl Tryz.sizeOf32 rfl rfl rfl rfl rfl rfl (Nle rfl) trivial ?_)
            refine VO.nil ?_
            refine VC.ret ?_
            exact Exists.intro _ (And.intro (RetV.one Tryz.results12 ((by first | exact ResV.cellK (i := 0) Tryz.isAgg32 Tryz.sizeOf32 rfl rfl rfl | exact ResV.cellK (i := 1) Tryz.isAgg32 Tryz.sizeOf32 rfl rfl rfl | exact ResV.cellK (i := 2) Tryz.isAgg32 Tryz.sizeOf32 rfl rfl rfl | exact ResV.cellK (i := 3) Tryz.isAgg32 Tryz.sizeOf32 rfl rfl rfl))) (And.intro (by first | exact ⟨⟨_, _, l⟩, by show l.length ≤ 5; omega, rfl⟩ | exact ⟨⟨_, _, ((l.set m ({l.getD m default with x := r71} : SlotS)).set m ({l.getD m default with x := r71, y := r82} : SlotS)).set m ({l.getD m default with x := r71, y := r82, quarter := r89} : SlotS)⟩, by simp; omega, rfl⟩) ((show k + 3 + 4 * q + 1 + 1 + 1 + 1 + 1 + 1 ≤ k + 40 by omega))))
          have hS1 : ∀ (r71 : Int) (r82 : Int), F 10 (lstB 37 [0, 1, 2, 3, 4, 5, 6, 7, 8, 9, 10, 11, 12, 13, 14, 15, 16, 17, 18, 19, 20, 21, 22, 23, 24, 25, 26]) ⟨[(0, sp p), (3, (pB g3 (0))), (4, (pB g4 (0))), (5, (pB g5 (0))), (62, (pB gr (0 + m * 4))), (63, (pB gr (0 + m * 4))), (64, (pB gr (0 + m * 4))), (65, sp p), (72, sp p), (83, sp p), (69, avI (xB l m).x), (76, avI (xB l m).y), (80, avI (xB l m).y), (87, avI (xB l m).quarter), (70, (iB 3 [avI (xB l m).x, avI (-1), avI 500001])), (71, avI r71), (81, (iB 4 [avI (xB l m).y, avI (xB l m).y, avI (-1), avI 500000])), (82, avI r82), (88, (iB 3 [avI (xB l m).quarter, avI 4, avI (-1)]))], [boxProd g3 pr 28, bB g4, .box g5 ⟨[avI r9, avI r12, .v (.slice (some ⟨gr, 0, none⟩) l.length c)], 32, 3⟩, .box gr ⟨rowL l, 94, c * 4⟩], k + 3 + 4 * q + 1 + 1 + 1 + 1 + 1⟩ := by
            intro r71 r82
            rw [hF]
            refine VA.all (rs := [27]) (by decide +kernel) (by decide) ?_
            refine ⟨⟨_, rfl, .inl rfl, ?_⟩, trivial⟩
            refine OpE.callT' (k + 3 + 4 * q + 1 + 1 + 1 + 1 + 1) rfl rfl hB rfl Tryz.call13 rfl (pick_X (by rfl) (by decide) (by decide) (by repeat (first | exact AllX.nil | refine AllX.cons ?_))) (by omega) ?_
            rintro _ ⟨r89, rfl⟩
            refine VA.take (i := 28) rfl (by decide +kernel) (by decide +kernel) (by decide +kernel) rfl rfl (OpV.nilCheck rfl rfl) ?_
            refine VA.take (i := 29) rfl (by decide +kernel) (by decide +kernel) (by decide +kernel) rfl rfl (OpV.fieldAddrO 0 rfl Tryz.underlying94 rfl rfl Tryz.sizeOf3 rfl) ?_
            have hh := hS0 r71 r82 r89
            rw [hF] at hh
            exact VA.to hh (by decide +kernel) (Le.mk hB [0, 1, 2, 3] ⟨rfl, rfl, rfl, rfl, rfl, rfl, rfl, rfl, rfl, rfl, rfl, rfl, rfl, rfl, rfl, rfl, rfl, rfl, rfl, rfl, rfl, trivial⟩ rfl rfl (Nat.le_refl _))
          have hS2 : ∀ (r71 : Int) (r82 : Int), F 11 (lstB 37 [0, 1, 2, 3, 4, 5, 6, 7, 8, 9, 10, 11, 12, 13, 14, 15, 16, 17, 18, 19, 20, 21, 22, 23, 24, 25]) ⟨[(0, sp p), (3, (pB g3 (0))), (4, (pB g4 (0))), (5, (pB g5 (0))), (62, (pB gr (0 + m * 4))), (63, (pB gr (0 + m * 4))), (64, (pB gr (0 + m * 4))), (65, sp p), (72, sp p), (83, sp p), (69, avI (xB l m).x), (76, avI (xB l m).y), (80, avI (xB l m).y), (87, avI (xB l m).quarter), (70, (iB 3 [avI (xB l m).x, avI (-1), avI 500001])), (71, avI r71), (81, (iB 4 [avI (xB l m).y, avI (xB l m).y, avI (-1), avI 500000])), (82, avI r82)], [boxProd g3 pr 28, bB g4, .box g5 ⟨[avI r9, avI r12, .v (.slice (some ⟨gr, 0, none⟩) l.length c)], 32, 3⟩, .box gr ⟨rowL l, 94, c * 4⟩], k + 3 + 4 * q + 1 + 1 + 1 + 1 + 1⟩ := by
            intro r71 r82
            rw [hF]
            refine VA.all (rs := [26]) (by decide +kernel) (by decide) ?_
            refine ⟨⟨_, rfl, .inl rfl, ?_⟩, trivial⟩
            refine OpE.buildSlice (zc := #[.int .i64 0, .int .i64 0, .int .i64 0]) rfl hB rfl Tryz.underlying22 Tryz.sizeOf3 Tryz.zeroValue3 (by decide) (by decide) (by kernel_rfl) rfl rfl ?_
            have hh := hS1 r71 r82
            rw [hF] at hh
            exact VA.to hh (by decide +kernel) (Le.mk hB [0, 1, 2, 3] ⟨rfl, rfl, rfl, rfl, rfl, rfl, rfl, rfl, rfl, rfl, rfl, rfl, rfl, rfl, rfl, rfl, rfl, rfl, rfl, trivial⟩ rfl rfl (Nat.le_refl _))
          have hS3 : ∀ (r71 : Int), F 11 (lstB 37 [0, 1, 2, 3, 4, 5, 6, 7, 8, 9, 10, 11, 12, 13, 14, 15, 16, 17, 18, 19, 21, 22, 23, 24, 25, 26]) ⟨[(0, sp p), (3, (pB g3 (0))), (4, (pB g4 (0))), (5, (pB g5 (0))), (62, (pB gr (0 + m * 4))), (63, (pB gr (0 + m * 4))), (64, (pB gr (0 + m * 4))), (65, sp p), (72, sp p), (83, sp p), (69, avI (xB l m).x), (76, avI (xB l m).y), (80, avI (xB l m).y), (87, avI (xB l m).quarter), (70, (iB 3 [avI (xB l m).x, avI (-1), avI 500001])), (71, avI r71), (81, (iB 4 [avI (xB l m).y, avI (xB l m).y, avI (-1), avI 500000])), (88, (iB 3 [avI (xB l m).quarter, avI 4, avI (-1)]))], [boxProd g3 pr 28, bB g4, .box g5 ⟨[avI r9, avI r12, .v (.slice (some ⟨gr, 0, none⟩) l.length c)], 32, 3⟩, .box gr ⟨rowL l, 94, c * 4⟩], k + 3 + 4 * q + 1 + 1 + 1 + 1⟩ := by
            intro r71
            rw [hF]
            refine VA.all (rs := [20]) (by decide +kernel) (by decide) ?_
            refine ⟨⟨_, rfl, .inl rfl, ?_⟩, trivial⟩
            refine OpE.callT' (k + 3 + 4 * q + 1 + 1 + 1 + 1) rfl rfl hB rfl Tryz.call13 rfl (pick_X (by rfl) (by decide) (by decide) (by repeat (first | exact AllX.nil | refine AllX.cons ?_))) (by omega) ?_
            rintro _ ⟨r82, rfl⟩
            have hh := hS1 r71 r82
            rw [hF] at hh
            exact VA.to hh (by decide +kernel) (Le.mk hB [0, 1, 2, 3] ⟨rfl, rfl, rfl, rfl, rfl, rfl, rfl, rfl, rfl, rfl, rfl, rfl, rfl, rfl, rfl, rfl, rfl, rfl, rfl, trivial⟩ rfl rfl (Nat.le_refl _))
          have hS4 : ∀ (r71 : Int), F 12 (lstB 37 [0, 1, 2, 3, 4, 5, 6, 7, 8, 9, 10, 11, 12, 13, 14, 15, 16, 17, 18, 19, 21, 22, 23, 24, 25]) ⟨[(0, sp p), (3, (pB g3 (0))), (4, (pB g4 (0))), (5, (pB g5 (0))), (62, (pB gr (0 + m * 4))), (63, (pB gr (0 + m * 4))), (64, (pB gr (0 + m * 4))), (65, sp p), (72, sp p), (83, sp p), (69, avI (xB l m).x), (76, avI (xB l m).y), (80, avI (xB l m).y), (87, avI (xB l m).quarter), (70, (iB 3 [avI (xB l m).x, avI (-1), avI 500001])), (71, avI r71), (81, (iB 4 [avI (xB l m).y, avI (xB l m).y, avI (-1), avI 500000]))], [boxProd g3 pr 28, bB g4, .box g5 ⟨[avI r9, avI r12, .v (.slice (some ⟨gr, 0, none⟩) l.length c)], 32, 3⟩, .box gr ⟨rowL l, 94, c * 4⟩], k + 3 + 4 * q + 1 + 1 + 1 + 1⟩ := by
            intro r71
            rw [hF]
            refine VA.all (rs := [20, 26]) (by decide +kernel) (by decide) ?_
            refine ⟨⟨_, rfl, .inl rfl, ?_⟩, ⟨_, rfl, .inl rfl, ?_⟩, trivial⟩
            ·
              refine OpE.callT' (k + 3 + 4 * q + 1 + 1 + 1 + 1) rfl rfl hB rfl Tryz.call13 rfl (pick_X (by rfl) (by decide) (by decide) (by repeat (first | exact AllX.nil | refine AllX.cons ?_))) (by omega) ?_
              rintro _ ⟨r82, rfl⟩
              have hh := hS2 r71 r82
              rw [hF] at hh
              exact VA.to hh (by decide +kernel) (Le.mk hB [0, 1, 2, 3] ⟨rfl, rfl, rfl, rfl, rfl, rfl, rfl, rfl, rfl, rfl, rfl, rfl, rfl, rfl, rfl, rfl, rfl, rfl, trivial⟩ rfl rfl (Nat.le_refl _))
            ·
              refine OpE.buildSlice (zc := #[.int .i64 0, .int .i64 0, .int .i64 0]) rfl hB rfl Tryz.underlying22 Tryz.sizeOf3 Tryz.zeroValue3 (by decide) (by decide) (by kernel_rfl) rfl rfl ?_
              have hh := hS3 r71
              rw [hF] at hh
              exact VA.to hh (by decide +kernel) (Le.mk hB [0, 1, 2, 3] ⟨rfl, rfl, rfl, rfl, rfl, rfl, rfl, rfl, rfl, rfl, rfl, rfl, rfl, rfl, rfl, rfl, rfl, rfl, trivial⟩ rfl rfl (Nat.le_refl _))
          have hS5 : ∀ (r71 : Int), F 12 (lstB 37 [0, 1, 2, 3, 4, 5, 6, 7, 8, 9, 10, 11, 12, 13, 14, 15, 16, 17, 18, 21, 22, 23, 24, 25, 26]) ⟨[(0, sp p), (3, (pB g3 (0))), (4, (pB g4 (0))), (5, (pB g5 (0))), (62, (pB gr (0 + m * 4))), (63, (pB gr (0 + m * 4))), (64, (pB gr (0 + m * 4))), (65, sp p), (72, sp p), (83, sp p), (69, avI (xB l m).x), (76, avI (xB l m).y), (80, avI (xB l m).y), (87, avI (xB l m).quarter), (70, (iB 3 [avI (xB l m).x, avI (-1), avI 500001])), (71, avI r71), (88, (iB 3 [avI (xB l m).quarter, avI 4, avI (-1)]))], [boxProd g3 pr 28, bB g4, .box g5 ⟨[avI r9, avI r12, .v (.slice (some ⟨gr, 0, none⟩) l.length c)], 32, 3⟩, .box gr ⟨rowL l, 94, c * 4⟩], k + 3 + 4 * q + 1 + 1 + 1 + 1⟩ := by
            intro r71
            rw [hF]
            refine VA.all (rs := [19]) (by decide +kernel) (by decide) ?_
            refine ⟨⟨_, rfl, .inl rfl, ?_⟩, trivial⟩
            refine OpE.buildSlice (zc := #[.int .i64 0, .int .i64 0, .int .i64 0, .int .i64 0]) rfl hB rfl Tryz.underlying22 Tryz.sizeOf3 Tryz.zeroValue3 (by decide) (by decide) (by kernel_rfl) rfl rfl ?_
            have hh := hS3 r71
            rw [hF] at hh
            exact VA.to hh (by decide +kernel) (Le.mk hB [0, 1, 2, 3] ⟨rfl, rfl, rfl, rfl, rfl, rfl, rfl, rfl, rfl, rfl, rfl, rfl, rfl, rfl, rfl, rfl, rfl, rfl, trivial⟩ rfl rfl (Nat.le_refl _))
          have hS6 : F 12 (lstB 37 [0, 1, 2, 3, 4, 5, 6, 7, 8, 10, 11, 12, 13, 14, 15, 16, 17, 18, 19, 21, 22, 23, 24, 25, 26]) ⟨[(0, sp p), (3, (pB g3 (0))), (4, (pB g4 (0))), (5, (pB g5 (0))), (62, (pB gr (0 + m * 4))), (63, (pB gr (0 + m * 4))), (64, (pB gr (0 + m * 4))), (65, sp p), (72, sp p), (83, sp p), (69, avI (xB l m).x), (76, avI (xB l m).y), (80, avI (xB l m).y), (87, avI (xB l m).quarter), (70, (iB 3 [avI (xB l m).x, avI (-1), avI 500001])), (81, (iB 4 [avI (xB l m).y, avI (xB l m).y, avI (-1), avI 500000])), (88, (iB 3 [avI (xB l m).quarter, avI 4, avI (-1)]))], [boxProd g3 pr 28, bB g4, .box g5 ⟨[avI r9, avI r12, .v (.slice (some ⟨gr, 0, none⟩) l.length c)], 32, 3⟩, .box gr ⟨rowL l, 94, c * 4⟩], k + 3 + 4 * q + 1 + 1 + 1⟩ := by
            rw [hF]
            refine VA.all (rs := [9]) (by decide +kernel) (by decide) ?_
            refine ⟨⟨_, rfl, .inl rfl, ?_⟩, trivial⟩
            refine OpE.callT' (k + 3 + 4 * q + 1 + 1 + 1) rfl rfl hB rfl Tryz.call13 rfl (pick_X (by rfl) (by decide) (by decide) (by repeat (first | exact AllX.nil | refine AllX.cons ?_))) (by omega) ?_
            rintro _ ⟨r71, rfl⟩
            have hh := hS3 r71
            rw [hF] at hh
            exact VA.to hh (by decide +kernel) (Le.mk hB [0, 1, 2, 3] ⟨rfl, rfl, rfl, rfl, rfl, rfl, rfl, rfl, rfl, rfl, rfl, rfl, rfl, rfl, rfl, rfl, rfl, rfl, trivial⟩ rfl rfl (Nat.le_refl _))
          have hS7 : ∀ (r71 : Int), F 13 (lstB 37 [0, 1, 2, 3, 4, 5, 6, 7, 8, 9, 10, 11, 12, 13, 14, 15, 16, 17, 18, 21, 22, 23, 24, 25]) ⟨[(0, sp p), (3, (pB g3 (0))), (4, (pB g4 (0))), (5, (pB g5 (0))), (62, (pB gr (0 + m * 4))), (63, (pB gr (0 + m * 4))), (64, (pB gr (0 + m * 4))), (65, sp p), (72, sp p), (83, sp p), (69, avI (xB l m).x), (76, avI (xB l m).y), (80, avI (xB l m).y), (87, avI (xB l m).quarter), (70, (iB 3 [avI (xB l m).x, avI (-1), avI 500001])), (71, avI r71)], [boxProd g3 pr 28, bB g4, .box g5 ⟨[avI r9, avI r12, .v (.slice (some ⟨gr, 0, none⟩) l.length c)], 32, 3⟩, .box gr ⟨rowL l, 94, c * 4⟩], k + 3 + 4 * q + 1 + 1 + 1 + 1⟩ := by
            intro r71
            rw [hF]
            refine VA.all (rs := [19, 26]) (by decide +kernel) (by decide) ?_
            refine ⟨⟨_, rfl, .inl rfl, ?_⟩, ⟨_, rfl, .inl rfl, ?_⟩, trivial⟩
            ·
              refine OpE.buildSlice (zc := #[.int .i64 0, .int .i64 0, .int .i64 0, .int .i64 0]) rfl hB rfl Tryz.underlying22 Tryz.sizeOf3 Tryz.zeroValue3 (by decide) (by decide) (by kernel_rfl) rfl rfl ?_
              have hh := hS4 r71
              rw [hF] at hh
              exact VA.to hh (by decide +kernel) (Le.mk hB [0, 1, 2, 3] ⟨rfl, rfl, rfl, rfl, rfl, rfl, rfl, rfl, rfl, rfl, rfl, rfl, rfl, rfl, rfl, rfl, rfl, trivial⟩ rfl rfl (Nat.le_refl _))
            ·
              refine OpE.buildSlice (zc := #[.int .i64 0, .int .i64 0, .int .i64 0]) rfl hB rfl Tryz.underlying22 Tryz.sizeOf3 Tryz.zeroValue3 (by decide) (by decide) (by kernel_rfl) rfl rfl ?_
              have hh := hS5 r71
              rw [hF] at hh
              exact VA.to hh (by decide +kernel) (Le.mk hB [0, 1, 2, 3] ⟨rfl, rfl, rfl, rfl, rfl, rfl, rfl, rfl, rfl, rfl, rfl, rfl, rfl, rfl, rfl, rfl, rfl, trivial⟩ rfl rfl (Nat.le_refl _))
          have hS8 : F 13 (lstB 37 [0, 1, 2, 3, 4, 5, 6, 7, 8, 10, 11, 12, 13, 14, 15, 16, 17, 18, 19, 21, 22, 23, 24, 25]) ⟨[(0, sp p), (3, (pB g3 (0))), (4, (pB g4 (0))), (5, (pB g5 (0))), (62, (pB gr (0 + m * 4))), (63, (pB gr (0 + m * 4))), (64, (pB gr (0 + m * 4))), (65, sp p), (72, sp p), (83, sp p), (69, avI (xB l m).x), (76, avI (xB l m).y), (80, avI (xB l m).y), (87, avI (xB l m).quarter), (70, (iB 3 [avI (xB l m).x, avI (-1), avI 500001])), (81, (iB 4 [avI (xB l m).y, avI (xB l m).y, avI (-1), avI 500000]))], [boxProd g3 pr 28, bB g4, .box g5 ⟨[avI r9, avI r12, .v (.slice (some ⟨gr, 0, none⟩) l.length c)], 32, 3⟩, .box gr ⟨rowL l, 94, c * 4⟩], k + 3 + 4 * q + 1 + 1 + 1⟩ := by
            rw [hF]
            refine VA.all (rs := [9, 26]) (by decide +kernel) (by decide) ?_
            refine ⟨⟨_, rfl, .inl rfl, ?_⟩, ⟨_, rfl, .inl rfl, ?_⟩, trivial⟩
            ·
              refine OpE.callT' (k + 3 + 4 * q + 1 + 1 + 1) rfl rfl hB rfl Tryz.call13 rfl (pick_X (by rfl) (by decide) (by decide) (by repeat (first | exact AllX.nil | refine AllX.cons ?_))) (by omega) ?_
              rintro _ ⟨r71, rfl⟩
              have hh := hS4 r71
              rw [hF] at hh
              exact VA.to hh (by decide +kernel) (Le.mk hB [0, 1, 2, 3] ⟨rfl, rfl, rfl, rfl, rfl, rfl, rfl, rfl, rfl, rfl, rfl, rfl, rfl, rfl, rfl, rfl, rfl, trivial⟩ rfl rfl (Nat.le_refl _))
            ·
              refine OpE.buildSlice (zc := #[.int .i64 0, .int .i64 0, .int .i64 0]) rfl hB rfl Tryz.underlying22 Tryz.sizeOf3 Tryz.zeroValue3 (by decide) (by decide) (by kernel_rfl) rfl rfl ?_
              have hh := hS6 
              rw [hF] at hh
              exact VA.to hh (by decide +kernel) (Le.mk hB [0, 1, 2, 3] ⟨rfl, rfl, rfl, rfl, rfl, rfl, rfl, rfl, rfl, rfl, rfl, rfl, rfl, rfl, rfl, rfl, rfl, trivial⟩ rfl rfl (Nat.le_refl _))
          have hS9 : F 13 (lstB 37 [0, 1, 2, 3, 4, 5, 6, 7, 8, 10, 11, 12, 13, 14, 15, 16, 17, 18, 21, 22, 23, 24, 25, 26]) ⟨[(0, sp p), (3, (pB g3 (0))), (4, (pB g4 (0))), (5, (pB g5 (0))), (62, (pB gr (0 + m * 4))), (63, (pB gr (0 + m * 4))), (64, (pB gr (0 + m * 4))), (65, sp p), (72, sp p), (83, sp p), (69, avI (xB l m).x), (76, avI (xB l m).y), (80, avI (xB l m).y), (87, avI (xB l m).quarter), (70, (iB 3 [avI (xB l m).x, avI (-1), avI 500001])), (88, (iB 3 [avI (xB l m).quarter, avI 4, avI (-1)]))], [boxProd g3 pr 28, bB g4, .box g5 ⟨[avI r9, avI r12, .v (.slice (some ⟨gr, 0, none⟩) l.length c)], 32, 3⟩, .box gr ⟨rowL l, 94, c * 4⟩], k + 3 + 4 * q + 1 + 1 + 1⟩ := by
            rw [hF]
            refine VA.all (rs := [9, 19]) (by decide +kernel) (by decide) ?_
            refine ⟨⟨_, rfl, .inl rfl, ?_⟩, ⟨_, rfl, .inl rfl, ?_⟩, trivial⟩
            ·
              refine OpE.callT' (k + 3 + 4 * q + 1 + 1 + 1) rfl rfl hB rfl Tryz.call13 rfl (pick_X (by rfl) (by decide) (by decide) (by repeat (first | exact AllX.nil | refine AllX.cons ?_))) (by omega) ?_
              rintro _ ⟨r71, rfl⟩
              have hh := hS5 r71
              rw [hF] at hh
              exact VA.to hh (by decide +kernel) (Le.mk hB [0, 1, 2, 3] ⟨rfl, rfl, rfl, rfl, rfl, rfl, rfl, rfl, rfl, rfl, rfl, rfl, rfl, rfl, rfl, rfl, rfl, trivial⟩ rfl rfl (Nat.le_refl _))
            ·
              refine OpE.buildSlice (zc := #[.int .i64 0, .int .i64 0, .int .i64 0, .int .i64 0]) rfl hB rfl Tryz.underlying22 Tryz.sizeOf3 Tryz.zeroValue3 (by decide) (by decide) (by kernel_rfl) rfl rfl ?_
              have hh := hS6 
              rw [hF] at hh
              exact VA.to hh (by decide +kernel) (Le.mk hB [0, 1, 2, 3] ⟨rfl, rfl, rfl, rfl, rfl, rfl, rfl, rfl, rfl, rfl, rfl, rfl, rfl, rfl, rfl, rfl, rfl, trivial⟩ rfl rfl (Nat.le_refl _))
          have hS10 : F 13 (lstB 37 [0, 1, 2, 3, 4, 5, 6, 7, 10, 11, 12, 13, 14, 15, 16, 17, 18, 19, 21, 22, 23, 24, 25, 26]) ⟨[(0, sp p), (3, (pB g3 (0))), (4, (pB g4 (0))), (5, (pB g5 (0))), (62, (pB gr (0 + m * 4))), (63, (pB gr (0 + m * 4))), (64, (pB gr (0 + m * 4))), (65, sp p), (72, sp p), (83, sp p), (69, avI (xB l m).x), (76, avI (xB l m).y), (80, avI (xB l m).y), (87, avI (xB l m).quarter), (81, (iB 4 [avI (xB l m).y, avI (xB l m).y, avI (-1), avI 500000])), (88, (iB 3 [avI (xB l m).quarter, avI 4, avI (-1)]))], [boxProd g3 pr 28, bB g4, .box g5 ⟨[avI r9, avI r12, .v (.slice (some ⟨gr, 0, none⟩) l.length c)], 32, 3⟩, .box gr ⟨rowL l, 94, c * 4⟩], k + 3 + 4 * q + 1 + 1 + 1⟩ := by
            rw [hF]
            refine VA.all (rs := [8]) (by decide +kernel) (by decide) ?_
            refine ⟨⟨_, rfl, .inl rfl, ?_⟩, trivial⟩
            refine OpE.buildSlice (zc := #[.int .i64 0, .int .i64 0, .int .i64 0]) rfl hB rfl Tryz.underlying22 Tryz.sizeOf3 Tryz.zeroValue3 (by decide) (by decide) (by kernel_rfl) rfl rfl ?_
            have hh := hS6 
            rw [hF] at hh
            exact VA.to hh (by decide +kernel) (Le.mk hB [0, 1, 2, 3] ⟨rfl, rfl, rfl, rfl, rfl, rfl, rfl, rfl, rfl, rfl, rfl, rfl, rfl, rfl, rfl, rfl, rfl, trivial⟩ rfl rfl (Nat.le_refl _))
          have hS11 : F 14 (lstB 37 [0, 1, 2, 3, 4, 5, 6, 7, 8, 10, 11, 12, 13, 14, 15, 16, 17, 18, 21, 22, 23, 24, 25]) ⟨[(0, sp p), (3, (pB g3 (0))), (4, (pB g4 (0))), (5, (pB g5 (0))), (62, (pB gr (0 + m * 4))), (63, (pB gr (0 + m * 4))), (64, (pB gr (0 + m * 4))), (65, sp p), (72, sp p), (83, sp p), (69, avI (xB l m).x), (76, avI (xB l m).y), (80, avI (xB l m).y), (87, avI (xB l m).quarter), (70, (iB 3 [avI (xB l m).x, avI (-1), avI 500001]))], [boxProd g3 pr 28, bB g4, .box g5 ⟨[avI r9, avI r12, .v (.slice (some ⟨gr, 0, none⟩) l.length c)], 32, 3⟩, .box gr ⟨rowL l, 94, c * 4⟩], k + 3 + 4 * q + 1 + 1 + 1⟩ := by
            rw [hF]
            refine VA.all (rs := [9, 19, 26]) (by decide +kernel) (by decide) ?_
            refine ⟨⟨_, rfl, .inl rfl, ?_⟩, ⟨_, rfl, .inl rfl, ?_⟩, ⟨_, rfl, .inl rfl, ?_⟩, trivial⟩
            ·
              refine OpE.callT' (k + 3 + 4 * q + 1 + 1 + 1) rfl rfl hB rfl Tryz.call13 rfl (pick_X (by rfl) (by decide) (by decide) (by repeat (first | exact AllX.nil | refine AllX.cons ?_))) (by omega) ?_
              rintro _ ⟨r71, rfl⟩
              have hh := hS7 r71
              rw [hF] at hh
              exact VA.to hh (by decide +kernel) (Le.mk hB [0, 1, 2, 3] ⟨rfl, rfl, rfl, rfl, rfl, rfl, rfl, rfl, rfl, rfl, rfl, rfl, rfl, rfl, rfl, rfl, trivial⟩ rfl rfl (Nat.le_refl _))
            ·
              refine OpE.buildSlice (zc := #[.int .i64 0, .int .i64 0, .int .i64 0, .int .i64 0]) rfl hB rfl Tryz.underlying22 Tryz.sizeOf3 Tryz.zeroValue3 (by decide) (by decide) (by kernel_rfl) rfl rfl ?_
              have hh := hS8 
              rw [hF] at hh
              exact VA.to hh (by decide +kernel) (Le.mk hB [0, 1, 2, 3] ⟨rfl, rfl, rfl, rfl, rfl, rfl, rfl, rfl, rfl, rfl, rfl, rfl, rfl, rfl, rfl, rfl, trivial⟩ rfl rfl (Nat.le_refl _))
            ·
              refine OpE.buildSlice (zc := #[.int .i64 0, .int .i64 0, .int .i64 0]) rfl hB rfl Tryz.underlying22 Tryz.sizeOf3 Tryz.zeroValue3 (by decide) (by decide) (by kernel_rfl) rfl rfl ?_
              have hh := hS9 
              rw [hF] at hh
              exact VA.to hh (by decide +kernel) (Le.mk hB [0, 1, 2, 3] ⟨rfl, rfl, rfl, rfl, rfl, rfl, rfl, rfl, rfl, rfl, rfl, rfl, rfl, rfl, rfl, rfl, trivial⟩ rfl rfl (Nat.le_refl _))
          have hS12 : F 14 (lstB 37 [0, 1, 2, 3, 4, 5, 6, 7, 10, 11, 12, 13, 14, 15, 16, 17, 18, 19, 21, 22, 23, 24, 25]) ⟨[(0, sp p), (3, (pB g3 (0))), (4, (pB g4 (0))), (5, (pB g5 (0))), (62, (pB gr (0 + m * 4))), (63, (pB gr (0 + m * 4))), (64, (pB gr (0 + m * 4))), (65, sp p), (72, sp p), (83, sp p), (69, avI (xB l m).x), (76, avI (xB l m).y), (80, avI (xB l m).y), (87, avI (xB l m).quarter), (81, (iB 4 [avI (xB l m).y, avI (xB l m).y, avI (-1), avI 500000]))], [boxProd g3 pr 28, bB g4, .box g5 ⟨[avI r9, avI r12, .v (.slice (some ⟨gr, 0, none⟩) l.length c)], 32, 3⟩, .box gr ⟨rowL l, 94, c * 4⟩], k + 3 + 4 * q + 1 + 1 + 1⟩ := by
            rw [hF]
            refine VA.all (rs := [8, 26]) (by decide +kernel) (by decide) ?_
            refine ⟨⟨_, rfl, .inl rfl, ?_⟩, ⟨_, rfl, .inl rfl, ?_⟩, trivial⟩
            ·
              refine OpE.buildSlice (zc := #[.int .i64 0, .int .i64 0, .int .i64 0]) rfl hB rfl Tryz.underlying22 Tryz.sizeOf3 Tryz.zeroValue3 (by decide) (by decide) (by kernel_rfl) rfl rfl ?_
              have hh := hS8 
              rw [hF] at hh
              exact VA.to hh (by decide +kernel) (Le.mk hB [0, 1, 2, 3] ⟨rfl, rfl, rfl, rfl, rfl, rfl, rfl, rfl, rfl, rfl, rfl, rfl, rfl, rfl, rfl, rfl, trivial⟩ rfl rfl (Nat.le_refl _))
            ·
              refine OpE.buildSlice (zc := #[.int .i64 0, .int .i64 0, .int .i64 0]) rfl hB rfl Tryz.underlying22 Tryz.sizeOf3 Tryz.zeroValue3 (by decide) (by decide) (by kernel_rfl) rfl rfl ?_
              have hh := hS10 
              rw [hF] at hh
              exact VA.to hh (by decide +kernel) (Le.mk hB [0, 1, 2, 3] ⟨rfl, rfl, rfl, rfl, rfl, rfl, rfl, rfl, rfl, rfl, rfl, rfl, rfl, rfl, rfl, rfl, trivial⟩ rfl rfl (Nat.le_refl _))
          have hS13 : F 14 (lstB 37 [0, 1, 2, 3, 4, 5, 6, 7, 10, 11, 12, 13, 14, 15, 16, 17, 18, 21, 22, 23, 24, 25, 26]) ⟨[(0, sp p), (3, (pB g3 (0))), (4, (pB g4 (0))), (5, (pB g5 (0))), (62, (pB gr (0 + m * 4))), (63, (pB gr (0 + m * 4))), (64, (pB gr (0 + m * 4))), (65, sp p), (72, sp p), (83, sp p), (69, avI (xB l m).x), (76, avI (xB l m).y), (80, avI (xB l m).y), (87, avI (xB l m).quarter), (88, (iB 3 [avI (xB l m).quarter, avI 4, avI (-1)]))], [boxProd g3 pr 28, bB g4, .box g5 ⟨[avI r9, avI r12, .v (.slice (some ⟨gr, 0, none⟩) l.length c)], 32, 3⟩, .box gr ⟨rowL l, 94, c * 4⟩], k + 3 + 4 * q + 1 + 1 + 1⟩ := by
            rw [hF]
            refine VA.all (rs := [8, 19]) (by decide +kernel) (by decide) ?_
            refine ⟨⟨_, rfl, .inl rfl, ?_⟩, ⟨_, rfl, .inl rfl, ?_⟩, trivial⟩
            ·
              refine OpE.buildSlice (zc := #[.int .i64 0, .int .i64 0, .int .i64 0]) rfl hB rfl Tryz.underlying22 Tryz.sizeOf3 Tryz.zeroValue3 (by decide) (by decide) (by kernel_rfl) rfl rfl ?_
              have hh := hS9 
              rw [hF] at hh
              exact VA.to hh (by decide +kernel) (Le.mk hB [0, 1, 2, 3] ⟨rfl, rfl, rfl, rfl, rfl, rfl, rfl, rfl, rfl, rfl, rfl, rfl, rfl, rfl, rfl, rfl, trivial⟩ rfl rfl (Nat.le_refl _))
            ·
              refine OpE.buildSlice (zc := #[.int .i64 0, .int .i64 0, .int .i64 0, .int .i64 0]) rfl hB rfl Tryz.underlying22 Tryz.sizeOf3 Tryz.zeroValue3 (by decide) (by decide) (by kernel_rfl) rfl rfl ?_
              have hh := hS10 
              rw [hF] at hh
              exact VA.to hh (by decide +kernel) (Le.mk hB [0, 1, 2, 3] ⟨rfl, rfl, rfl, rfl, rfl, rfl, rfl, rfl, rfl, rfl, rfl, rfl, rfl, rfl, rfl, rfl, trivial⟩ rfl rfl (Nat.le_refl _))
          have hS14 : F 15 (lstB 37 [0, 1, 2, 3, 4, 5, 6, 7, 10, 11, 12, 13, 14, 15, 16, 17, 18, 21, 22, 23, 24, 25]) ⟨[(0, sp p), (3, (pB g3 (0))), (4, (pB g4 (0))), (5, (pB g5 (0))), (62, (pB gr (0 + m * 4))), (63, (pB gr (0 + m * 4))), (64, (pB gr (0 + m * 4))), (65, sp p), (72, sp p), (83, sp p), (69, avI (xB l m).x), (76, avI (xB l m).y), (80, avI (xB l m).y), (87, avI (xB l m).quarter)], [boxProd g3 pr 28, bB g4, .box g5 ⟨[avI r9, avI r12, .v (.slice (some ⟨gr, 0, none⟩) l.length c)], 32, 3⟩, .box gr ⟨rowL l, 94, c * 4⟩], k + 3 + 4 * q + 1 + 1 + 1⟩ := by
            rw [hF]
            refine VA.all (rs := [8, 19, 26]) (by decide +kernel) (by decide) ?_
            refine ⟨⟨_, rfl, .inl rfl, ?_⟩, ⟨_, rfl, .inl rfl, ?_⟩, ⟨_, rfl, .inl rfl, ?_⟩, trivial⟩
            ·
              refine OpE.buildSlice (zc := #[.int .i64 0, .int .i64 0, .int .i64 0]) rfl hB rfl Tryz.underlying22 Tryz.sizeOf3 Tryz.zeroValue3 (by decide) (by decide) (by kernel_rfl) rfl rfl ?_
              have hh := hS11 
              rw [hF] at hh
              exact VA.to hh (by decide +kernel) (Le.mk hB [0, 1, 2, 3] ⟨rfl, rfl, rfl, rfl, rfl, rfl, rfl, rfl, rfl, rfl, rfl, rfl, rfl, rfl, rfl, trivial⟩ rfl rfl (Nat.le_refl _))
            ·
              refine OpE.buildSlice (zc := #[.int .i64 0, .int .i64 0, .int .i64 0, .int .i64 0]) rfl hB rfl Tryz.underlying22 Tryz.sizeOf3 Tryz.zeroValue3 (by decide) (by decide) (by kernel_rfl) rfl rfl ?_
              have hh := hS12 
              rw [hF] at hh
              exact VA.to hh (by decide +kernel) (Le.mk hB [0, 1, 2, 3] ⟨rfl, rfl, rfl, rfl, rfl, rfl, rfl, rfl, rfl, rfl, rfl, rfl, rfl, rfl, rfl, trivial⟩ rfl rfl (Nat.le_refl _))
            ·
              refine OpE.buildSlice (zc := #[.int .i64 0, .int .i64 0, .int .i64 0]) rfl hB rfl Tryz.underlying22 Tryz.sizeOf3 Tryz.zeroValue3 (by decide) (by decide) (by kernel_rfl) rfl rfl ?_
              have hh := hS13 
              rw [hF] at hh
              exact VA.to hh (by decide +kernel) (Le.mk hB [0, 1, 2, 3] ⟨rfl, rfl, rfl, rfl, rfl, rfl, rfl, rfl, rfl, rfl, rfl, rfl, rfl, rfl, rfl, trivial⟩ rfl rfl (Nat.le_refl _))
          rw [hF]
          have hh := hS14 
          rw [hF] at hh
          exact VA.to hh (by decide +kernel) (Le.mk hB [0, 1, 2, 3] ⟨rfl, rfl, rfl, rfl, rfl, rfl, rfl, rfl, rfl, rfl, rfl, rfl, rfl, rfl, trivial⟩ rfl rfl (Nat.le_refl _))
        · have aH4 := aH4b
          try simp only [qqT, qqF, qqN, qqM, qqL, qqE] at aH4
          refine VC.draw (fun j b => j ∈ [11, 13] ∧ b = g5) hB (by kernel_rfl) ?_
          refine VA.take (i := 0) rfl (by decide +kernel) (by decide +kernel) (by decide +kernel) rfl rfl (OpV.move (.inl rfl) rfl) ?_
          refine VA.take (i := 1) rfl (by decide +kernel) (by decide +kernel) (by decide +kernel) rfl rfl (OpV.fieldAddrO 0 rfl Tryz.underlying32 rfl rfl Tryz.sizeOf3 rfl) ?_
          refine VA.take (i := 2) rfl (by decide +kernel) (by decide +kernel) (by decide +kernel) rfl rfl (OpV.load_own (i := 2) rfl hB Tryz.isAgg3 rfl rfl rfl (Wi.notD (by decide +kernel))) ?_
          refine VA.take (i := 5) rfl (by decide +kernel) (by decide +kernel) (by decide +kernel) rfl rfl (OpV.move (.inl rfl) rfl) ?_
          refine VA.take (i := 6) rfl (by decide +kernel) (by decide +kernel) (by decide +kernel) rfl rfl (OpV.fieldAddrO 1 rfl Tryz.underlying32 rfl rfl Tryz.sizeOf3 rfl) ?_
          refine VA.take (i := 7) rfl (by decide +kernel) (by decide +kernel) (by decide +kernel) rfl rfl (OpV.load_own (i := 2) rfl hB Tryz.isAgg3 rfl rfl rfl (Wi.notD (by decide +kernel))) ?_
          refine VA.bind (fun F hF => ?_)
          have hS0 : ∀ (r100 : Int) (r105 : Int), F 3 (lstB 14 [0, 1, 2, 3, 4, 5, 6, 7, 8, 9, 10]) ⟨[(0, sp p), (3, (pB g3 (0))), (4, (pB g4 (0))), (5, (pB g5 (0))), (96, sp p), (101, sp p), (98, avI r9), (103, avI r12), (99, (iB 4 [avI r9, avI 0, avI 500001, avI 30])), (100, avI r100), (104, (iB 3 [avI r12, avI (-1), avI 20])), (105, avI r105), (106, (pB g5 (0)))], [boxProd g3 pr 28, bB g4, .box g5 ⟨[avI r9, avI r12, .v (.slice b l.length c)], 32, 3⟩, .row (.slice b l.length c) l.length 4 (rowL l) 94], k + 3 + 4 * q + 1 + 1 + 1 + 1⟩ := by
            intro r100 r105
            rw [hF]
            refine VA.all (rs := [11]) (by decide +kernel) (by decide) ?_
            refine ⟨⟨_, rfl, .inl rfl, ?_⟩, trivial⟩
            refine OpE.store (i := 2) rfl hB rfl Tryz.sizeOf3 rfl rfl rfl rfl rfl rfl (Nle rfl) (by first | exact ⟨rfl, rfl⟩ | exact .inl ⟨rfl, rfl⟩ | exact .inr ⟨rfl, rfl⟩ | exact ⟨rfl, trivial⟩ | exact .inl ⟨rfl, trivial⟩ | exact .inr ⟨rfl, trivial⟩ | exact ⟨by decide, rfl⟩) ?_
            refine VA.take (i := 12) rfl (by decide +kernel) (by decide +kernel) (by decide +kernel) rfl rfl (OpV.fieldAddrO 1 rfl Tryz.underlying32 rfl rfl Tryz.sizeOf3 rfl) ?_
            refine VA.all (rs := [13]) (by decide +kernel) (by decide) ?_
            refine ⟨⟨_, rfl, .inl rfl, ?_⟩, trivial⟩
            refine OpE.store (i := 2) rfl hB rfl Tryz.sizeOf3 rfl rfl rfl rfl rfl rfl (Nle rfl) (by first | exact ⟨rfl, rfl⟩ | exact .inl ⟨rfl, rfl⟩ | exact .inr ⟨rfl, rfl⟩ | exact ⟨rfl, trivial⟩ | exact .inl ⟨rfl, trivial⟩ | exact .inr ⟨rfl, trivial⟩ | exact ⟨by decide, rfl⟩) ?_
            refine VA.done (by decide +kernel) ?_
            refine VC.seq ?_
            first | refine VC.le _ (Le.boxRow (i := 3) (n := l.length) (sz := 4) rfl (by simp only [rowL_len, List.length_set]; rfl) (by omega) (by omega)) ?_ | skip
            refine VC.region ?_
            refine VO.val rfl rfl (OpV.loadK_own (i := 2) rfl hB Tryz.isAgg32 Tryz.sizeOf32 rfl rfl rfl (fun h => h)) ?_
            refine VO.le _ (Le.aggRow (t := 108) (j := 2) (i := 3) (y := avL l) hB hnew rfl rfl rfl (fun w Z u h => Rep.rowL rfl h)) ?_
            refine VO.op rfl (OpE.store (i := 1) rfl hB rfl Tryz.sizeOf32 rfl rfl rfl rfl rfl rfl (Nle rfl) trivial ?_)
            refine VO.nil ?_
            refine VC.ret ?_
            exact Exists.intro _ (And.intro (RetV.one Tryz.results12 ((by first | exact ResV.cellK (i := 0) Tryz.isAgg32 Tryz.sizeOf32 rfl rfl rfl | exact ResV.cellK (i := 1) Tryz.isAgg32 Tryz.sizeOf32 rfl rfl rfl | exact ResV.cellK (i := 2) Tryz.isAgg32 Tryz.sizeOf32 rfl rfl rfl | exact ResV.cellK (i := 3) Tryz.isAgg32 Tryz.sizeOf32 rfl rfl rfl))) (And.intro (by first | exact ⟨⟨_, _, l⟩, by show l.length ≤ 5; omega, rfl⟩ | exact ⟨⟨_, _, ((l.set m ({l.getD m default with x := r71} : SlotS)).set m ({l.getD m default with x := r71, y := r82} : SlotS)).set m ({l.getD m default with x := r71, y := r82, quarter := r89} : SlotS)⟩, by simp; omega, rfl⟩) ((show k + 3 + 4 * q + 1 + 1 + 1 + 1 ≤ k + 40 by omega))))
          have hS1 : ∀ (r100 : Int), F 4 (lstB 14 [0, 1, 2, 3, 4, 5, 6, 7, 8, 10]) ⟨[(0, sp p), (3, (pB g3 (0))), (4, (pB g4 (0))), (5, (pB g5 (0))), (96, sp p), (101, sp p), (98, avI r9), (103, avI r12), (99, (iB 4 [avI r9, avI 0, avI 500001, avI 30])), (100, avI r100), (104, (iB 3 [avI r12, avI (-1), avI 20])), (106, (pB g5 (0)))], [boxProd g3 pr 28, bB g4, .box g5 ⟨[avI r9, avI r12, .v (.slice b l.length c)], 32, 3⟩, .row (.slice b l.length c) l.length 4 (rowL l) 94], k + 3 + 4 * q + 1 + 1 + 1⟩ := by
            intro r100
            rw [hF]
            refine VA.all (rs := [9]) (by decide +kernel) (by decide) ?_
            refine ⟨⟨_, rfl, .inl rfl, ?_⟩, trivial⟩
            refine OpE.callT' (k + 3 + 4 * q + 1 + 1 + 1) rfl rfl hB rfl Tryz.call13 rfl (pick_X (by rfl) (by decide) (by decide) (by repeat (first | exact AllX.nil | refine AllX.cons ?_))) (by omega) ?_
            rintro _ ⟨r105, rfl⟩
            have hh := hS0 r100 r105
            rw [hF] at hh
            exact VA.to hh (by decide +kernel) (Le.mk hB [0, 1, 2, 3] ⟨rfl, rfl, rfl, rfl, rfl, rfl, rfl, rfl, rfl, rfl, rfl, rfl, rfl, trivial⟩ rfl rfl (Nat.le_refl _))
          have hS2 : ∀ (r100 : Int), F 5 (lstB 14 [0, 1, 2, 3, 4, 5, 6, 7, 10]) ⟨[(0, sp p), (3, (pB g3 (0))), (4, (pB g4 (0))), (5, (pB g5 (0))), (96, sp p), (101, sp p), (98, avI r9), (103, avI r12), (99, (iB 4 [avI r9, avI 0, avI 500001, avI 30])), (100, avI r100), (106, (pB g5 (0)))], [boxProd g3 pr 28, bB g4, .box g5 ⟨[avI r9, avI r12, .v (.slice b l.length c)], 32, 3⟩, .row (.slice b l.length c) l.length 4 (rowL l) 94], k + 3 + 4 * q + 1 + 1 + 1⟩ := by
            intro r100
            rw [hF]
            refine VA.all (rs := [8]) (by decide +kernel) (by decide) ?_
            refine ⟨⟨_, rfl, .inl rfl, ?_⟩, trivial⟩
            refine OpE.buildSlice (zc := #[.int .i64 0, .int .i64 0, .int .i64 0]) rfl hB rfl Tryz.underlying22 Tryz.sizeOf3 Tryz.zeroValue3 (by decide) (by decide) (by kernel_rfl) rfl rfl ?_
            have hh := hS1 r100
            rw [hF] at hh
            exact VA.to hh (by decide +kernel) (Le.mk hB [0, 1, 2, 3] ⟨rfl, rfl, rfl, rfl, rfl, rfl, rfl, rfl, rfl, rfl, rfl, rfl, trivial⟩ rfl rfl (Nat.le_refl _))
          have hS3 : F 6 (lstB 14 [0, 1, 2, 3, 5, 6, 7, 8]) ⟨[(0, sp p), (3, (pB g3 (0))), (4, (pB g4 (0))), (5, (pB g5 (0))), (96, sp p), (101, sp p), (98, avI r9), (103, avI r12), (99, (iB 4 [avI r9, avI 0, avI 500001, avI 30])), (104, (iB 3 [avI r12, avI (-1), avI 20]))], [boxProd g3 pr 28, bB g4, .box g5 ⟨[avI r9, avI r12, .v (.slice b l.length c)], 32, 3⟩, .row (.slice b l.length c) l.length 4 (rowL l) 94], k + 3 + 4 * q + 1 + 1⟩ := by
            rw [hF]
            refine VA.all (rs := [4]) (by decide +kernel) (by decide) ?_
            refine ⟨⟨_, rfl, .inl rfl, ?_⟩, trivial⟩
            refine OpE.callT' (k + 3 + 4 * q + 1 + 1) rfl rfl hB rfl Tryz.call13 rfl (pick_X (by rfl) (by decide) (by decide) (by repeat (first | exact AllX.nil | refine AllX.cons ?_))) (by omega) ?_
            rintro _ ⟨r100, rfl⟩
            refine VA.take (i := 10) rfl (by decide +kernel) (by decide +kernel) (by decide +kernel) rfl rfl (OpV.fieldAddrO 0 rfl Tryz.underlying32 rfl rfl Tryz.sizeOf3 rfl) ?_
            have hh := hS1 r100
            rw [hF] at hh
            exact VA.to hh (by decide +kernel) (Le.mk hB [0, 1, 2, 3] ⟨rfl, rfl, rfl, rfl, rfl, rfl, rfl, rfl, rfl, rfl, rfl, rfl, trivial⟩ rfl rfl (Nat.le_refl _))
          have hS4 : F 7 (lstB 14 [0, 1, 2, 3, 5, 6, 7]) ⟨[(0, sp p), (3, (pB g3 (0))), (4, (pB g4 (0))), (5, (pB g5 (0))), (96, sp p), (101, sp p), (98, avI r9), (103, avI r12), (99, (iB 4 [avI r9, avI 0, avI 500001, avI 30]))], [boxProd g3 pr 28, bB g4, .box g5 ⟨[avI r9, avI r12, .v (.slice b l.length c)], 32, 3⟩, .row (.slice b l.length c) l.length 4 (rowL l) 94], k + 3 + 4 * q + 1 + 1⟩ := by
            rw [hF]
            refine VA.all (rs := [4, 8]) (by decide +kernel) (by decide) ?_
            refine ⟨⟨_, rfl, .inl rfl, ?_⟩, ⟨_, rfl, .inl rfl, ?_⟩, trivial⟩
            ·
              refine OpE.callT' (k + 3 + 4 * q + 1 + 1) rfl rfl hB rfl Tryz.call13 rfl (pick_X (by rfl) (by decide) (by decide) (by repeat (first | exact AllX.nil | refine AllX.cons ?_))) (by omega) ?_
              rintro _ ⟨r100, rfl⟩
              refine VA.take (i := 10) rfl (by decide +kernel) (by decide +kernel) (by decide +kernel) rfl rfl (OpV.fieldAddrO 0 rfl Tryz.underlying32 rfl rfl Tryz.sizeOf3 rfl) ?_
              have hh := hS2 r100
              rw [hF] at hh
              exact VA.to hh (by decide +kernel) (Le.mk hB [0, 1, 2, 3] ⟨rfl, rfl, rfl, rfl, rfl, rfl, rfl, rfl, rfl, rfl, rfl, trivial⟩ rfl rfl (Nat.le_refl _))
            ·
              refine OpE.buildSlice (zc := #[.int .i64 0, .int .i64 0, .int .i64 0]) rfl hB rfl Tryz.underlying22 Tryz.sizeOf3 Tryz.zeroValue3 (by decide) (by decide) (by kernel_rfl) rfl rfl ?_
              have hh := hS3 
              rw [hF] at hh
              exact VA.to hh (by decide +kernel) (Le.mk hB [0, 1, 2, 3] ⟨rfl, rfl, rfl, rfl, rfl, rfl, rfl, rfl, rfl, rfl, trivial⟩ rfl rfl (Nat.le_refl _))
          have hS5 : F 7 (lstB 14 [0, 1, 2, 5, 6, 7, 8]) ⟨[(0, sp p), (3, (pB g3 (0))), (4, (pB g4 (0))), (5, (pB g5 (0))), (96, sp p), (101, sp p), (98, avI r9), (103, avI r12), (104, (iB 3 [avI r12, avI (-1), avI 20]))], [boxProd g3 pr 28, bB g4, .box g5 ⟨[avI r9, avI r12, .v (.slice b l.length c)], 32, 3⟩, .row (.slice b l.length c) l.length 4 (rowL l) 94], k + 3 + 4 * q + 1 + 1⟩ := by
            rw [hF]
            refine VA.all (rs := [3]) (by decide +kernel) (by decide) ?_
            refine ⟨⟨_, rfl, .inl rfl, ?_⟩, trivial⟩
            refine OpE.buildSlice (zc := #[.int .i64 0, .int .i64 0, .int .i64 0, .int .i64 0]) rfl hB rfl Tryz.underlying22 Tryz.sizeOf3 Tryz.zeroValue3 (by decide) (by decide) (by kernel_rfl) rfl rfl ?_
            have hh := hS3 
            rw [hF] at hh
            exact VA.to hh (by decide +kernel) (Le.mk hB [0, 1, 2, 3] ⟨rfl, rfl, rfl, rfl, rfl, rfl, rfl, rfl, rfl, rfl, trivial⟩ rfl rfl (Nat.le_refl _))
          have hS6 : F 8 (lstB 14 [0, 1, 2, 5, 6, 7]) ⟨[(0, sp p), (3, (pB g3 (0))), (4, (pB g4 (0))), (5, (pB g5 (0))), (96, sp p), (101, sp p), (98, avI r9), (103, avI r12)], [boxProd g3 pr 28, bB g4, .box g5 ⟨[avI r9, avI r12, .v (.slice b l.length c)], 32, 3⟩, .row (.slice b l.length c) l.length 4 (rowL l) 94], k + 3 + 4 * q + 1 + 1⟩ := by
            rw [hF]
            refine VA.all (rs := [3, 8]) (by decide +kernel) (by decide) ?_
            refine ⟨⟨_, rfl, .inl rfl, ?_⟩, ⟨_, rfl, .inl rfl, ?_⟩, trivial⟩
            ·
              refine OpE.buildSlice (zc := #[.int .i64 0, .int .i64 0, .int .i64 0, .int .i64 0]) rfl hB rfl Tryz.underlying22 Tryz.sizeOf3 Tryz.zeroValue3 (by decide) (by decide) (by kernel_rfl) rfl rfl ?_
              have hh := hS4 
              rw [hF] at hh
              exact VA.to hh (by decide +kernel) (Le.mk hB [0, 1, 2, 3] ⟨rfl, rfl, rfl, rfl, rfl, rfl, rfl, rfl, rfl, trivial⟩ rfl rfl (Nat.le_refl _))
            ·
              refine OpE.buildSlice (zc := #[.int .i64 0, .int .i64 0, .int .i64 0]) rfl hB rfl Tryz.underlying22 Tryz.sizeOf3 Tryz.zeroValue3 (by decide) (by decide) (by kernel_rfl) rfl rfl ?_
              have hh := hS5 
              rw [hF] at hh
              exact VA.to hh (by decide +kernel) (Le.mk hB [0, 1, 2, 3] ⟨rfl, rfl, rfl, rfl, rfl, rfl, rfl, rfl, rfl, trivial⟩ rfl rfl (Nat.le_refl _))
          rw [hF]
          have hh := hS6 
          rw [hF] at hh
          exact VA.to hh (by decide +kernel) (Le.mk hB [0, 1, 2, 3] ⟨rfl, rfl, rfl, rfl, rfl, rfl, rfl, rfl, trivial⟩ rfl rfl (Nat.le_refl _))
      · replace aK3b : _ = false := aK3b
        have aK3 := aK3b
        try simp only [qqT, qqF, qqN, qqM, qqL, qqE] at aK3
        refine VO.opX rfl rfl rfl rfl aK3b ?_
        refine VO.val rfl rfl (OpV.pickF rfl rfl rfl rfl aK3b) ?_
        refine VO.nil ?_
        refine VC.condF rfl rfl ?_
        refine VC.draw (fun j b => j ∈ [11, 13] ∧ b = g5) hB (by kernel_rfl) ?_
        refine VA.take (i := 0) rfl (by decide +kernel) (by decide +kernel) (by decide +kernel) rfl rfl (OpV.move (.inl rfl) rfl) ?_
        refine VA.take (i := 1) rfl (by decide +kernel) (by decide +kernel) (by decide +kernel) rfl rfl (OpV.fieldAddrO 0 rfl Tryz.underlying32 rfl rfl Tryz.sizeOf3 rfl) ?_
        refine VA.take (i := 2) rfl (by decide +kernel) (by decide +kernel) (by decide +kernel) rfl rfl (OpV.load_own (i := 2) rfl hB Tryz.isAgg3 rfl rfl rfl (Wi.notD (by decide +kernel))) ?_
        refine VA.take (i := 5) rfl (by decide +kernel) (by decide +kernel) (by decide +kernel) rfl rfl (OpV.move (.inl rfl) rfl) ?_
        refine VA.take (i := 6) rfl (by decide +kernel) (by decide +kernel) (by decide +kernel) rfl rfl (OpV.fieldAddrO 1 rfl Tryz.underlying32 rfl rfl Tryz.sizeOf3 rfl) ?_
        refine VA.take (i := 7) rfl (by decide +kernel) (by decide +kernel) (by decide +kernel) rfl rfl (OpV.load_own (i := 2) rfl hB Tryz.isAgg3 rfl rfl rfl (Wi.notD (by decide +kernel))) ?_
        refine VA.bind (fun F hF => ?_)
        have hS0 : ∀ (r100 : Int) (r105 : Int), F 3 (lstB 14 [0, 1, 2, 3, 4, 5, 6, 7, 8, 9, 10]) ⟨[(0, sp p), (3, (pB g3 (0))), (4, (pB g4 (0))), (5, (pB g5 (0))), (96, sp p), (101, sp p), (98, avI r9), (103, avI r12), (99, (iB 4 [avI r9, avI 0, avI 500001, avI 30])), (100, avI r100), (104, (iB 3 [avI r12, avI (-1), avI 20])), (105, avI r105), (106, (pB g5 (0)))], [boxProd g3 pr 28, bB g4, .box g5 ⟨[avI r9, avI r12, .v (.slice b l.length c)], 32, 3⟩, .row (.slice b l.length c) l.length 4 (rowL l) 94], k + 3 + 4 * q + 1 + 1 + 1⟩ := by
          intro r100 r105
          rw [hF]
          refine VA.all (rs := [11]) (by decide +kernel) (by decide) ?_
          refine ⟨⟨_, rfl, .inl rfl, ?_⟩, trivial⟩
          refine OpE.store (i := 2) rfl hB rfl Tryz.sizeOf3 rfl rfl rfl rfl rfl rfl (Nle rfl) (by first | exact ⟨rfl, rfl⟩ | exact .inl ⟨rfl, rfl⟩ | exact .inr ⟨rfl, rfl⟩ | exact ⟨rfl, trivial⟩ | exact .inl ⟨rfl, trivial⟩ | exact .inr ⟨rfl, trivial⟩ | exact ⟨by decide, rfl⟩) ?_
          refine VA.take (i := 12) rfl (by decide +kernel) (by decide +kernel) (by decide +kernel) rfl rfl (OpV.fieldAddrO 1 rfl Tryz.underlying32 rfl rfl Tryz.sizeOf3 rfl) ?_
          refine VA.all (rs := [13]) (by decide +kernel) (by decide) ?_
          refine ⟨⟨_, rfl, .inl rfl, ?_⟩, trivial⟩
          refine OpE.store (i := 2) rfl hB rfl Tryz.sizeOf3 rfl rfl rfl rfl rfl rfl (Nle rfl) (by first | exact ⟨rfl, rfl⟩ | exact .inl ⟨rfl, rfl⟩ | exact .inr ⟨rfl, rfl⟩ | exact ⟨rfl, trivial⟩ | exact .inl ⟨rfl, trivial⟩ | exact .inr ⟨rfl, trivial⟩ | exact ⟨by decide, rfl⟩) ?_
          refine VA.done (by decide +kernel) ?_
          refine VC.seq ?_
          first | refine VC.le _ (Le.boxRow (i := 3) (n := l.length) (sz := 4) rfl (by simp only [rowL_len, List.length_set]; rfl) (by omega) (by omega)) ?_ | skip
          refine VC.region ?_
          refine VO.val rfl rfl (OpV.loadK_own (i := 2) rfl hB Tryz.isAgg32 Tryz.sizeOf32 rfl rfl rfl (fun h => h)) ?_
          refine VO.le _ (Le.aggRow (t := 108) (j := 2) (i := 3) (y := avL l) hB hnew rfl rfl rfl (fun w Z u h => Rep.rowL rfl h)) ?_
          refine VO.op rfl (OpE.store (i := 1) rfl hB rfl Tryz.sizeOf32 rfl rfl rfl rfl rfl rfl (Nle rfl) trivial ?_)
          refine VO.nil ?_
          refine VC.ret ?_
          exact Exists.intro _ (And.intro (RetV.one Tryz.results12 ((by first | exact ResV.cellK (i := 0) Tryz.isAgg32 Tryz.sizeOf32 rfl rfl rfl | exact ResV.cellK (i := 1) Tryz.isAgg32 Tryz.sizeOf32 rfl rfl rfl | exact ResV.cellK (i := 2) Tryz.isAgg32 Tryz.sizeOf32 rfl rfl rfl | exact ResV.cellK (i := 3) Tryz.isAgg32 Tryz.sizeOf32 rfl rfl rfl))) (And.intro (by first | exact ⟨⟨_, _, l⟩, by show l.length ≤ 5; omega, rfl⟩ | exact ⟨⟨_, _, ((l.set m ({l.getD m default with x := r71} : SlotS)).set m ({l.getD m default with x := r71, y := r82} : SlotS)).set m ({l.getD m default with x := r71, y := r82, quarter := r89} : SlotS)⟩, by simp; omega, rfl⟩) ((show k + 3 + 4 * q + 1 + 1 + 1 ≤ k + 40 by omega))))
        have hS1 : ∀ (r100 : Int), F 4 (lstB 14 [0, 1, 2, 3, 4, 5, 6, 7, 8, 10]) ⟨[(0, sp p), (3, (pB g3 (0))), (4, (pB g4 (0))), (5, (pB g5 (0))), (96, sp p), (101, sp p), (98, avI r9), (103, avI r12), (99, (iB 4 [avI r9, avI 0, avI 500001, avI 30])), (100, avI r100), (104, (iB 3 [avI r12, avI (-1), avI 20])), (106, (pB g5 (0)))], [boxProd g3 pr 28, bB g4, .box g5 ⟨[avI r9, avI r12, .v (.slice b l.length c)], 32, 3⟩, .row (.slice b l.length c) l.length 4 (rowL l) 94], k + 3 + 4 * q + 1 + 1⟩ := by
          intro r100
          rw [hF]
          refine VA.all (rs := [9]) (by decide +kernel) (by decide) ?_
          refine ⟨⟨_, rfl, .inl rfl, ?_⟩, trivial⟩
          refine OpE.callT' (k + 3 + 4 * q + 1 + 1) rfl rfl hB rfl Tryz.call13 rfl (pick_X (by rfl) (by decide) (by decide) (by repeat (first | exact AllX.nil | refine AllX.cons ?_))) (by omega) ?_
          rintro _ ⟨r105, rfl⟩
          have hh := hS0 r100 r105
          rw [hF] at hh
          exact VA.to hh (by decide +kernel) (Le.mk hB [0, 1, 2, 3] ⟨rfl, rfl, rfl, rfl, rfl, rfl, rfl, rfl, rfl, rfl, rfl, rfl, rfl, trivial⟩ rfl rfl (Nat.le_refl _))
        have hS2 : ∀ (r100 : Int), F 5 (lstB 14 [0, 1, 2, 3, 4, 5, 6, 7, 10]) ⟨[(0, sp p), (3, (pB g3 (0))), (4, (pB g4 (0))), (5, (pB g5 (0))), (96, sp p), (101, sp p), (98, avI r9), (103, avI r12), (99, (iB 4 [avI r9, avI 0, avI 500001, avI 30])), (100, avI r100), (106, (pB g5 (0)))], [boxProd g3 pr 28, bB g4, .box g5 ⟨[avI r9, avI r12, .v (.slice b l.length c)], 32, 3⟩, .row (.slice b l.length c) l.length 4 (rowL l) 94], k + 3 + 4 * q + 1 + 1⟩ := by
          intro r100
          rw [hF]
          refine VA.all (rs := [8]) (by decide +kernel) (by decide) ?_
          refine ⟨⟨_, rfl, .inl rfl, ?_⟩, trivial⟩
          refine OpE.buildSlice (zc := #[.int .i64 0, .int .i64 0, .int .i64 0]) rfl hB rfl Tryz.underlying22 Tryz.sizeOf3 Tryz.zeroValue3 (by decide) (by decide) (by kernel_rfl) rfl rfl ?_
          have hh := hS1 r100
          rw [hF] at hh
          exact VA.to hh (by decide +kernel) (Le.mk hB [0, 1, 2, 3] ⟨rfl, rfl, rfl, rfl, rfl, rfl, rfl, rfl, rfl, rfl, rfl, rfl, trivial⟩ rfl rfl (Nat.le_refl _))
        have hS3 : F 6 (lstB 14 [0, 1, 2, 3, 5, 6, 7, 8]) ⟨[(0, sp p), (3, (pB g3 (0))), (4, (pB g4 (0))), (5, (pB g5 (0))), (96, sp p), (101, sp p), (98, avI r9), (103, avI r12), (99, (iB 4 [avI r9, avI 0, avI 500001, avI 30])), (104, (iB 3 [avI r12, avI (-1), avI 20]))], [boxProd g3 pr 28, bB g4, .box g5 ⟨[avI r9, avI r12, .v (.slice b l.length c)], 32, 3⟩, .row (.slice b l.length c) l.length 4 (rowL l) 94], k + 3 + 4 * q + 1⟩ := by
          rw [hF]
          refine VA.all (rs := [4]) (by decide +kernel) (by decide) ?_
          refine ⟨⟨_, rfl, .inl rfl, ?_⟩, trivial⟩
          refine OpE.callT' (k + 3 + 4 * q + 1) rfl rfl hB rfl Tryz.call13 rfl (pick_X (by rfl) (by decide) (by decide) (by repeat (first | exact AllX.nil | refine AllX.cons ?_))) (by omega) ?_
          rintro _ ⟨r100, rfl⟩
          refine VA.take (i := 10) rfl (by decide +kernel) (by decide +kernel) (by decide +kernel) rfl rfl (OpV.fieldAddrO 0 rfl Tryz.underlying32 rfl rfl Tryz.sizeOf3 rfl) ?_
          have hh := hS1 r100
          rw [hF] at hh
          exact VA.to hh (by decide +kernel) (Le.mk hB [0, 1, 2, 3] ⟨rfl, rfl, rfl, rfl, rfl, rfl, rfl, rfl, rfl, rfl, rfl, rfl, trivial⟩ rfl rfl (Nat.le_refl _))
        have hS4 : F 7 (lstB 14 [0, 1, 2, 3, 5, 6, 7]) ⟨[(0, sp p), (3, (pB g3 (0))), (4, (pB g4 (0))), (5, (pB g5 (0))), (96, sp p), (101, sp p), (98, avI r9), (103, avI r12), (99, (iB 4 [avI r9, avI 0, avI 500001, avI 30]))], [boxProd g3 pr 28, bB g4, .box g5 ⟨[avI r9, avI r12, .v (.slice b l.length c)], 32, 3⟩, .row (.slice b l.length c) l.length 4 (rowL l) 94], k + 3 + 4 * q + 1⟩ := by
          rw [hF]
          refine VA.all (rs := [4, 8]) (by decide +kernel) (by decide) ?_
          refine ⟨⟨_, rfl, .inl rfl, ?_⟩, ⟨_, rfl, .inl rfl, ?_⟩, trivial⟩
          ·
            refine OpE.callT' (k + 3 + 4 * q + 1) rfl rfl hB rfl Tryz.call13 rfl (pick_X (by rfl) (by decide) (by decide) (by repeat (first | exact AllX.nil | refine AllX.cons ?_))) (by omega) ?_
            rintro _ ⟨r100, rfl⟩
            refine VA.take (i := 10) rfl (by decide +kernel) (by decide +kernel) (by decide +kernel) rfl rfl (OpV.fieldAddrO 0 rfl Tryz.underlying32 rfl rfl Tryz.sizeOf3 rfl) ?_
            have hh := hS2 r100
            rw [hF] at hh
            exact VA.to hh (by decide +kernel) (Le.mk hB [0, 1, 2, 3] ⟨rfl, rfl, rfl, rfl, rfl, rfl, rfl, rfl, rfl, rfl, rfl, trivial⟩ rfl rfl (Nat.le_refl _))
          ·
            refine OpE.buildSlice (zc := #[.int .i64 0, .int .i64 0, .int .i64 0]) rfl hB rfl Tryz.underlying22 Tryz.sizeOf3 Tryz.zeroValue3 (by decide) (by decide) (by kernel_rfl) rfl rfl ?_
            have hh := hS3 
            rw [hF] at hh
            exact VA.to hh (by decide +kernel) (Le.mk hB [0, 1, 2, 3] ⟨rfl, rfl, rfl, rfl, rfl, rfl, rfl, rfl, rfl, rfl, trivial⟩ rfl rfl (Nat.le_refl _))
        have hS5 : F 7 (lstB 14 [0, 1, 2, 5, 6, 7, 8]) ⟨[(0, sp p), (3, (pB g3 (0))), (4, (pB g4 (0))), (5, (pB g5 (0))), (96, sp p), (101, sp p), (98, avI r9), (103, avI r12), (104, (iB 3 [avI r12, avI (-1), avI 20]))], [boxProd g3 pr 28, bB g4, .box g5 ⟨[avI r9, avI r12, .v (.slice b l.length c)], 32, 3⟩, .row (.slice b l.length c) l.length 4 (rowL l) 94], k + 3 + 4 * q + 1⟩ := by
          rw [hF]
          refine VA.all (rs := [3]) (by decide +kernel) (by decide) ?_
          refine ⟨⟨_, rfl, .inl rfl, ?_⟩, trivial⟩
          refine OpE.buildSlice (zc := #[.int .i64 0, .int .i64 0, .int .i64 0, .int .i64 0]) rfl hB rfl Tryz.underlying22 Tryz.sizeOf3 Tryz.zeroValue3 (by decide) (by decide) (by kernel_rfl) rfl rfl ?_
          have hh := hS3 
          rw [hF] at hh
          exact VA.to hh (by decide +kernel) (Le.mk hB [0, 1, 2, 3] ⟨rfl, rfl, rfl, rfl, rfl, rfl, rfl, rfl, rfl, rfl, trivial⟩ rfl rfl (Nat.le_refl _))
        have hS6 : F 8 (lstB 14 [0, 1, 2, 5, 6, 7]) ⟨[(0, sp p), (3, (pB g3 (0))), (4, (pB g4 (0))), (5, (pB g5 (0))), (96, sp p), (101, sp p), (98, avI r9), (103, avI r12)], [boxProd g3 pr 28, bB g4, .box g5 ⟨[avI r9, avI r12, .v (.slice b l.length c)], 32, 3⟩, .row (.slice b l.length c) l.length 4 (rowL l) 94], k + 3 + 4 * q + 1⟩ := by
          rw [hF]
          refine VA.all (rs := [3, 8]) (by decide +kernel) (by decide) ?_
          refine ⟨⟨_, rfl, .inl rfl, ?_⟩, ⟨_, rfl, .inl rfl, ?_⟩, trivial⟩
          ·
            refine OpE.buildSlice (zc := #[.int .i64 0, .int .i64 0, .int .i64 0, .int .i64 0]) rfl hB rfl Tryz.underlying22 Tryz.sizeOf3 Tryz.zeroValue3 (by decide) (by decide) (by kernel_rfl) rfl rfl ?_
            have hh := hS4 
            rw [hF] at hh
            exact VA.to hh (by decide +kernel) (Le.mk hB [0, 1, 2, 3] ⟨rfl, rfl, rfl, rfl, rfl, rfl, rfl, rfl, rfl, trivial⟩ rfl rfl (Nat.le_refl _))
          ·
            refine OpE.buildSlice (zc := #[.int .i64 0, .int .i64 0, .int .i64 0]) rfl hB rfl Tryz.underlying22 Tryz.sizeOf3 Tryz.zeroValue3 (by decide) (by decide) (by kernel_rfl) rfl rfl ?_
            have hh := hS5 
            rw [hF] at hh
            exact VA.to hh (by decide +kernel) (Le.mk hB [0, 1, 2, 3] ⟨rfl, rfl, rfl, rfl, rfl, rfl, rfl, rfl, rfl, trivial⟩ rfl rfl (Nat.le_refl _))
        rw [hF]
        have hh := hS6 
        rw [hF] at hh
        exact VA.to hh (by decide +kernel) (Le.mk hB [0, 1, 2, 3] ⟨rfl, rfl, rfl, rfl, rfl, rfl, rfl, rfl, trivial⟩ rfl rfl (Nat.le_refl _))
    · have aH2 := aH2b
      try simp only [qqT, qqF, qqN, qqM, qqL, qqE] at aH2
      refine VC.skip ?_
      refine VC.seq ?_
      first | refine VC.le _ (Le.boxRow (i := 3) (n := l.length) (sz := 4) rfl (by simp only [rowL_len, List.length_set]; rfl) (by omega) (by omega)) ?_ | skip
      refine VC.region ?_
      refine VO.val rfl rfl (OpV.loadK_own (i := 2) rfl hB Tryz.isAgg32 Tryz.sizeOf32 rfl rfl rfl (fun h => h)) ?_
      refine VO.le _ (Le.aggRow (t := 108) (j := 2) (i := 3) (y := avL l) hB hnew rfl rfl rfl (fun w Z u h => Rep.rowL rfl h)) ?_
      refine VO.op rfl (OpE.store (i := 1) rfl hB rfl Tryz.sizeOf32 rfl rfl rfl rfl rfl rfl (Nle rfl) trivial ?_)
      refine VO.nil ?_
      refine VC.ret ?_
      exact Exists.intro _ (And.intro (RetV.one Tryz.results12 ((by first | exact ResV.cellK (i := 0) Tryz.isAgg32 Tryz.sizeOf32 rfl rfl rfl | exact ResV.cellK (i := 1) Tryz.isAgg32 Tryz.sizeOf32 rfl rfl rfl | exact ResV.cellK (i := 2) Tryz.isAgg32 Tryz.sizeOf32 rfl rfl rfl | exact ResV.cellK (i := 3) Tryz.isAgg32 Tryz.sizeOf32 rfl rfl rfl))) (And.intro (by first | exact ⟨⟨_, _, l⟩, by show l.length ≤ 5; omega, rfl⟩ | exact ⟨⟨_, _, ((l.set m ({l.getD m default with x := r71} : SlotS)).set m ({l.getD m default with x := r71, y := r82} : SlotS)).set m ({l.getD m default with x := r71, y := r82, quarter := r89} : SlotS)⟩, by simp; omega, rfl⟩) ((show k + 3 + 4 * q + 1 ≤ k + 40 by omega))))
end Go.Proofs.YtceflkkgmmcieaaGreatDoor
