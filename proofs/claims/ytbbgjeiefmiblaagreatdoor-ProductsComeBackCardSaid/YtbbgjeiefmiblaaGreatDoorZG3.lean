/- Part 3 of a proof: the walks and laws that it needs. -/
import Derived.Laws.StructEq
import Derived.Test.YtbbgjeiefmiblaaGreatDoorZG2
namespace Go.Proofs.YtbbgjeiefmiblaaGreatDoor
open Go.RowKit
set_option linter.unusedVariables false
set_option linter.unusedSimpArgs false
def keysP : List ByteArray := [⟨#[99, 49]⟩, ⟨#[99, 50]⟩, ⟨#[114, 49]⟩, ⟨#[114, 50]⟩, ⟨#[117, 49]⟩]
theorem keysP_size (q : Nat) : (keysP.getD q ByteArray.empty).size ≤ 1000 := by
 match q with
 | 0 => decide
 | 1 => decide
 | 2 => decide
 | 3 => decide
 | 4 => decide
 | q + 5 => simp [keysP]
def POk (l : List PlaceS) : Prop := ∀ x ∈ l, x.name.size ≤ 1000 ∧ x.part.size ≤ 1000
theorem POk.snoc {l : List PlaceS} (h : POk l) {x : PlaceS} (hx : x.name.size ≤ 1000 ∧ x.part.size ≤ 1000) : POk (l ++ [x]) := fun y hy => by
 rcases List.mem_append.1 hy with hy | hy
 ·exact h y hy
 ·simp at hy; subst hy; exact hx
theorem POk.set {l : List PlaceS} (h : POk l) (q : Nat) {x : PlaceS} (hx : x.name.size ≤ 1000 ∧ x.part.size ≤ 1000) : POk (l.set q x) := fun y hy => by
 rcases List.mem_or_eq_of_mem_set hy with h' | rfl
 ·exact h y h'
 ·exact hx
theorem POk.getD {l : List PlaceS} (h : POk l) (i : Nat) : (l.getD i default).name.size ≤ 1000 ∧ (l.getD i default).part.size ≤ 1000 := by
 rw [List.getD_eq_getElem?_getD]
 cases hi : l[i]? with
 | none => decide
 | some x => exact h x (List.mem_of_getElem? hi)
theorem POk.sm {k : ByteArray} {w h : Int} {l : List PlaceS} (hk : k.size ≤ 1000) (hl : l.length ≤ 5) (ho : POk l) : SmP ⟨k, w, h, l⟩ :=
 ⟨by show k.size ≤ _; omega, by show l.length ≤ _; omega, fun i => by have := (ho.getD i).1; show (l.getD i default).name.size ≤ _; omega, fun i => by have := (ho.getD i).2; show (l.getD i default).part.size ≤ _; omega⟩
theorem getD_set_self {α : Type} {xs : List α} {q : Nat} {x d : α} (h : q < xs.length) : (xs.set q x).getD q d = x := by simp [h]
theorem pl_upd {a b : PlaceS} {k : Nat} (h0 : k = 0 ∨ a.name = b.name) (h1 : k = 1 ∨ a.part = b.part) (h2 : k = 2 ∨ a.x = b.x) (h3 : k = 3 ∨ a.y = b.y) (h4 : k = 4 ∨ a.quarter = b.quarter) : ∀ i, i < 5 → i ≠ k → Sxc.cell a i = Sxc.cell b i := fun i hi hn => by
 match i, hi with
 | 0, _ => show avS a.name = avS b.name; rw [h0.resolve_left fun h => hn h.symm]
 | 1, _ => show avS a.part = avS b.part; rw [h1.resolve_left fun h => hn h.symm]
 | 2, _ => show avI a.x = avI b.x; rw [h2.resolve_left fun h => hn h.symm]
 | 3, _ => show avI a.y = avI b.y; rw [h3.resolve_left fun h => hn h.symm]
 | 4, _ => show avI a.quarter = avI b.quarter; rw [h4.resolve_left fun h => hn h.symm]
abbrev pA (g o : Nat) : AV := .v (.pointer (some ⟨g, o, none⟩))
abbrev xA (l : List PlaceS) (m : Nat) : PlaceS := l.getD m default
abbrev iA (n : Nat) (cs : List AV) : AV := .im n 1 (fun j => cs.getD j .any)
abbrev bA (g : Nat) : Ent := .box g ⟨[avS ⟨#[]⟩, avI 0, avI 0, .v (.slice none 0 0)], 65, 4⟩
set_option maxRecDepth 100000 in
set_option maxHeartbeats 40000000 in
theorem aProduct_T {p : Nat} {L : List Int}  :
    SpecT Tryz.prog (TT p L) (fun b => b = p) 36 [sp p] 50 (fun y => ∃ p : ProdS, (SmP p ∧ p.places.length ≤ 5) ∧ y = avProd p) := by
  refine SpecT.of_VC Tryz.func36 rfl Tryz.ntmps36 (Nle rfl) (low := (fun b => b ≤ p)) (fun w A k h => h.ok) fun w A k hk hB => ?_
  have hnew : True := trivial
  refine VC.sr ?_
  refine VO.op rfl (OpE.alloc rfl hB rfl Tryz.zeroValue65 rfl ?_)
  intro g2
  refine VO.nil ?_
  refine VC.sr ?_
  refine VO.mv rfl rfl rfl rfl ?_
  refine VO.op rfl (OpE.buildSlice (zc := #[.int .i64 0, .int .i64 0, .int .i64 0]) rfl hB rfl Tryz.underlying22 Tryz.sizeOf3 Tryz.zeroValue3 (by decide) (by decide) (by kernel_rfl) rfl rfl ?_)
  refine VO.op rfl (OpE.callT' (k) rfl rfl hB rfl Tryz.call11 rfl ((pick_T 60 1000 (by rfl) (by decide) (by decide) (by repeat (first | exact AllI.nil | refine AllI.cons (by omega) ?_)))) (by omega) ?_)
  rintro _ ⟨r9, hr9, rfl⟩
  refine VO.mv rfl rfl rfl rfl ?_
  refine VO.op rfl (OpE.buildSlice (zc := #[.int .i64 0, .int .i64 0, .int .i64 0]) rfl hB rfl Tryz.underlying22 Tryz.sizeOf3 Tryz.zeroValue3 (by decide) (by decide) (by kernel_rfl) rfl rfl ?_)
  refine VO.op rfl (OpE.callT' (k + 1) rfl rfl hB rfl Tryz.call11 rfl ((pick_T 40 1000 (by rfl) (by decide) (by decide) (by repeat (first | exact AllI.nil | refine AllI.cons (by omega) ?_)))) (by omega) ?_)
  rintro _ ⟨r12, hr12, rfl⟩
  refine VO.val rfl rfl (OpV.build (pls := #[(0, 1), (1, 1), (2, 1), (3, 1)]) rfl Tryz.zeroValue65 Tryz.underlying65 (fun w => by kernel_rfl) rfl rfl) ?_
  refine VO.op rfl (OpE.alloc rfl hB rfl Tryz.zeroValue65 rfl ?_)
  intro g3
  refine VO.op rfl (OpE.store (i := 1) rfl hB rfl Tryz.sizeOf65 rfl rfl rfl rfl rfl rfl (Nle rfl) trivial ?_)
  refine VO.nil ?_
  refine VC.seq ?_
  refine VC.sr ?_
  refine VO.op rfl (OpE.buildSlice (zc := #[.string ⟨#[]⟩, .string ⟨#[]⟩, .string ⟨#[]⟩, .string ⟨#[]⟩, .string ⟨#[]⟩]) rfl hB rfl Tryz.underlying29 Tryz.sizeOf9 Tryz.zeroValue9 (by decide) (by decide) (by kernel_rfl) rfl rfl ?_)
  refine VO.le _ (Le.recast (t := 14) (y := avStrs keysP) rfl (fun w Z u h => Rep.strs (xs := keysP) rfl h)) ?_
  refine VO.val rfl rfl (OpV.len_im rfl Tryz.underlying29 rfl) ?_
  refine VO.mv rfl rfl rfl rfl ?_
  refine VO.nil ?_
  refine VC.block ?_
  refine VC.le _ (Le.nilRow 5 128) ?_
  refine VC.loopK [(0, _), (2, _), (3, _), (14, _)] ⟨rfl, rfl, rfl, rfl, trivial⟩ ({t : Option Addr × Nat × List PlaceS × Nat // t.2.2.2 ≤ 5 ∧ t.2.2.1.length ≤ t.2.2.2 ∧ POk t.2.2.1}) (fun (iZ : {t : Option Addr × Nat × List PlaceS × Nat // t.2.2.2 ≤ 5 ∧ t.2.2.1.length ≤ t.2.2.2 ∧ POk t.2.2.1}) => match iZ with | ⟨⟨b, c, l, q⟩, hq, hl, hok⟩ => [(15, avI 5), (16, avI (q : Int))]) (fun (iZ : {t : Option Addr × Nat × List PlaceS × Nat // t.2.2.2 ≤ 5 ∧ t.2.2.1.length ≤ t.2.2.2 ∧ POk t.2.2.1}) => match iZ with | ⟨⟨b, c, l, q⟩, hq, hl, hok⟩ => [.box g2 ⟨[avS ⟨#[]⟩, avI 0, avI 0, .v (.slice none 0 0)], 65, 4⟩, .box g3 ⟨[avS ⟨#[112]⟩, avI r9, avI r12, .v (.slice b l.length c)], 65, 4⟩, .row (.slice b l.length c) l.length 5 (rowL l) 128]) (fun (iZ : {t : Option Addr × Nat × List PlaceS × Nat // t.2.2.2 ≤ 5 ∧ t.2.2.1.length ≤ t.2.2.2 ∧ POk t.2.2.1}) => match iZ with | ⟨⟨b, c, l, q⟩, hq, hl, hok⟩ => k + 3 + 5 * q) (fun (iZ : {t : Option Addr × Nat × List PlaceS × Nat // t.2.2.2 ≤ 5 ∧ t.2.2.1.length ≤ t.2.2.2 ∧ POk t.2.2.1}) => match iZ with | ⟨⟨b, c, l, q⟩, hq, hl, hok⟩ => 5 - q) ⟨(none, 0, [], 0), by decide, by decide, fun x h => by simp at h⟩ (Le.mk hB [0, 1, 2] ⟨rfl, rfl, rfl, rfl, rfl, rfl, trivial⟩ rfl rfl (show k + 1 + 1 ≤ k + 3 + 5 * 0 by omega)) ?_
  rintro ⟨⟨b, c, l, q⟩, hq, hl, hok⟩
  show VC _ _ _ _ ⟨[(15, avI 5), (16, avI (q : Int))] ++ [(0, _), (2, _), (3, _), (14, _)], [.box g2 ⟨[avS ⟨#[]⟩, avI 0, avI 0, .v (.slice none 0 0)], 65, 4⟩, .box g3 ⟨[avS ⟨#[112]⟩, avI r9, avI r12, .v (.slice b l.length c)], 65, 4⟩, .row (.slice b l.length c) l.length 5 (rowL l) 128], k + 3 + 5 * q⟩
  simp only at hq hl hok
  refine VC.sr ?_
  refine VO.val rfl rfl (OpV.lss rfl rfl rfl) ?_
  refine VO.nil ?_
  refine VC.seq ?_
  refine VC.cond rfl (fun aH1b => ?_) (fun aH1b => ?_)
  · have aH1 := aH1b
    try simp only [qqT, qqF, qqN, qqM, qqL, qqE] at aH1
    refine VC.skip ?_
    refine VC.seq ?_
    refine VC.block ?_
    refine VC.sr ?_
    refine VO.val rfl rfl (OpV.indexAddr_1 rfl Tryz.underlying29 Tryz.sizeOf9 rfl rfl rfl (by show _ < 5; omega)) ?_
    refine VO.val rfl rfl (OpV.load_at rfl hB OutW.no Tryz.isAgg9 rfl rfl) ?_
    refine VO.ma rfl rfl rfl rfl ?_
    refine VO.nil ?_
    refine VC.seq ?_
    refine VC.sr ?_
    refine VO.mv rfl rfl rfl rfl ?_
    refine VO.op rfl (OpE.callT' (k + 3 + 5 * q) rfl rfl hB rfl Tryz.call12 rfl ((flip_T (by omega))) (by omega) ?_)
    rintro _ ⟨r21, rfl⟩
    refine VO.nil ?_
    refine VC.cond rfl (fun aH2b => ?_) (fun aH2b => ?_)
    · have aH2 := aH2b
      try simp only [qqT, qqF, qqN, qqM, qqL, qqE] at aH2
      refine VC.exit ?_
      refine VC.region ?_
      refine VO.val rfl rfl (OpV.add rfl rfl rfl (by unfold fits; omega)) ?_
      refine VO.mv rfl rfl rfl rfl ?_
      refine VO.nil ?_
      exact Exists.intro (⟨(b, c, l, q + 1), by show q + 1 ≤ 5; omega, by show l.length ≤ q + 1; omega, hok⟩) (And.intro (Le.mk hB [0, 1, 2] ⟨rfl, rfl, rfl, rfl, rfl, rfl, trivial⟩ rfl (by first | rfl | (dsimp only; rw [List.length_append]; rfl)) (show k + 3 + 5 * q + 1 ≤ k + 3 + 5 * (q + 1) by omega)) (by first | omega | (show _ < _; omega) | (simp only []; omega)))
    · have aH2 := aH2b
      try simp only [qqT, qqF, qqN, qqM, qqL, qqE] at aH2
      refine VC.skip ?_
      refine VC.draw (fun j b => (j = 21 ∧ b = g3) ∨ (j = 19 ∧ b ≠ g3)) hB (by kernel_rfl) ?_
      refine VA.take (i := 0) rfl (by decide +kernel) (by decide +kernel) (by decide +kernel) rfl rfl (OpV.fieldAddrO 3 rfl Tryz.underlying65 rfl rfl Tryz.sizeOf63 rfl) ?_
      refine VA.take (i := 1) rfl (by decide +kernel) (by decide +kernel) (by decide +kernel) rfl rfl (OpV.load_own (i := 1) rfl hB Tryz.isAgg63 rfl rfl rfl (Wi.notN (by decide +kernel))) ?_
      refine VA.take (i := 2) rfl (by decide +kernel) (by decide +kernel) (by decide +kernel) rfl rfl (OpV.move (.inl rfl) rfl) ?_
      refine VA.take (i := 3) rfl (by decide +kernel) (by decide +kernel) (by decide +kernel) rfl rfl (OpV.move (.inl rfl) rfl) ?_
      refine VA.take (i := 6) rfl (by decide +kernel) (by decide +kernel) (by decide +kernel) rfl rfl (OpV.move (.inl rfl) rfl) ?_
      refine VA.take (i := 7) rfl (by decide +kernel) (by decide +kernel) (by decide +kernel) rfl rfl (OpV.fieldAddrO 1 rfl Tryz.underlying65 rfl rfl Tryz.sizeOf3 rfl) ?_
      refine VA.take (i := 8) rfl (by decide +kernel) (by decide +kernel) (by decide +kernel) rfl rfl (OpV.load_own (i := 1) rfl hB Tryz.isAgg3 rfl rfl rfl (Wi.notN (by decide +kernel))) ?_
      refine VA.take (i := 10) rfl (by decide +kernel) (by decide +kernel) (by decide +kernel) rfl rfl (OpV.move (.inl rfl) rfl) ?_
      refine VA.take (i := 11) rfl (by decide +kernel) (by decide +kernel) (by decide +kernel) rfl rfl (OpV.fieldAddrO 2 rfl Tryz.underlying65 rfl rfl Tryz.sizeOf3 rfl) ?_
      refine VA.take (i := 12) rfl (by decide +kernel) (by decide +kernel) (by decide +kernel) rfl rfl (OpV.load_own (i := 1) rfl hB Tryz.isAgg3 rfl rfl rfl (Wi.notN (by decide +kernel))) ?_
      refine VA.take (i := 13) rfl (by decide +kernel) (by decide +kernel) (by decide +kernel) rfl rfl (OpV.min2 rfl rfl rfl) ?_
      refine VA.take (i := 15) rfl (by decide +kernel) (by decide +kernel) (by decide +kernel) rfl rfl (OpV.move (.inl rfl) rfl) ?_
      refine VA.all (rs := [4]) (by decide +kernel) (by decide) ?_
      refine ⟨⟨_, rfl, .inl rfl, ?_⟩, trivial⟩
      refine OpE.buildSlice (zc := #[.string ⟨#[]⟩, .string ⟨#[]⟩, .string ⟨#[]⟩, .string ⟨#[]⟩]) rfl hB rfl Tryz.underlying29 Tryz.sizeOf9 Tryz.zeroValue9 (by decide) (by decide) (by kernel_rfl) rfl rfl ?_
      refine VA.all (rs := [5]) (by decide +kernel) (by decide) ?_
      refine ⟨⟨_, rfl, .inl rfl, ?_⟩, trivial⟩
      refine OpE.callT' (k + 3 + 5 * q + 1) rfl rfl hB rfl Tryz.call53 rfl ((some_T 1000 (by rfl) (by decide) (by decide) (by repeat (first | exact AllS.nil | refine AllS.cons (by first | decide | omega) ?_)))) (by omega) ?_
      rintro _ ⟨r27, hr27, rfl⟩
      refine VA.all (rs := [9]) (by decide +kernel) (by decide) ?_
      refine ⟨⟨_, rfl, .inl rfl, ?_⟩, trivial⟩
      refine OpE.callT' (k + 3 + 5 * q + 1 + 1) rfl rfl hB rfl Tryz.call7 rfl ((range_T (by omega) (by omega) (by omega))) (by omega) ?_
      rintro _ ⟨r31, hr31, rfl⟩
      refine VA.all (rs := [14]) (by decide +kernel) (by decide) ?_
      refine ⟨⟨_, rfl, .inl rfl, ?_⟩, trivial⟩
      refine OpE.callT' (k + 3 + 5 * q + 1 + 1 + 1) rfl rfl hB rfl Tryz.call7 rfl ((range_T (by omega) (by omega) (by omega))) (by omega) ?_
      rintro _ ⟨r36, hr36, rfl⟩
      refine VA.all (rs := [16]) (by decide +kernel) (by decide) ?_
      refine ⟨⟨_, rfl, .inl rfl, ?_⟩, trivial⟩
      refine OpE.callT' (k + 3 + 5 * q + 1 + 1 + 1 + 1) rfl rfl hB rfl Tryz.call7 rfl ((range_T (by omega) (by omega) (by omega))) (by omega) ?_
      rintro _ ⟨r38, hr38, rfl⟩
      refine VA.take (i := 17) rfl (by decide +kernel) (by decide +kernel) (by decide +kernel) rfl rfl (OpV.build (pls := #[(0, 1), (1, 1), (2, 1), (3, 1), (4, 1)]) rfl Tryz.zeroValue128 Tryz.underlying128 (fun w => by kernel_rfl) rfl rfl) ?_
      refine VA.all (rs := [18]) (by decide +kernel) (by decide) ?_
      refine ⟨⟨_, rfl, .inl rfl, ?_⟩, trivial⟩
      refine OpE.buildSlice (zc := #[.string ⟨#[]⟩, .string ⟨#[]⟩, .int .i64 0, .int .i64 0, .int .i64 0]) rfl hB rfl Tryz.underlying63 Tryz.sizeOf128 Tryz.zeroValue128 (by decide) (by decide) (by kernel_rfl) rfl rfl ?_
      refine VA.all (rs := [19]) (by decide +kernel) (by decide) ?_
      refine ⟨⟨_, rfl, .inl rfl, ?_⟩, trivial⟩
      refine OpE.hap (fun hap => ?_)
      refine OpE.append1S (i := 2) rfl hB rfl Tryz.underlying63 (infoOf Tryz.t128 5 (by kernel_rfl) rfl rfl) rfl (by decide) (by decide) rfl rfl rfl rfl (rowL_snoc l (⟨keysP.getD q ByteArray.empty, r27, r31, r36, r38⟩ : PlaceS)) (by omega) (fun g' hg => .inr ⟨rfl, apart_ne hap (i := 2) (j := 1) hg rfl (by decide)⟩) ?_
      intro b2 c2
      refine VA.take (i := 20) rfl (by decide +kernel) (by decide +kernel) (by decide +kernel) rfl rfl (OpV.fieldAddrO 3 rfl Tryz.underlying65 rfl rfl Tryz.sizeOf63 rfl) ?_
      refine VA.all (rs := [21]) (by decide +kernel) (by decide) ?_
      refine ⟨⟨_, rfl, .inl rfl, ?_⟩, trivial⟩
      refine OpE.hap (fun hap => ?_)
      refine OpE.store (i := 1) rfl hB rfl Tryz.sizeOf63 rfl rfl rfl rfl rfl rfl (Nle rfl) (by first | exact .inl ⟨rfl, rfl⟩ | (refine ⟨by first | exact rfl | exact .inl rfl | exact .inr rfl, ?_⟩; repeat (first | (first | exact apart_ne hap (i := 2) (j := 0) rfl rfl (by decide) | exact apart_ne hap (i := 2) (j := 1) rfl rfl (by decide) | exact apart_ne hap (i := 1) (j := 0) rfl rfl (by decide) | exact apart_ne hap (i := 1) (j := 2) rfl rfl (by decide) | exact apart_ne hap (i := 0) (j := 1) rfl rfl (by decide) | exact apart_ne hap (i := 0) (j := 2) rfl rfl (by decide)) | refine And.intro ?_ ?_))) ?_
      refine VA.done (by decide +kernel) ?_
      refine VC.region ?_
      refine VO.val rfl rfl (OpV.add rfl rfl rfl (by unfold fits; omega)) ?_
      refine VO.mv rfl rfl rfl rfl ?_
      refine VO.nil ?_
      exact Exists.intro (⟨(b2, c2, l ++ [⟨keysP.getD q ByteArray.empty, r27, r31, r36, r38⟩], q + 1), by show q + 1 ≤ 5; omega, by show (l ++ [_]).length ≤ q + 1; simp; omega, hok.snoc ⟨keysP_size q, hr27⟩⟩) (And.intro (Le.mk hB [0, 1, 2] ⟨rfl, rfl, rfl, rfl, rfl, rfl, trivial⟩ rfl (by first | rfl | (dsimp only; rw [List.length_append]; rfl)) (show k + 3 + 5 * q + 1 + 1 + 1 + 1 + 1 ≤ k + 3 + 5 * (q + 1) by omega)) (by first | omega | (show _ < _; omega) | (simp only []; omega)))
  · have aH1 := aH1b
    try simp only [qqT, qqF, qqN, qqM, qqL, qqE] at aH1
    refine VC.exit ?_
    refine VC.seq ?_
    refine VC.sr ?_
    refine VO.mv rfl rfl rfl rfl ?_
    refine VO.op rfl (OpE.callT' (k + 3 + 5 * q) rfl rfl hB rfl Tryz.call12 rfl (flip_T (by decide)) (by omega) ?_)
    rintro _ ⟨r45, rfl⟩
    refine VO.nil ?_
    refine VC.cond rfl (fun aH3b => ?_) (fun aH3b => ?_)
    · have aH3 := aH3b
      try simp only [qqT, qqF, qqN, qqM, qqL, qqE] at aH3
      refine VC.sr ?_
      refine VO.mv rfl rfl rfl rfl ?_
      refine VO.op rfl (OpE.callT' (k + 3 + 5 * q + 1) rfl rfl hB rfl Tryz.call51 rfl (next_T (by decide)) (by omega) ?_)
      rintro _ ⟨r47, hr47, rfl⟩
      refine VO.nil ?_
      refine VC.block ?_
      refine VC.sr ?_
      refine VO.val rfl rfl (OpV.eql rfl rfl rfl) ?_
      refine VO.ma rfl rfl rfl rfl ?_
      refine VO.nil ?_
      refine VC.cond rfl (fun aH4b => ?_) (fun aH4b => ?_)
      · have aH4 := aH4b
        try simp only [qqT, qqF, qqN, qqM, qqL, qqE] at aH4
        refine VC.draw (fun j b => j ∈ [14, 16, 18] ∧ b = g3) hB (by kernel_rfl) ?_
        refine VA.take (i := 0) rfl (by decide +kernel) (by decide +kernel) (by decide +kernel) rfl rfl (OpV.move (.inl rfl) rfl) ?_
        refine VA.take (i := 3) rfl (by decide +kernel) (by decide +kernel) (by decide +kernel) rfl rfl (OpV.move (.inl rfl) rfl) ?_
        refine VA.take (i := 4) rfl (by decide +kernel) (by decide +kernel) (by decide +kernel) rfl rfl (OpV.fieldAddrO 1 rfl Tryz.underlying65 rfl rfl Tryz.sizeOf3 rfl) ?_
        refine VA.take (i := 5) rfl (by decide +kernel) (by decide +kernel) (by decide +kernel) rfl rfl (OpV.load_own (i := 1) rfl hB Tryz.isAgg3 rfl rfl rfl (Wi.notD (by decide +kernel))) ?_
        refine VA.take (i := 8) rfl (by decide +kernel) (by decide +kernel) (by decide +kernel) rfl rfl (OpV.move (.inl rfl) rfl) ?_
        refine VA.take (i := 9) rfl (by decide +kernel) (by decide +kernel) (by decide +kernel) rfl rfl (OpV.fieldAddrO 2 rfl Tryz.underlying65 rfl rfl Tryz.sizeOf3 rfl) ?_
        refine VA.take (i := 10) rfl (by decide +kernel) (by decide +kernel) (by decide +kernel) rfl rfl (OpV.load_own (i := 1) rfl hB Tryz.isAgg3 rfl rfl rfl (Wi.notD (by decide +kernel))) ?_
        refine VA.bind (fun F hF => ?_)
        have hS0 : ∀ (r129 : ByteArray) (hr129 : r129.size ≤ 1000) (r134 : Int) (r139 : Int), F 5 (lstB 19 [0, 1, 2, 3, 4, 5, 6, 7, 8, 9, 10, 11, 12, 13]) ⟨[(0, sp p), (2, (pA g2 (0))), (3, (pA g3 (0))), (127, sp p), (130, sp p), (135, sp p), (132, avI r9), (137, avI r12), (128, (iA 3 [avS ⟨#[]⟩, avS ⟨#[65]⟩, avS ⟨#[112]⟩])), (129, avS r129), (133, (iA 3 [avI r9, avI 0, avI 500001])), (134, avI r134), (138, (iA 3 [avI r12, avI (-1), avI 500000])), (139, avI r139), (140, (pA g3 (0)))], [(bA g2), .box g3 ⟨[avS ⟨#[112]⟩, avI r9, avI r12, .v (.slice b l.length c)], 65, 4⟩, .row (.slice b l.length c) l.length 5 (rowL l) 128], k + 3 + 5 * q + 1 + 1 + 1 + 1 + 1⟩ := by
          intro r129 hr129 r134 r139
          rw [hF]
          refine VA.all (rs := [14]) (by decide +kernel) (by decide) ?_
          refine ⟨⟨_, rfl, .inl rfl, ?_⟩, trivial⟩
          refine OpE.store (i := 1) rfl hB rfl Tryz.sizeOf9 rfl rfl rfl rfl rfl rfl (Nle rfl) (by first | exact ⟨rfl, rfl⟩ | exact .inl ⟨rfl, rfl⟩ | exact .inr ⟨rfl, rfl⟩ | exact ⟨rfl, trivial⟩ | exact .inl ⟨rfl, trivial⟩ | exact .inr ⟨rfl, trivial⟩ | exact ⟨by decide, rfl⟩) ?_
          refine VA.take (i := 15) rfl (by decide +kernel) (by decide +kernel) (by decide +kernel) rfl rfl (OpV.fieldAddrO 1 rfl Tryz.underlying65 rfl rfl Tryz.sizeOf3 rfl) ?_
          refine VA.all (rs := [16]) (by decide +kernel) (by decide) ?_
          refine ⟨⟨_, rfl, .inl rfl, ?_⟩, trivial⟩
          refine OpE.store (i := 1) rfl hB rfl Tryz.sizeOf3 rfl rfl rfl rfl rfl rfl (Nle rfl) (by first | exact ⟨rfl, rfl⟩ | exact .inl ⟨rfl, rfl⟩ | exact .inr ⟨rfl, rfl⟩ | exact ⟨rfl, trivial⟩ | exact .inl ⟨rfl, trivial⟩ | exact .inr ⟨rfl, trivial⟩ | exact ⟨by decide, rfl⟩) ?_
          refine VA.take (i := 17) rfl (by decide +kernel) (by decide +kernel) (by decide +kernel) rfl rfl (OpV.fieldAddrO 2 rfl Tryz.underlying65 rfl rfl Tryz.sizeOf3 rfl) ?_
          refine VA.all (rs := [18]) (by decide +kernel) (by decide) ?_
          refine ⟨⟨_, rfl, .inl rfl, ?_⟩, trivial⟩
          refine OpE.store (i := 1) rfl hB rfl Tryz.sizeOf3 rfl rfl rfl rfl rfl rfl (Nle rfl) (by first | exact ⟨rfl, rfl⟩ | exact .inl ⟨rfl, rfl⟩ | exact .inr ⟨rfl, rfl⟩ | exact ⟨rfl, trivial⟩ | exact .inl ⟨rfl, trivial⟩ | exact .inr ⟨rfl, trivial⟩ | exact ⟨by decide, rfl⟩) ?_
          refine VA.done (by decide +kernel) ?_
          refine VC.seq ?_
          first | refine VC.le _ (Le.boxRow (i := 2) (n := l.length) (sz := 5) rfl (by simp only [rowL_len, List.length_set]; rfl) (by omega) (by omega)) ?_ | skip
          refine VC.region ?_
          refine VO.val rfl rfl (OpV.loadK_own (i := 1) rfl hB Tryz.isAgg65 Tryz.sizeOf65 rfl rfl rfl (fun h => h)) ?_
          refine VO.le _ (Le.aggRow (t := 143) (j := 3) (i := 2) (y := avL l) hB hnew rfl rfl rfl (fun w Z u h => Rep.rowL rfl h)) ?_
          refine VO.op rfl (OpE.store (i := 0) rfl hB rfl Tryz.sizeOf65 rfl rfl rfl rfl rfl rfl (Nle rfl) trivial ?_)
          refine VO.nil ?_
          refine VC.ret ?_
          exact Exists.intro _ (And.intro (RetV.one Tryz.results36 ((by first | exact ResV.cellK (i := 0) Tryz.isAgg65 Tryz.sizeOf65 rfl rfl rfl | exact ResV.cellK (i := 1) Tryz.isAgg65 Tryz.sizeOf65 rfl rfl rfl | exact ResV.cellK (i := 2) Tryz.isAgg65 Tryz.sizeOf65 rfl rfl rfl))) (And.intro (by first | exact ⟨⟨_, _, _, l⟩, ⟨POk.sm (by first | decide | assumption) (by omega) hok, by show l.length ≤ 5; omega⟩, rfl⟩ | exact ⟨⟨_, _, _, (((((l.set m ({l.getD m default with name := r75} : PlaceS)).set m ({l.getD m default with name := r75, part := r86} : PlaceS)).set m ({l.getD m default with name := r75, part := r86, x := r96} : PlaceS)).set m ({l.getD m default with name := r75, part := r86, x := r96, y := r107} : PlaceS)).set m ({l.getD m default with name := r75, part := r86, x := r96, y := r107, quarter := r114} : PlaceS))⟩, ⟨POk.sm (by decide) (by simp; omega) (by repeat (first | exact hok | refine POk.set ?_ _ ⟨by first | exact hr75 | exact (hok.getD m).1, by first | exact hr86 | exact (hok.getD m).2⟩)), by simp; omega⟩, rfl⟩) ((show k + 3 + 5 * q + 1 + 1 + 1 + 1 + 1 ≤ k + 50 by omega))))
        have hS1 : ∀ (r129 : ByteArray) (hr129 : r129.size ≤ 1000) (r134 : Int), F 6 (lstB 19 [0, 1, 2, 3, 4, 5, 6, 7, 8, 9, 10, 11, 13]) ⟨[(0, sp p), (2, (pA g2 (0))), (3, (pA g3 (0))), (127, sp p), (130, sp p), (135, sp p), (132, avI r9), (137, avI r12), (128, (iA 3 [avS ⟨#[]⟩, avS ⟨#[65]⟩, avS ⟨#[112]⟩])), (129, avS r129), (133, (iA 3 [avI r9, avI 0, avI 500001])), (134, avI r134), (138, (iA 3 [avI r12, avI (-1), avI 500000])), (140, (pA g3 (0)))], [(bA g2), .box g3 ⟨[avS ⟨#[112]⟩, avI r9, avI r12, .v (.slice b l.length c)], 65, 4⟩, .row (.slice b l.length c) l.length 5 (rowL l) 128], k + 3 + 5 * q + 1 + 1 + 1 + 1⟩ := by
          intro r129 hr129 r134
          rw [hF]
          refine VA.all (rs := [12]) (by decide +kernel) (by decide) ?_
          refine ⟨⟨_, rfl, .inl rfl, ?_⟩, trivial⟩
          refine OpE.callT' (k + 3 + 5 * q + 1 + 1 + 1 + 1) rfl rfl hB rfl Tryz.call11 rfl (pick_X (by rfl) (by decide) (by decide) (by repeat (first | exact AllX.nil | refine AllX.cons ?_))) (by omega) ?_
          rintro _ ⟨r139, rfl⟩
          have hh := hS0 r129 hr129 r134 r139
          rw [hF] at hh
          exact VA.to hh (by decide +kernel) (Le.mk hB [0, 1, 2] ⟨rfl, rfl, rfl, rfl, rfl, rfl, rfl, rfl, rfl, rfl, rfl, rfl, rfl, rfl, rfl, trivial⟩ rfl rfl (Nat.le_refl _))
        have hS2 : ∀ (r129 : ByteArray) (hr129 : r129.size ≤ 1000) (r134 : Int), F 7 (lstB 19 [0, 1, 2, 3, 4, 5, 6, 7, 8, 9, 10, 13]) ⟨[(0, sp p), (2, (pA g2 (0))), (3, (pA g3 (0))), (127, sp p), (130, sp p), (135, sp p), (132, avI r9), (137, avI r12), (128, (iA 3 [avS ⟨#[]⟩, avS ⟨#[65]⟩, avS ⟨#[112]⟩])), (129, avS r129), (133, (iA 3 [avI r9, avI 0, avI 500001])), (134, avI r134), (140, (pA g3 (0)))], [(bA g2), .box g3 ⟨[avS ⟨#[112]⟩, avI r9, avI r12, .v (.slice b l.length c)], 65, 4⟩, .row (.slice b l.length c) l.length 5 (rowL l) 128], k + 3 + 5 * q + 1 + 1 + 1 + 1⟩ := by
          intro r129 hr129 r134
          rw [hF]
          refine VA.all (rs := [11]) (by decide +kernel) (by decide) ?_
          refine ⟨⟨_, rfl, .inl rfl, ?_⟩, trivial⟩
          refine OpE.buildSlice (zc := #[.int .i64 0, .int .i64 0, .int .i64 0]) rfl hB rfl Tryz.underlying22 Tryz.sizeOf3 Tryz.zeroValue3 (by decide) (by decide) (by kernel_rfl) rfl rfl ?_
          have hh := hS1 r129 hr129 r134
          rw [hF] at hh
          exact VA.to hh (by decide +kernel) (Le.mk hB [0, 1, 2] ⟨rfl, rfl, rfl, rfl, rfl, rfl, rfl, rfl, rfl, rfl, rfl, rfl, rfl, rfl, trivial⟩ rfl rfl (Nat.le_refl _))
        have hS3 : ∀ (r129 : ByteArray) (hr129 : r129.size ≤ 1000), F 7 (lstB 19 [0, 1, 2, 3, 4, 5, 6, 8, 9, 10, 11, 13]) ⟨[(0, sp p), (2, (pA g2 (0))), (3, (pA g3 (0))), (127, sp p), (130, sp p), (135, sp p), (132, avI r9), (137, avI r12), (128, (iA 3 [avS ⟨#[]⟩, avS ⟨#[65]⟩, avS ⟨#[112]⟩])), (129, avS r129), (133, (iA 3 [avI r9, avI 0, avI 500001])), (138, (iA 3 [avI r12, avI (-1), avI 500000])), (140, (pA g3 (0)))], [(bA g2), .box g3 ⟨[avS ⟨#[112]⟩, avI r9, avI r12, .v (.slice b l.length c)], 65, 4⟩, .row (.slice b l.length c) l.length 5 (rowL l) 128], k + 3 + 5 * q + 1 + 1 + 1⟩ := by
          intro r129 hr129
          rw [hF]
          refine VA.all (rs := [7]) (by decide +kernel) (by decide) ?_
          refine ⟨⟨_, rfl, .inl rfl, ?_⟩, trivial⟩
          refine OpE.callT' (k + 3 + 5 * q + 1 + 1 + 1) rfl rfl hB rfl Tryz.call11 rfl (pick_X (by rfl) (by decide) (by decide) (by repeat (first | exact AllX.nil | refine AllX.cons ?_))) (by omega) ?_
          rintro _ ⟨r134, rfl⟩
          have hh := hS1 r129 hr129 r134
          rw [hF] at hh
          exact VA.to hh (by decide +kernel) (Le.mk hB [0, 1, 2] ⟨rfl, rfl, rfl, rfl, rfl, rfl, rfl, rfl, rfl, rfl, rfl, rfl, rfl, rfl, trivial⟩ rfl rfl (Nat.le_refl _))
        have hS4 : ∀ (r129 : ByteArray) (hr129 : r129.size ≤ 1000), F 8 (lstB 19 [0, 1, 2, 3, 4, 5, 6, 8, 9, 10, 13]) ⟨[(0, sp p), (2, (pA g2 (0))), (3, (pA g3 (0))), (127, sp p), (130, sp p), (135, sp p), (132, avI r9), (137, avI r12), (128, (iA 3 [avS ⟨#[]⟩, avS ⟨#[65]⟩, avS ⟨#[112]⟩])), (129, avS r129), (133, (iA 3 [avI r9, avI 0, avI 500001])), (140, (pA g3 (0)))], [(bA g2), .box g3 ⟨[avS ⟨#[112]⟩, avI r9, avI r12, .v (.slice b l.length c)], 65, 4⟩, .row (.slice b l.length c) l.length 5 (rowL l) 128], k + 3 + 5 * q + 1 + 1 + 1⟩ := by
          intro r129 hr129
          rw [hF]
          refine VA.all (rs := [7, 11]) (by decide +kernel) (by decide) ?_
          refine ⟨⟨_, rfl, .inl rfl, ?_⟩, ⟨_, rfl, .inl rfl, ?_⟩, trivial⟩
          ·
            refine OpE.callT' (k + 3 + 5 * q + 1 + 1 + 1) rfl rfl hB rfl Tryz.call11 rfl (pick_X (by rfl) (by decide) (by decide) (by repeat (first | exact AllX.nil | refine AllX.cons ?_))) (by omega) ?_
            rintro _ ⟨r134, rfl⟩
            have hh := hS2 r129 hr129 r134
            rw [hF] at hh
            exact VA.to hh (by decide +kernel) (Le.mk hB [0, 1, 2] ⟨rfl, rfl, rfl, rfl, rfl, rfl, rfl, rfl, rfl, rfl, rfl, rfl, rfl, trivial⟩ rfl rfl (Nat.le_refl _))
          ·
            refine OpE.buildSlice (zc := #[.int .i64 0, .int .i64 0, .int .i64 0]) rfl hB rfl Tryz.underlying22 Tryz.sizeOf3 Tryz.zeroValue3 (by decide) (by decide) (by kernel_rfl) rfl rfl ?_
            have hh := hS3 r129 hr129
            rw [hF] at hh
            exact VA.to hh (by decide +kernel) (Le.mk hB [0, 1, 2] ⟨rfl, rfl, rfl, rfl, rfl, rfl, rfl, rfl, rfl, rfl, rfl, rfl, rfl, trivial⟩ rfl rfl (Nat.le_refl _))
        have hS5 : ∀ (r129 : ByteArray) (hr129 : r129.size ≤ 1000), F 8 (lstB 19 [0, 1, 2, 3, 4, 5, 8, 9, 10, 11, 13]) ⟨[(0, sp p), (2, (pA g2 (0))), (3, (pA g3 (0))), (127, sp p), (130, sp p), (135, sp p), (132, avI r9), (137, avI r12), (128, (iA 3 [avS ⟨#[]⟩, avS ⟨#[65]⟩, avS ⟨#[112]⟩])), (129, avS r129), (138, (iA 3 [avI r12, avI (-1), avI 500000])), (140, (pA g3 (0)))], [(bA g2), .box g3 ⟨[avS ⟨#[112]⟩, avI r9, avI r12, .v (.slice b l.length c)], 65, 4⟩, .row (.slice b l.length c) l.length 5 (rowL l) 128], k + 3 + 5 * q + 1 + 1 + 1⟩ := by
          intro r129 hr129
          rw [hF]
          refine VA.all (rs := [6]) (by decide +kernel) (by decide) ?_
          refine ⟨⟨_, rfl, .inl rfl, ?_⟩, trivial⟩
          refine OpE.buildSlice (zc := #[.int .i64 0, .int .i64 0, .int .i64 0]) rfl hB rfl Tryz.underlying22 Tryz.sizeOf3 Tryz.zeroValue3 (by decide) (by decide) (by kernel_rfl) rfl rfl ?_
          have hh := hS3 r129 hr129
          rw [hF] at hh
          exact VA.to hh (by decide +kernel) (Le.mk hB [0, 1, 2] ⟨rfl, rfl, rfl, rfl, rfl, rfl, rfl, rfl, rfl, rfl, rfl, rfl, rfl, trivial⟩ rfl rfl (Nat.le_refl _))
        have hS6 : F 9 (lstB 19 [0, 1, 3, 4, 5, 6, 8, 9, 10, 11]) ⟨[(0, sp p), (2, (pA g2 (0))), (3, (pA g3 (0))), (127, sp p), (130, sp p), (135, sp p), (132, avI r9), (137, avI r12), (128, (iA 3 [avS ⟨#[]⟩, avS ⟨#[65]⟩, avS ⟨#[112]⟩])), (133, (iA 3 [avI r9, avI 0, avI 500001])), (138, (iA 3 [avI r12, avI (-1), avI 500000]))], [(bA g2), .box g3 ⟨[avS ⟨#[112]⟩, avI r9, avI r12, .v (.slice b l.length c)], 65, 4⟩, .row (.slice b l.length c) l.length 5 (rowL l) 128], k + 3 + 5 * q + 1 + 1⟩ := by
          rw [hF]
          refine VA.all (rs := [2]) (by decide +kernel) (by decide) ?_
          refine ⟨⟨_, rfl, .inl rfl, ?_⟩, trivial⟩
          refine OpE.callT' (k + 3 + 5 * q + 1 + 1) rfl rfl hB rfl Tryz.call53 rfl ((some_T 1000 (by rfl) (by decide) (by decide) (by repeat (first | exact AllS.nil | refine AllS.cons (by first | decide | omega) ?_)))) (by omega) ?_
          rintro _ ⟨r129, hr129, rfl⟩
          refine VA.take (i := 13) rfl (by decide +kernel) (by decide +kernel) (by decide +kernel) rfl rfl (OpV.fieldAddrO 0 rfl Tryz.underlying65 rfl rfl Tryz.sizeOf9 rfl) ?_
          have hh := hS3 r129 hr129
          rw [hF] at hh
          exact VA.to hh (by decide +kernel) (Le.mk hB [0, 1, 2] ⟨rfl, rfl, rfl, rfl, rfl, rfl, rfl, rfl, rfl, rfl, rfl, rfl, rfl, trivial⟩ rfl rfl (Nat.le_refl _))
        have hS7 : ∀ (r129 : ByteArray) (hr129 : r129.size ≤ 1000), F 9 (lstB 19 [0, 1, 2, 3, 4, 5, 8, 9, 10, 13]) ⟨[(0, sp p), (2, (pA g2 (0))), (3, (pA g3 (0))), (127, sp p), (130, sp p), (135, sp p), (132, avI r9), (137, avI r12), (128, (iA 3 [avS ⟨#[]⟩, avS ⟨#[65]⟩, avS ⟨#[112]⟩])), (129, avS r129), (140, (pA g3 (0)))], [(bA g2), .box g3 ⟨[avS ⟨#[112]⟩, avI r9, avI r12, .v (.slice b l.length c)], 65, 4⟩, .row (.slice b l.length c) l.length 5 (rowL l) 128], k + 3 + 5 * q + 1 + 1 + 1⟩ := by
          intro r129 hr129
          rw [hF]
          refine VA.all (rs := [6, 11]) (by decide +kernel) (by decide) ?_
          refine ⟨⟨_, rfl, .inl rfl, ?_⟩, ⟨_, rfl, .inl rfl, ?_⟩, trivial⟩
          ·
            refine OpE.buildSlice (zc := #[.int .i64 0, .int .i64 0, .int .i64 0]) rfl hB rfl Tryz.underlying22 Tryz.sizeOf3 Tryz.zeroValue3 (by decide) (by decide) (by kernel_rfl) rfl rfl ?_
            have hh := hS4 r129 hr129
            rw [hF] at hh
            exact VA.to hh (by decide +kernel) (Le.mk hB [0, 1, 2] ⟨rfl, rfl, rfl, rfl, rfl, rfl, rfl, rfl, rfl, rfl, rfl, rfl, trivial⟩ rfl rfl (Nat.le_refl _))
          ·
            refine OpE.buildSlice (zc := #[.int .i64 0, .int .i64 0, .int .i64 0]) rfl hB rfl Tryz.underlying22 Tryz.sizeOf3 Tryz.zeroValue3 (by decide) (by decide) (by kernel_rfl) rfl rfl ?_
            have hh := hS5 r129 hr129
            rw [hF] at hh
            exact VA.to hh (by decide +kernel) (Le.mk hB [0, 1, 2] ⟨rfl, rfl, rfl, rfl, rfl, rfl, rfl, rfl, rfl, rfl, rfl, rfl, trivial⟩ rfl rfl (Nat.le_refl _))
        have hS8 : F 10 (lstB 19 [0, 1, 3, 4, 5, 6, 8, 9, 10]) ⟨[(0, sp p), (2, (pA g2 (0))), (3, (pA g3 (0))), (127, sp p), (130, sp p), (135, sp p), (132, avI r9), (137, avI r12), (128, (iA 3 [avS ⟨#[]⟩, avS ⟨#[65]⟩, avS ⟨#[112]⟩])), (133, (iA 3 [avI r9, avI 0, avI 500001]))], [(bA g2), .box g3 ⟨[avS ⟨#[112]⟩, avI r9, avI r12, .v (.slice b l.length c)], 65, 4⟩, .row (.slice b l.length c) l.length 5 (rowL l) 128], k + 3 + 5 * q + 1 + 1⟩ := by
          rw [hF]
          refine VA.all (rs := [2, 11]) (by decide +kernel) (by decide) ?_
          refine ⟨⟨_, rfl, .inl rfl, ?_⟩, ⟨_, rfl, .inl rfl, ?_⟩, trivial⟩
          ·
            refine OpE.callT' (k + 3 + 5 * q + 1 + 1) rfl rfl hB rfl Tryz.call53 rfl ((some_T 1000 (by rfl) (by decide) (by decide) (by repeat (first | exact AllS.nil | refine AllS.cons (by first | decide | omega) ?_)))) (by omega) ?_
            rintro _ ⟨r129, hr129, rfl⟩
            refine VA.take (i := 13) rfl (by decide +kernel) (by decide +kernel) (by decide +kernel) rfl rfl (OpV.fieldAddrO 0 rfl Tryz.underlying65 rfl rfl Tryz.sizeOf9 rfl) ?_
            have hh := hS4 r129 hr129
            rw [hF] at hh
            exact VA.to hh (by decide +kernel) (Le.mk hB [0, 1, 2] ⟨rfl, rfl, rfl, rfl, rfl, rfl, rfl, rfl, rfl, rfl, rfl, rfl, trivial⟩ rfl rfl (Nat.le_refl _))
          ·
            refine OpE.buildSlice (zc := #[.int .i64 0, .int .i64 0, .int .i64 0]) rfl hB rfl Tryz.underlying22 Tryz.sizeOf3 Tryz.zeroValue3 (by decide) (by decide) (by kernel_rfl) rfl rfl ?_
            have hh := hS6 
            rw [hF] at hh
            exact VA.to hh (by decide +kernel) (Le.mk hB [0, 1, 2] ⟨rfl, rfl, rfl, rfl, rfl, rfl, rfl, rfl, rfl, rfl, rfl, trivial⟩ rfl rfl (Nat.le_refl _))
        have hS9 : F 10 (lstB 19 [0, 1, 3, 4, 5, 8, 9, 10, 11]) ⟨[(0, sp p), (2, (pA g2 (0))), (3, (pA g3 (0))), (127, sp p), (130, sp p), (135, sp p), (132, avI r9), (137, avI r12), (128, (iA 3 [avS ⟨#[]⟩, avS ⟨#[65]⟩, avS ⟨#[112]⟩])), (138, (iA 3 [avI r12, avI (-1), avI 500000]))], [(bA g2), .box g3 ⟨[avS ⟨#[112]⟩, avI r9, avI r12, .v (.slice b l.length c)], 65, 4⟩, .row (.slice b l.length c) l.length 5 (rowL l) 128], k + 3 + 5 * q + 1 + 1⟩ := by
          rw [hF]
          refine VA.all (rs := [2, 6]) (by decide +kernel) (by decide) ?_
          refine ⟨⟨_, rfl, .inl rfl, ?_⟩, ⟨_, rfl, .inl rfl, ?_⟩, trivial⟩
          ·
            refine OpE.callT' (k + 3 + 5 * q + 1 + 1) rfl rfl hB rfl Tryz.call53 rfl ((some_T 1000 (by rfl) (by decide) (by decide) (by repeat (first | exact AllS.nil | refine AllS.cons (by first | decide | omega) ?_)))) (by omega) ?_
            rintro _ ⟨r129, hr129, rfl⟩
            refine VA.take (i := 13) rfl (by decide +kernel) (by decide +kernel) (by decide +kernel) rfl rfl (OpV.fieldAddrO 0 rfl Tryz.underlying65 rfl rfl Tryz.sizeOf9 rfl) ?_
            have hh := hS5 r129 hr129
            rw [hF] at hh
            exact VA.to hh (by decide +kernel) (Le.mk hB [0, 1, 2] ⟨rfl, rfl, rfl, rfl, rfl, rfl, rfl, rfl, rfl, rfl, rfl, rfl, trivial⟩ rfl rfl (Nat.le_refl _))
          ·
            refine OpE.buildSlice (zc := #[.int .i64 0, .int .i64 0, .int .i64 0]) rfl hB rfl Tryz.underlying22 Tryz.sizeOf3 Tryz.zeroValue3 (by decide) (by decide) (by kernel_rfl) rfl rfl ?_
            have hh := hS6 
            rw [hF] at hh
            exact VA.to hh (by decide +kernel) (Le.mk hB [0, 1, 2] ⟨rfl, rfl, rfl, rfl, rfl, rfl, rfl, rfl, rfl, rfl, rfl, trivial⟩ rfl rfl (Nat.le_refl _))
        have hS10 : F 10 (lstB 19 [0, 3, 4, 5, 6, 8, 9, 10, 11]) ⟨[(0, sp p), (2, (pA g2 (0))), (3, (pA g3 (0))), (127, sp p), (130, sp p), (135, sp p), (132, avI r9), (137, avI r12), (133, (iA 3 [avI r9, avI 0, avI 500001])), (138, (iA 3 [avI r12, avI (-1), avI 500000]))], [(bA g2), .box g3 ⟨[avS ⟨#[112]⟩, avI r9, avI r12, .v (.slice b l.length c)], 65, 4⟩, .row (.slice b l.length c) l.length 5 (rowL l) 128], k + 3 + 5 * q + 1 + 1⟩ := by
          rw [hF]
          refine VA.all (rs := [1]) (by decide +kernel) (by decide) ?_
          refine ⟨⟨_, rfl, .inl rfl, ?_⟩, trivial⟩
          refine OpE.buildSlice (zc := #[.string ⟨#[]⟩, .string ⟨#[]⟩, .string ⟨#[]⟩]) rfl hB rfl Tryz.underlying29 Tryz.sizeOf9 Tryz.zeroValue9 (by decide) (by decide) (by kernel_rfl) rfl rfl ?_
          have hh := hS6 
          rw [hF] at hh
          exact VA.to hh (by decide +kernel) (Le.mk hB [0, 1, 2] ⟨rfl, rfl, rfl, rfl, rfl, rfl, rfl, rfl, rfl, rfl, rfl, trivial⟩ rfl rfl (Nat.le_refl _))
        have hS11 : F 11 (lstB 19 [0, 1, 3, 4, 5, 8, 9, 10]) ⟨[(0, sp p), (2, (pA g2 (0))), (3, (pA g3 (0))), (127, sp p), (130, sp p), (135, sp p), (132, avI r9), (137, avI r12), (128, (iA 3 [avS ⟨#[]⟩, avS ⟨#[65]⟩, avS ⟨#[112]⟩]))], [(bA g2), .box g3 ⟨[avS ⟨#[112]⟩, avI r9, avI r12, .v (.slice b l.length c)], 65, 4⟩, .row (.slice b l.length c) l.length 5 (rowL l) 128], k + 3 + 5 * q + 1 + 1⟩ := by
          rw [hF]
          refine VA.all (rs := [2, 6, 11]) (by decide +kernel) (by decide) ?_
          refine ⟨⟨_, rfl, .inl rfl, ?_⟩, ⟨_, rfl, .inl rfl, ?_⟩, ⟨_, rfl, .inl rfl, ?_⟩, trivial⟩
          ·
            refine OpE.callT' (k + 3 + 5 * q + 1 + 1) rfl rfl hB rfl Tryz.call53 rfl ((some_T 1000 (by rfl) (by decide) (by decide) (by repeat (first | exact AllS.nil | refine AllS.cons (by first | decide | omega) ?_)))) (by omega) ?_
            rintro _ ⟨r129, hr129, rfl⟩
            refine VA.take (i := 13) rfl (by decide +kernel) (by decide +kernel) (by decide +kernel) rfl rfl (OpV.fieldAddrO 0 rfl Tryz.underlying65 rfl rfl Tryz.sizeOf9 rfl) ?_
            have hh := hS7 r129 hr129
            rw [hF] at hh
            exact VA.to hh (by decide +kernel) (Le.mk hB [0, 1, 2] ⟨rfl, rfl, rfl, rfl, rfl, rfl, rfl, rfl, rfl, rfl, rfl, trivial⟩ rfl rfl (Nat.le_refl _))
          ·
            refine OpE.buildSlice (zc := #[.int .i64 0, .int .i64 0, .int .i64 0]) rfl hB rfl Tryz.underlying22 Tryz.sizeOf3 Tryz.zeroValue3 (by decide) (by decide) (by kernel_rfl) rfl rfl ?_
            have hh := hS8 
            rw [hF] at hh
            exact VA.to hh (by decide +kernel) (Le.mk hB [0, 1, 2] ⟨rfl, rfl, rfl, rfl, rfl, rfl, rfl, rfl, rfl, rfl, trivial⟩ rfl rfl (Nat.le_refl _))
          ·
            refine OpE.buildSlice (zc := #[.int .i64 0, .int .i64 0, .int .i64 0]) rfl hB rfl Tryz.underlying22 Tryz.sizeOf3 Tryz.zeroValue3 (by decide) (by decide) (by kernel_rfl) rfl rfl ?_
            have hh := hS9 
            rw [hF] at hh
            exact VA.to hh (by decide +kernel) (Le.mk hB [0, 1, 2] ⟨rfl, rfl, rfl, rfl, rfl, rfl, rfl, rfl, rfl, rfl, trivial⟩ rfl rfl (Nat.le_refl _))
        have hS12 : F 11 (lstB 19 [0, 3, 4, 5, 6, 8, 9, 10]) ⟨[(0, sp p), (2, (pA g2 (0))), (3, (pA g3 (0))), (127, sp p), (130, sp p), (135, sp p), (132, avI r9), (137, avI r12), (133, (iA 3 [avI r9, avI 0, avI 500001]))], [(bA g2), .box g3 ⟨[avS ⟨#[112]⟩, avI r9, avI r12, .v (.slice b l.length c)], 65, 4⟩, .row (.slice b l.length c) l.length 5 (rowL l) 128], k + 3 + 5 * q + 1 + 1⟩ := by
          rw [hF]
          refine VA.all (rs := [1, 11]) (by decide +kernel) (by decide) ?_
          refine ⟨⟨_, rfl, .inl rfl, ?_⟩, ⟨_, rfl, .inl rfl, ?_⟩, trivial⟩
          ·
            refine OpE.buildSlice (zc := #[.string ⟨#[]⟩, .string ⟨#[]⟩, .string ⟨#[]⟩]) rfl hB rfl Tryz.underlying29 Tryz.sizeOf9 Tryz.zeroValue9 (by decide) (by decide) (by kernel_rfl) rfl rfl ?_
            have hh := hS8 
            rw [hF] at hh
            exact VA.to hh (by decide +kernel) (Le.mk hB [0, 1, 2] ⟨rfl, rfl, rfl, rfl, rfl, rfl, rfl, rfl, rfl, rfl, trivial⟩ rfl rfl (Nat.le_refl _))
          ·
            refine OpE.buildSlice (zc := #[.int .i64 0, .int .i64 0, .int .i64 0]) rfl hB rfl Tryz.underlying22 Tryz.sizeOf3 Tryz.zeroValue3 (by decide) (by decide) (by kernel_rfl) rfl rfl ?_
            have hh := hS10 
            rw [hF] at hh
            exact VA.to hh (by decide +kernel) (Le.mk hB [0, 1, 2] ⟨rfl, rfl, rfl, rfl, rfl, rfl, rfl, rfl, rfl, rfl, trivial⟩ rfl rfl (Nat.le_refl _))
        have hS13 : F 11 (lstB 19 [0, 3, 4, 5, 8, 9, 10, 11]) ⟨[(0, sp p), (2, (pA g2 (0))), (3, (pA g3 (0))), (127, sp p), (130, sp p), (135, sp p), (132, avI r9), (137, avI r12), (138, (iA 3 [avI r12, avI (-1), avI 500000]))], [(bA g2), .box g3 ⟨[avS ⟨#[112]⟩, avI r9, avI r12, .v (.slice b l.length c)], 65, 4⟩, .row (.slice b l.length c) l.length 5 (rowL l) 128], k + 3 + 5 * q + 1 + 1⟩ := by
          rw [hF]
          refine VA.all (rs := [1, 6]) (by decide +kernel) (by decide) ?_
          refine ⟨⟨_, rfl, .inl rfl, ?_⟩, ⟨_, rfl, .inl rfl, ?_⟩, trivial⟩
          ·
            refine OpE.buildSlice (zc := #[.string ⟨#[]⟩, .string ⟨#[]⟩, .string ⟨#[]⟩]) rfl hB rfl Tryz.underlying29 Tryz.sizeOf9 Tryz.zeroValue9 (by decide) (by decide) (by kernel_rfl) rfl rfl ?_
            have hh := hS9 
            rw [hF] at hh
            exact VA.to hh (by decide +kernel) (Le.mk hB [0, 1, 2] ⟨rfl, rfl, rfl, rfl, rfl, rfl, rfl, rfl, rfl, rfl, trivial⟩ rfl rfl (Nat.le_refl _))
          ·
            refine OpE.buildSlice (zc := #[.int .i64 0, .int .i64 0, .int .i64 0]) rfl hB rfl Tryz.underlying22 Tryz.sizeOf3 Tryz.zeroValue3 (by decide) (by decide) (by kernel_rfl) rfl rfl ?_
            have hh := hS10 
            rw [hF] at hh
            exact VA.to hh (by decide +kernel) (Le.mk hB [0, 1, 2] ⟨rfl, rfl, rfl, rfl, rfl, rfl, rfl, rfl, rfl, rfl, trivial⟩ rfl rfl (Nat.le_refl _))
        have hS14 : F 12 (lstB 19 [0, 3, 4, 5, 8, 9, 10]) ⟨[(0, sp p), (2, (pA g2 (0))), (3, (pA g3 (0))), (127, sp p), (130, sp p), (135, sp p), (132, avI r9), (137, avI r12)], [(bA g2), .box g3 ⟨[avS ⟨#[112]⟩, avI r9, avI r12, .v (.slice b l.length c)], 65, 4⟩, .row (.slice b l.length c) l.length 5 (rowL l) 128], k + 3 + 5 * q + 1 + 1⟩ := by
          rw [hF]
          refine VA.all (rs := [1, 6, 11]) (by decide +kernel) (by decide) ?_
          refine ⟨⟨_, rfl, .inl rfl, ?_⟩, ⟨_, rfl, .inl rfl, ?_⟩, ⟨_, rfl, .inl rfl, ?_⟩, trivial⟩
          ·
            refine OpE.buildSlice (zc := #[.string ⟨#[]⟩, .string ⟨#[]⟩, .string ⟨#[]⟩]) rfl hB rfl Tryz.underlying29 Tryz.sizeOf9 Tryz.zeroValue9 (by decide) (by decide) (by kernel_rfl) rfl rfl ?_
            have hh := hS11 
            rw [hF] at hh
            exact VA.to hh (by decide +kernel) (Le.mk hB [0, 1, 2] ⟨rfl, rfl, rfl, rfl, rfl, rfl, rfl, rfl, rfl, trivial⟩ rfl rfl (Nat.le_refl _))
          ·
            refine OpE.buildSlice (zc := #[.int .i64 0, .int .i64 0, .int .i64 0]) rfl hB rfl Tryz.underlying22 Tryz.sizeOf3 Tryz.zeroValue3 (by decide) (by decide) (by kernel_rfl) rfl rfl ?_
            have hh := hS12 
            rw [hF] at hh
            exact VA.to hh (by decide +kernel) (Le.mk hB [0, 1, 2] ⟨rfl, rfl, rfl, rfl, rfl, rfl, rfl, rfl, rfl, trivial⟩ rfl rfl (Nat.le_refl _))
          ·
            refine OpE.buildSlice (zc := #[.int .i64 0, .int .i64 0, .int .i64 0]) rfl hB rfl Tryz.underlying22 Tryz.sizeOf3 Tryz.zeroValue3 (by decide) (by decide) (by kernel_rfl) rfl rfl ?_
            have hh := hS13 
            rw [hF] at hh
            exact VA.to hh (by decide +kernel) (Le.mk hB [0, 1, 2] ⟨rfl, rfl, rfl, rfl, rfl, rfl, rfl, rfl, rfl, trivial⟩ rfl rfl (Nat.le_refl _))
        rw [hF]
        have hh := hS14 
        rw [hF] at hh
        exact VA.to hh (by decide +kernel) (Le.mk hB [0, 1, 2] ⟨rfl, rfl, rfl, rfl, rfl, rfl, rfl, rfl, trivial⟩ rfl rfl (Nat.le_refl _))
      · have aH4 := aH4b
        try simp only [qqT, qqF, qqN, qqM, qqL, qqE] at aH4
        refine VC.sr ?_
        refine VO.val rfl rfl (OpV.fieldAddrO 3 rfl Tryz.underlying65 rfl rfl Tryz.sizeOf63 rfl) ?_
        refine VO.val rfl rfl (OpV.load_own (i := 1) rfl hB Tryz.isAgg63 rfl rfl rfl (fun h => h)) ?_
        refine VO.val rfl rfl (OpV.len_v rfl Tryz.underlying63 rfl) ?_
        refine VO.val rfl rfl (OpV.gtr rfl rfl rfl) ?_
        refine VO.nil ?_
        refine VC.cond rfl (fun aH5b => ?_) (fun aH5b => ?_)
        · have aH5 := aH5b
          try simp only [qqT, qqF, qqN, qqM, qqL, qqE] at aH5
          refine VC.seq ?_
          refine VC.asBox (i := 2) rfl (by omega) (fun gr cap hu hcap hmx => ?_)
          obtain ⟨hb, hc⟩ : b = some ⟨gr, 0, none⟩ ∧ c = cap := by injection hu with h1 h2 h3; exact ⟨h1, h3⟩
          subst hb
          subst hc
          refine VC.draw (fun _ => NoB) hB (by kernel_rfl) ?_
          refine VA.take (i := 0) rfl (by decide +kernel) (by decide +kernel) (by decide +kernel) rfl rfl (OpV.fieldAddrO 3 rfl Tryz.underlying65 rfl rfl Tryz.sizeOf63 rfl) ?_
          refine VA.take (i := 1) rfl (by decide +kernel) (by decide +kernel) (by decide +kernel) rfl rfl (OpV.load_own (i := 1) rfl hB Tryz.isAgg63 rfl rfl rfl Wi.not0) ?_
          refine VA.take (i := 2) rfl (by decide +kernel) (by decide +kernel) (by decide +kernel) rfl rfl (OpV.move (.inl rfl) rfl) ?_
          refine VA.take (i := 3) rfl (by decide +kernel) (by decide +kernel) (by decide +kernel) rfl rfl (OpV.fieldAddrO 3 rfl Tryz.underlying65 rfl rfl Tryz.sizeOf63 rfl) ?_
          refine VA.take (i := 4) rfl (by decide +kernel) (by decide +kernel) (by decide +kernel) rfl rfl (OpV.load_own (i := 1) rfl hB Tryz.isAgg63 rfl rfl rfl Wi.not0) ?_
          refine VA.take (i := 5) rfl (by decide +kernel) (by decide +kernel) (by decide +kernel) rfl rfl (OpV.len_v rfl Tryz.underlying63 rfl) ?_
          refine VA.all (rs := [6]) (by decide +kernel) (by decide) ?_
          refine ⟨⟨_, rfl, .inl rfl, ?_⟩, trivial⟩
          refine OpE.callT' (k + 3 + 5 * q + 1 + 1) rfl rfl hB rfl Tryz.call51 rfl (next_T (by omega)) (by omega) ?_
          rintro _ ⟨r58, hr58, rfl⟩
          obtain ⟨m, rfl⟩ : ∃ m : Nat, r58 = m := ⟨r58.toNat, by omega⟩
          refine VA.take (i := 7) rfl (by decide +kernel) (by decide +kernel) (by decide +kernel) rfl rfl (OpV.indexAddr_q rfl Tryz.underlying63 Tryz.sizeOf128 rfl rfl rfl (by omega)) ?_
          refine VA.take (i := 8) rfl (by decide +kernel) (by decide +kernel) (by decide +kernel) rfl rfl (OpV.move (.inr rfl) rfl) ?_
          refine VA.done (by decide +kernel) ?_
          refine VC.hap (fun hap => ?_)
          have ne3r := apart_ne hap (i := 1) (j := 2) rfl rfl (by decide)
          refine VC.draw (fun j b => j ∈ [57, 60, 63, 66, 69] ∧ b = gr) hB (by kernel_rfl) ?_
          refine VA.take (i := 0) rfl (by decide +kernel) (by decide +kernel) (by decide +kernel) rfl rfl (OpV.move (.inl rfl) rfl) ?_
          refine VA.take (i := 1) rfl (by decide +kernel) (by decide +kernel) (by decide +kernel) rfl rfl (OpV.move (.inl rfl) rfl) ?_
          refine VA.take (i := 2) rfl (by decide +kernel) (by decide +kernel) (by decide +kernel) rfl rfl (OpV.move (.inl rfl) rfl) ?_
          refine VA.take (i := 3) rfl (by decide +kernel) (by decide +kernel) (by decide +kernel) rfl rfl (OpV.move (.inl rfl) rfl) ?_
          refine VA.take (i := 4) rfl (by decide +kernel) (by decide +kernel) (by decide +kernel) rfl rfl (OpV.move (.inl rfl) rfl) ?_
          refine VA.take (i := 5) rfl (by decide +kernel) (by decide +kernel) (by decide +kernel) rfl rfl (OpV.move (.inl rfl) rfl) ?_
          refine VA.take (i := 6) rfl (by decide +kernel) (by decide +kernel) (by decide +kernel) rfl rfl (OpV.move (.inl rfl) rfl) ?_
          refine VA.take (i := 7) rfl (by decide +kernel) (by decide +kernel) (by decide +kernel) rfl rfl (OpV.nilCheck rfl rfl) ?_
          refine VA.take (i := 8) rfl (by decide +kernel) (by decide +kernel) (by decide +kernel) rfl rfl (OpV.fieldAddrO 0 rfl Tryz.underlying128 rfl rfl Tryz.sizeOf9 rfl) ?_
          refine VA.take (i := 9) rfl (by decide +kernel) (by decide +kernel) (by decide +kernel) rfl rfl (OpV.load_own (i := 2) rfl hB Tryz.isAgg9 rfl rfl (rowL_at rfl (by omega) (by decide)) (Wi.notD (by decide +kernel))) ?_
          refine VA.take (i := 10) rfl (by decide +kernel) (by decide +kernel) (by decide +kernel) rfl rfl (OpV.move (.inl rfl) rfl) ?_
          refine VA.take (i := 11) rfl (by decide +kernel) (by decide +kernel) (by decide +kernel) rfl rfl (OpV.nilCheck rfl rfl) ?_
          refine VA.take (i := 12) rfl (by decide +kernel) (by decide +kernel) (by decide +kernel) rfl rfl (OpV.fieldAddrO 0 rfl Tryz.underlying128 rfl rfl Tryz.sizeOf9 rfl) ?_
          refine VA.take (i := 13) rfl (by decide +kernel) (by decide +kernel) (by decide +kernel) rfl rfl (OpV.load_own (i := 2) rfl hB Tryz.isAgg9 rfl rfl (rowL_at rfl (by omega) (by decide)) (Wi.notD (by decide +kernel))) ?_
          refine VA.take (i := 16) rfl (by decide +kernel) (by decide +kernel) (by decide +kernel) rfl rfl (OpV.move (.inl rfl) rfl) ?_
          refine VA.take (i := 17) rfl (by decide +kernel) (by decide +kernel) (by decide +kernel) rfl rfl (OpV.move (.inl rfl) rfl) ?_
          refine VA.take (i := 18) rfl (by decide +kernel) (by decide +kernel) (by decide +kernel) rfl rfl (OpV.nilCheck rfl rfl) ?_
          refine VA.take (i := 19) rfl (by decide +kernel) (by decide +kernel) (by decide +kernel) rfl rfl (OpV.fieldAddrO 1 rfl Tryz.underlying128 rfl rfl Tryz.sizeOf9 rfl) ?_
          refine VA.take (i := 20) rfl (by decide +kernel) (by decide +kernel) (by decide +kernel) rfl rfl (OpV.load_own (i := 2) rfl hB Tryz.isAgg9 rfl rfl (rowL_at rfl (by omega) (by decide)) (Wi.notD (by decide +kernel))) ?_
          refine VA.take (i := 21) rfl (by decide +kernel) (by decide +kernel) (by decide +kernel) rfl rfl (OpV.move (.inl rfl) rfl) ?_
          refine VA.take (i := 22) rfl (by decide +kernel) (by decide +kernel) (by decide +kernel) rfl rfl (OpV.nilCheck rfl rfl) ?_
          refine VA.take (i := 23) rfl (by decide +kernel) (by decide +kernel) (by decide +kernel) rfl rfl (OpV.fieldAddrO 1 rfl Tryz.underlying128 rfl rfl Tryz.sizeOf9 rfl) ?_
          refine VA.take (i := 24) rfl (by decide +kernel) (by decide +kernel) (by decide +kernel) rfl rfl (OpV.load_own (i := 2) rfl hB Tryz.isAgg9 rfl rfl (rowL_at rfl (by omega) (by decide)) (Wi.notD (by decide +kernel))) ?_
          refine VA.take (i := 27) rfl (by decide +kernel) (by decide +kernel) (by decide +kernel) rfl rfl (OpV.move (.inl rfl) rfl) ?_
          refine VA.take (i := 28) rfl (by decide +kernel) (by decide +kernel) (by decide +kernel) rfl rfl (OpV.move (.inl rfl) rfl) ?_
          refine VA.take (i := 29) rfl (by decide +kernel) (by decide +kernel) (by decide +kernel) rfl rfl (OpV.nilCheck rfl rfl) ?_
          refine VA.take (i := 30) rfl (by decide +kernel) (by decide +kernel) (by decide +kernel) rfl rfl (OpV.fieldAddrO 2 rfl Tryz.underlying128 rfl rfl Tryz.sizeOf3 rfl) ?_
          refine VA.take (i := 31) rfl (by decide +kernel) (by decide +kernel) (by decide +kernel) rfl rfl (OpV.load_own (i := 2) rfl hB Tryz.isAgg3 rfl rfl (rowL_at rfl (by omega) (by decide)) (Wi.notD (by decide +kernel))) ?_
          refine VA.take (i := 32) rfl (by decide +kernel) (by decide +kernel) (by decide +kernel) rfl rfl (OpV.fieldAddrO 1 rfl Tryz.underlying65 rfl rfl Tryz.sizeOf3 rfl) ?_
          refine VA.take (i := 33) rfl (by decide +kernel) (by decide +kernel) (by decide +kernel) rfl rfl (OpV.load_own (i := 1) rfl hB Tryz.isAgg3 rfl rfl rfl (fun ⟨_, _, _, h⟩ => ne3r h)) ?_
          refine VA.take (i := 34) rfl (by decide +kernel) (by decide +kernel) (by decide +kernel) rfl rfl (OpV.add rfl rfl rfl (by unfold fits; omega)) ?_
          refine VA.take (i := 37) rfl (by decide +kernel) (by decide +kernel) (by decide +kernel) rfl rfl (OpV.move (.inl rfl) rfl) ?_
          refine VA.take (i := 38) rfl (by decide +kernel) (by decide +kernel) (by decide +kernel) rfl rfl (OpV.move (.inl rfl) rfl) ?_
          refine VA.take (i := 39) rfl (by decide +kernel) (by decide +kernel) (by decide +kernel) rfl rfl (OpV.nilCheck rfl rfl) ?_
          refine VA.take (i := 40) rfl (by decide +kernel) (by decide +kernel) (by decide +kernel) rfl rfl (OpV.fieldAddrO 3 rfl Tryz.underlying128 rfl rfl Tryz.sizeOf3 rfl) ?_
          refine VA.take (i := 41) rfl (by decide +kernel) (by decide +kernel) (by decide +kernel) rfl rfl (OpV.load_own (i := 2) rfl hB Tryz.isAgg3 rfl rfl (rowL_at rfl (by omega) (by decide)) (Wi.notD (by decide +kernel))) ?_
          refine VA.take (i := 42) rfl (by decide +kernel) (by decide +kernel) (by decide +kernel) rfl rfl (OpV.move (.inl rfl) rfl) ?_
          refine VA.take (i := 43) rfl (by decide +kernel) (by decide +kernel) (by decide +kernel) rfl rfl (OpV.nilCheck rfl rfl) ?_
          refine VA.take (i := 44) rfl (by decide +kernel) (by decide +kernel) (by decide +kernel) rfl rfl (OpV.fieldAddrO 3 rfl Tryz.underlying128 rfl rfl Tryz.sizeOf3 rfl) ?_
          refine VA.take (i := 45) rfl (by decide +kernel) (by decide +kernel) (by decide +kernel) rfl rfl (OpV.load_own (i := 2) rfl hB Tryz.isAgg3 rfl rfl (rowL_at rfl (by omega) (by decide)) (Wi.notD (by decide +kernel))) ?_
          refine VA.take (i := 48) rfl (by decide +kernel) (by decide +kernel) (by decide +kernel) rfl rfl (OpV.move (.inl rfl) rfl) ?_
          refine VA.take (i := 49) rfl (by decide +kernel) (by decide +kernel) (by decide +kernel) rfl rfl (OpV.move (.inl rfl) rfl) ?_
          refine VA.take (i := 50) rfl (by decide +kernel) (by decide +kernel) (by decide +kernel) rfl rfl (OpV.nilCheck rfl rfl) ?_
          refine VA.take (i := 51) rfl (by decide +kernel) (by decide +kernel) (by decide +kernel) rfl rfl (OpV.fieldAddrO 4 rfl Tryz.underlying128 rfl rfl Tryz.sizeOf3 rfl) ?_
          refine VA.take (i := 52) rfl (by decide +kernel) (by decide +kernel) (by decide +kernel) rfl rfl (OpV.load_own (i := 2) rfl hB Tryz.isAgg3 rfl rfl (rowL_at rfl (by omega) (by decide)) (Wi.notD (by decide +kernel))) ?_
          refine VA.bind (fun F hF => ?_)
          have hS0 : ∀ (r75 : ByteArray) (hr75 : r75.size ≤ 1000) (r86 : ByteArray) (hr86 : r86.size ≤ 1000) (r96 : Int) (r107 : Int) (r114 : Int), F 13 (lstB 70 [0, 1, 2, 3, 4, 5, 6, 7, 8, 9, 10, 11, 12, 13, 14, 15, 16, 17, 18, 19, 20, 21, 22, 23, 24, 25, 26, 27, 28, 29, 30, 31, 32, 33, 34, 35, 36, 37, 38, 39, 40, 41, 42, 43, 44, 45, 46, 47, 48, 49, 50, 51, 52, 53, 54, 55, 56]) ⟨[(0, sp p), (2, (pA g2 (0))), (3, (pA g3 (0))), (65, sp p), (76, sp p), (87, sp p), (97, sp p), (108, sp p), (60, (pA gr (0 + m * 5))), (69, avS (xA l m).name), (73, avS (xA l m).name), (80, avS (xA l m).part), (84, avS (xA l m).part), (91, avI (xA l m).x), (94, avI (r9 + 1)), (101, avI (xA l m).y), (105, avI (xA l m).y), (112, avI (xA l m).quarter), (61, (pA gr (0 + m * 5))), (62, (pA gr (0 + m * 5))), (63, (pA gr (0 + m * 5))), (64, (pA gr (0 + m * 5))), (74, (iA 4 [avS (xA l m).name, avS (xA l m).name, avS ⟨#[]⟩, avS ⟨#[99, 49]⟩])), (75, avS r75), (85, (iA 3 [avS (xA l m).part, avS (xA l m).part, avS ⟨#[]⟩])), (86, avS r86), (95, (iA 3 [avI (xA l m).x, avI (-1), avI (r9 + 1)])), (96, avI r96), (106, (iA 4 [avI (xA l m).y, avI (xA l m).y, avI (-1), avI 4611686018427387904])), (107, avI r107), (113, (iA 3 [avI (xA l m).quarter, avI 4, avI (-1)])), (114, avI r114), (116, (pA gr (0 + m * 5 + 0)))], [(bA g2), .box g3 ⟨[avS ⟨#[112]⟩, avI r9, avI r12, .v (.slice (some ⟨gr, 0, none⟩) l.length c)], 65, 4⟩, .box gr ⟨rowL l, 128, c * 5⟩], k + 3 + 5 * q + 1 + 1 + 1 + 1 + 1 + 1 + 1 + 1⟩ := by
            intro r75 hr75 r86 hr86 r96 r107 r114
            rw [hF]
            refine VA.all (rs := [57]) (by decide +kernel) (by decide) ?_
            refine ⟨⟨_, rfl, .inl rfl, ?_⟩, trivial⟩
            refine OpE.store1 (i := 2) rfl hB rfl Tryz.sizeOf9 rfl rfl rfl rfl rfl rfl (rowL_in rfl (by omega) (by decide)) (rowL_set (x := ({l.getD m default with name := r75} : PlaceS)) rfl (by omega) (by decide) rfl (fun i hi hn => pl_upd (by simp) (by simp) (by simp) (by simp) (by simp) i hi hn)) (by first | exact ⟨rfl, rfl⟩ | exact .inl ⟨rfl, rfl⟩ | exact .inr ⟨rfl, rfl⟩ | exact ⟨rfl, trivial⟩ | exact .inl ⟨rfl, trivial⟩ | exact .inr ⟨rfl, trivial⟩ | exact ⟨by decide, rfl⟩) ?_
            refine VA.take (i := 58) rfl (by decide +kernel) (by decide +kernel) (by decide +kernel) rfl rfl (OpV.nilCheck rfl rfl) ?_
            refine VA.take (i := 59) rfl (by decide +kernel) (by decide +kernel) (by decide +kernel) rfl rfl (OpV.fieldAddrO 1 rfl Tryz.underlying128 rfl rfl Tryz.sizeOf9 rfl) ?_
            refine VA.all (rs := [60]) (by decide +kernel) (by decide) ?_
            refine ⟨⟨_, rfl, .inl rfl, ?_⟩, trivial⟩
            refine OpE.store1 (i := 2) rfl hB rfl Tryz.sizeOf9 rfl rfl rfl rfl rfl rfl (rowL_in rfl (by first | omega | (simp only [List.length_set]; omega) | (simp; omega)) (by decide)) (rowL_set (x := ({l.getD m default with name := r75, part := r86} : PlaceS)) rfl (by first | omega | (simp only [List.length_set]; omega) | (simp; omega)) (by decide) rfl (fun i hi hn => by rw [getD_set_self (by first | omega | (simp only [List.length_set]; omega) | (simp; omega))]; exact pl_upd (by simp) (by simp) (by simp) (by simp) (by simp) i hi hn)) (by first | exact ⟨rfl, rfl⟩ | exact .inl ⟨rfl, rfl⟩ | exact .inr ⟨rfl, rfl⟩ | exact ⟨rfl, trivial⟩ | exact .inl ⟨rfl, trivial⟩ | exact .inr ⟨rfl, trivial⟩ | exact ⟨by decide, rfl⟩) ?_
            refine VA.take (i := 61) rfl (by decide +kernel) (by decide +kernel) (by decide +kernel) rfl rfl (OpV.nilCheck rfl rfl) ?_
            refine VA.take (i := 62) rfl (by decide +kernel) (by decide +kernel) (by decide +kernel) rfl rfl (OpV.fieldAddrO 2 rfl Tryz.underlying128 rfl rfl Tryz.sizeOf3 rfl) ?_
            refine VA.all (rs := [63]) (by decide +kernel) (by decide) ?_
            refine ⟨⟨_, rfl, .inl rfl, ?_⟩, trivial⟩
            refine OpE.store1 (i := 2) rfl hB rfl Tryz.sizeOf3 rfl rfl rfl rfl rfl rfl (rowL_in rfl (by first | omega | (simp only [List.length_set]; omega) | (simp; omega)) (by decide)) (rowL_set (x := ({l.getD m default with name := r75, part := r86, x := r96} : PlaceS)) rfl (by first | omega | (simp only [List.length_set]; omega) | (simp; omega)) (by decide) rfl (fun i hi hn => by rw [getD_set_self (by first | omega | (simp only [List.length_set]; omega) | (simp; omega))]; exact pl_upd (by simp) (by simp) (by simp) (by simp) (by simp) i hi hn)) (by first | exact ⟨rfl, rfl⟩ | exact .inl ⟨rfl, rfl⟩ | exact .inr ⟨rfl, rfl⟩ | exact ⟨rfl, trivial⟩ | exact .inl ⟨rfl, trivial⟩ | exact .inr ⟨rfl, trivial⟩ | exact ⟨by decide, rfl⟩) ?_
            refine VA.take (i := 64) rfl (by decide +kernel) (by decide +kernel) (by decide +kernel) rfl rfl (OpV.nilCheck rfl rfl) ?_
            refine VA.take (i := 65) rfl (by decide +kernel) (by decide +kernel) (by decide +kernel) rfl rfl (OpV.fieldAddrO 3 rfl Tryz.underlying128 rfl rfl Tryz.sizeOf3 rfl) ?_
            refine VA.all (rs := [66]) (by decide +kernel) (by decide) ?_
            refine ⟨⟨_, rfl, .inl rfl, ?_⟩, trivial⟩
            refine OpE.store1 (i := 2) rfl hB rfl Tryz.sizeOf3 rfl rfl rfl rfl rfl rfl (rowL_in rfl (by first | omega | (simp only [List.length_set]; omega) | (simp; omega)) (by decide)) (rowL_set (x := ({l.getD m default with name := r75, part := r86, x := r96, y := r107} : PlaceS)) rfl (by first | omega | (simp only [List.length_set]; omega) | (simp; omega)) (by decide) rfl (fun i hi hn => by rw [getD_set_self (by first | omega | (simp only [List.length_set]; omega) | (simp; omega))]; exact pl_upd (by simp) (by simp) (by simp) (by simp) (by simp) i hi hn)) (by first | exact ⟨rfl, rfl⟩ | exact .inl ⟨rfl, rfl⟩ | exact .inr ⟨rfl, rfl⟩ | exact ⟨rfl, trivial⟩ | exact .inl ⟨rfl, trivial⟩ | exact .inr ⟨rfl, trivial⟩ | exact ⟨by decide, rfl⟩) ?_
            refine VA.take (i := 67) rfl (by decide +kernel) (by decide +kernel) (by decide +kernel) rfl rfl (OpV.nilCheck rfl rfl) ?_
            refine VA.take (i := 68) rfl (by decide +kernel) (by decide +kernel) (by decide +kernel) rfl rfl (OpV.fieldAddrO 4 rfl Tryz.underlying128 rfl rfl Tryz.sizeOf3 rfl) ?_
            refine VA.all (rs := [69]) (by decide +kernel) (by decide) ?_
            refine ⟨⟨_, rfl, .inl rfl, ?_⟩, trivial⟩
            refine OpE.store1 (i := 2) rfl hB rfl Tryz.sizeOf3 rfl rfl rfl rfl rfl rfl (rowL_in rfl (by first | omega | (simp only [List.length_set]; omega) | (simp; omega)) (by decide)) (rowL_set (x := ({l.getD m default with name := r75, part := r86, x := r96, y := r107, quarter := r114} : PlaceS)) rfl (by first | omega | (simp only [List.length_set]; omega) | (simp; omega)) (by decide) rfl (fun i hi hn => by rw [getD_set_self (by first | omega | (simp only [List.length_set]; omega) | (simp; omega))]; exact pl_upd (by simp) (by simp) (by simp) (by simp) (by simp) i hi hn)) (by first | exact ⟨rfl, rfl⟩ | exact .inl ⟨rfl, rfl⟩ | exact .inr ⟨rfl, rfl⟩ | exact ⟨rfl, trivial⟩ | exact .inl ⟨rfl, trivial⟩ | exact .inr ⟨rfl, trivial⟩ | exact ⟨by decide, rfl⟩) ?_
            refine VA.done (by decide +kernel) ?_
            refine VC.seq ?_
            first | refine VC.le _ (Le.boxRow (i := 2) (n := l.length) (sz := 5) rfl (by simp only [rowL_len, List.length_set]; rfl) (by omega) (by omega)) ?_ | skip
            refine VC.region ?_
            refine VO.val rfl rfl (OpV.loadK_own (i := 1) rfl hB Tryz.isAgg65 Tryz.sizeOf65 rfl rfl rfl (fun h => h)) ?_
            refine VO.le _ (Le.aggRow (t := 143) (j := 3) (i := 2) (y := avL (((((l.set m ({l.getD m default with name := r75} : PlaceS)).set m ({l.getD m default with name := r75, part := r86} : PlaceS)).set m ({l.getD m default with name := r75, part := r86, x := r96} : PlaceS)).set m ({l.getD m default with name := r75, part := r86, x := r96, y := r107} : PlaceS)).set m ({l.getD m default with name := r75, part := r86, x := r96, y := r107, quarter := r114} : PlaceS))) hB hnew rfl rfl rfl (fun w Z u h => Rep.rowL (by simp) h)) ?_
            refine VO.op rfl (OpE.store (i := 0) rfl hB rfl Tryz.sizeOf65 rfl rfl rfl rfl rfl rfl (Nle rfl) trivial ?_)
            refine VO.nil ?_
            refine VC.ret ?_
            exact Exists.intro _ (And.intro (RetV.one Tryz.results36 ((by first | exact ResV.cellK (i := 0) Tryz.isAgg65 Tryz.sizeOf65 rfl rfl rfl | exact ResV.cellK (i := 1) Tryz.isAgg65 Tryz.sizeOf65 rfl rfl rfl | exact ResV.cellK (i := 2) Tryz.isAgg65 Tryz.sizeOf65 rfl rfl rfl))) (And.intro (by first | exact ⟨⟨_, _, _, l⟩, ⟨POk.sm (by first | decide | assumption) (by omega) hok, by show l.length ≤ 5; omega⟩, rfl⟩ | exact ⟨⟨_, _, _, (((((l.set m ({l.getD m default with name := r75} : PlaceS)).set m ({l.getD m default with name := r75, part := r86} : PlaceS)).set m ({l.getD m default with name := r75, part := r86, x := r96} : PlaceS)).set m ({l.getD m default with name := r75, part := r86, x := r96, y := r107} : PlaceS)).set m ({l.getD m default with name := r75, part := r86, x := r96, y := r107, quarter := r114} : PlaceS))⟩, ⟨POk.sm (by decide) (by simp; omega) (by repeat (first | exact hok | refine POk.set ?_ _ ⟨by first | exact hr75 | exact (hok.getD m).1, by first | exact hr86 | exact (hok.getD m).2⟩)), by simp; omega⟩, rfl⟩) ((show k + 3 + 5 * q + 1 + 1 + 1 + 1 + 1 + 1 + 1 + 1 ≤ k + 50 by omega))))
          have hS1 : ∀ (r75 : ByteArray) (hr75 : r75.size ≤ 1000) (r86 : ByteArray) (hr86 : r86.size ≤ 1000) (r96 : Int) (r107 : Int), F 16 (lstB 70 [0, 1, 2, 3, 4, 5, 6, 7, 8, 9, 10, 11, 12, 13, 14, 15, 16, 17, 18, 19, 20, 21, 22, 23, 24, 25, 26, 27, 28, 29, 30, 31, 32, 33, 34, 35, 36, 37, 38, 39, 40, 41, 42, 43, 44, 45, 46, 47, 48, 49, 50, 51, 52, 53]) ⟨[(0, sp p), (2, (pA g2 (0))), (3, (pA g3 (0))), (65, sp p), (76, sp p), (87, sp p), (97, sp p), (108, sp p), (60, (pA gr (0 + m * 5))), (69, avS (xA l m).name), (73, avS (xA l m).name), (80, avS (xA l m).part), (84, avS (xA l m).part), (91, avI (xA l m).x), (94, avI (r9 + 1)), (101, avI (xA l m).y), (105, avI (xA l m).y), (112, avI (xA l m).quarter), (61, (pA gr (0 + m * 5))), (62, (pA gr (0 + m * 5))), (63, (pA gr (0 + m * 5))), (64, (pA gr (0 + m * 5))), (74, (iA 4 [avS (xA l m).name, avS (xA l m).name, avS ⟨#[]⟩, avS ⟨#[99, 49]⟩])), (75, avS r75), (85, (iA 3 [avS (xA l m).part, avS (xA l m).part, avS ⟨#[]⟩])), (86, avS r86), (95, (iA 3 [avI (xA l m).x, avI (-1), avI (r9 + 1)])), (96, avI r96), (106, (iA 4 [avI (xA l m).y, avI (xA l m).y, avI (-1), avI 4611686018427387904])), (107, avI r107), (113, (iA 3 [avI (xA l m).quarter, avI 4, avI (-1)]))], [(bA g2), .box g3 ⟨[avS ⟨#[112]⟩, avI r9, avI r12, .v (.slice (some ⟨gr, 0, none⟩) l.length c)], 65, 4⟩, .box gr ⟨rowL l, 128, c * 5⟩], k + 3 + 5 * q + 1 + 1 + 1 + 1 + 1 + 1 + 1⟩ := by
            intro r75 hr75 r86 hr86 r96 r107
            rw [hF]
            refine VA.all (rs := [54]) (by decide +kernel) (by decide) ?_
            refine ⟨⟨_, rfl, .inl rfl, ?_⟩, trivial⟩
            refine OpE.callT' (k + 3 + 5 * q + 1 + 1 + 1 + 1 + 1 + 1 + 1) rfl rfl hB rfl Tryz.call11 rfl (pick_X (by rfl) (by decide) (by decide) (by repeat (first | exact AllX.nil | refine AllX.cons ?_))) (by omega) ?_
            rintro _ ⟨r114, rfl⟩
            refine VA.take (i := 55) rfl (by decide +kernel) (by decide +kernel) (by decide +kernel) rfl rfl (OpV.nilCheck rfl rfl) ?_
            refine VA.take (i := 56) rfl (by decide +kernel) (by decide +kernel) (by decide +kernel) rfl rfl (OpV.fieldAddrO 0 rfl Tryz.underlying128 rfl rfl Tryz.sizeOf9 rfl) ?_
            have hh := hS0 r75 hr75 r86 hr86 r96 r107 r114
            rw [hF] at hh
            exact VA.to hh (by decide +kernel) (Le.mk hB [0, 1, 2] ⟨rfl, rfl, rfl, rfl, rfl, rfl, rfl, rfl, rfl, rfl, rfl, rfl, rfl, rfl, rfl, rfl, rfl, rfl, rfl, rfl, rfl, rfl, rfl, rfl, rfl, rfl, rfl, rfl, rfl, rfl, rfl, rfl, rfl, trivial⟩ rfl rfl (Nat.le_refl _))
          have hS2 : ∀ (r75 : ByteArray) (hr75 : r75.size ≤ 1000) (r86 : ByteArray) (hr86 : r86.size ≤ 1000) (r96 : Int) (r107 : Int), F 17 (lstB 70 [0, 1, 2, 3, 4, 5, 6, 7, 8, 9, 10, 11, 12, 13, 14, 15, 16, 17, 18, 19, 20, 21, 22, 23, 24, 25, 26, 27, 28, 29, 30, 31, 32, 33, 34, 35, 36, 37, 38, 39, 40, 41, 42, 43, 44, 45, 46, 47, 48, 49, 50, 51, 52]) ⟨[(0, sp p), (2, (pA g2 (0))), (3, (pA g3 (0))), (65, sp p), (76, sp p), (87, sp p), (97, sp p), (108, sp p), (60, (pA gr (0 + m * 5))), (69, avS (xA l m).name), (73, avS (xA l m).name), (80, avS (xA l m).part), (84, avS (xA l m).part), (91, avI (xA l m).x), (94, avI (r9 + 1)), (101, avI (xA l m).y), (105, avI (xA l m).y), (112, avI (xA l m).quarter), (61, (pA gr (0 + m * 5))), (62, (pA gr (0 + m * 5))), (63, (pA gr (0 + m * 5))), (64, (pA gr (0 + m * 5))), (74, (iA 4 [avS (xA l m).name, avS (xA l m).name, avS ⟨#[]⟩, avS ⟨#[99, 49]⟩])), (75, avS r75), (85, (iA 3 [avS (xA l m).part, avS (xA l m).part, avS ⟨#[]⟩])), (86, avS r86), (95, (iA 3 [avI (xA l m).x, avI (-1), avI (r9 + 1)])), (96, avI r96), (106, (iA 4 [avI (xA l m).y, avI (xA l m).y, avI (-1), avI 4611686018427387904])), (107, avI r107)], [(bA g2), .box g3 ⟨[avS ⟨#[112]⟩, avI r9, avI r12, .v (.slice (some ⟨gr, 0, none⟩) l.length c)], 65, 4⟩, .box gr ⟨rowL l, 128, c * 5⟩], k + 3 + 5 * q + 1 + 1 + 1 + 1 + 1 + 1 + 1⟩ := by
            intro r75 hr75 r86 hr86 r96 r107
            rw [hF]
            refine VA.all (rs := [53]) (by decide +kernel) (by decide) ?_
            refine ⟨⟨_, rfl, .inl rfl, ?_⟩, trivial⟩
            refine OpE.buildSlice (zc := #[.int .i64 0, .int .i64 0, .int .i64 0]) rfl hB rfl Tryz.underlying22 Tryz.sizeOf3 Tryz.zeroValue3 (by decide) (by decide) (by kernel_rfl) rfl rfl ?_
            have hh := hS1 r75 hr75 r86 hr86 r96 r107
            rw [hF] at hh
            exact VA.to hh (by decide +kernel) (Le.mk hB [0, 1, 2] ⟨rfl, rfl, rfl, rfl, rfl, rfl, rfl, rfl, rfl, rfl, rfl, rfl, rfl, rfl, rfl, rfl, rfl, rfl, rfl, rfl, rfl, rfl, rfl, rfl, rfl, rfl, rfl, rfl, rfl, rfl, rfl, trivial⟩ rfl rfl (Nat.le_refl _))
          have hS3 : ∀ (r75 : ByteArray) (hr75 : r75.size ≤ 1000) (r86 : ByteArray) (hr86 : r86.size ≤ 1000) (r96 : Int), F 17 (lstB 70 [0, 1, 2, 3, 4, 5, 6, 7, 8, 9, 10, 11, 12, 13, 14, 15, 16, 17, 18, 19, 20, 21, 22, 23, 24, 25, 26, 27, 28, 29, 30, 31, 32, 33, 34, 35, 36, 37, 38, 39, 40, 41, 42, 43, 44, 45, 46, 48, 49, 50, 51, 52, 53]) ⟨[(0, sp p), (2, (pA g2 (0))), (3, (pA g3 (0))), (65, sp p), (76, sp p), (87, sp p), (97, sp p), (108, sp p), (60, (pA gr (0 + m * 5))), (69, avS (xA l m).name), (73, avS (xA l m).name), (80, avS (xA l m).part), (84, avS (xA l m).part), (91, avI (xA l m).x), (94, avI (r9 + 1)), (101, avI (xA l m).y), (105, avI (xA l m).y), (112, avI (xA l m).quarter), (61, (pA gr (0 + m * 5))), (62, (pA gr (0 + m * 5))), (63, (pA gr (0 + m * 5))), (64, (pA gr (0 + m * 5))), (74, (iA 4 [avS (xA l m).name, avS (xA l m).name, avS ⟨#[]⟩, avS ⟨#[99, 49]⟩])), (75, avS r75), (85, (iA 3 [avS (xA l m).part, avS (xA l m).part, avS ⟨#[]⟩])), (86, avS r86), (95, (iA 3 [avI (xA l m).x, avI (-1), avI (r9 + 1)])), (96, avI r96), (106, (iA 4 [avI (xA l m).y, avI (xA l m).y, avI (-1), avI 4611686018427387904])), (113, (iA 3 [avI (xA l m).quarter, avI 4, avI (-1)]))], [(bA g2), .box g3 ⟨[avS ⟨#[112]⟩, avI r9, avI r12, .v (.slice (some ⟨gr, 0, none⟩) l.length c)], 65, 4⟩, .box gr ⟨rowL l, 128, c * 5⟩], k + 3 + 5 * q + 1 + 1 + 1 + 1 + 1 + 1⟩ := by
            intro r75 hr75 r86 hr86 r96
            rw [hF]
            refine VA.all (rs := [47]) (by decide +kernel) (by decide) ?_
            refine ⟨⟨_, rfl, .inl rfl, ?_⟩, trivial⟩
            refine OpE.callT' (k + 3 + 5 * q + 1 + 1 + 1 + 1 + 1 + 1) rfl rfl hB rfl Tryz.call11 rfl (pick_X (by rfl) (by decide) (by decide) (by repeat (first | exact AllX.nil | refine AllX.cons ?_))) (by omega) ?_
            rintro _ ⟨r107, rfl⟩
            have hh := hS1 r75 hr75 r86 hr86 r96 r107
            rw [hF] at hh
            exact VA.to hh (by decide +kernel) (Le.mk hB [0, 1, 2] ⟨rfl, rfl, rfl, rfl, rfl, rfl, rfl, rfl, rfl, rfl, rfl, rfl, rfl, rfl, rfl, rfl, rfl, rfl, rfl, rfl, rfl, rfl, rfl, rfl, rfl, rfl, rfl, rfl, rfl, rfl, rfl, trivial⟩ rfl rfl (Nat.le_refl _))
          have hS4 : ∀ (r75 : ByteArray) (hr75 : r75.size ≤ 1000) (r86 : ByteArray) (hr86 : r86.size ≤ 1000) (r96 : Int), F 18 (lstB 70 [0, 1, 2, 3, 4, 5, 6, 7, 8, 9, 10, 11, 12, 13, 14, 15, 16, 17, 18, 19, 20, 21, 22, 23, 24, 25, 26, 27, 28, 29, 30, 31, 32, 33, 34, 35, 36, 37, 38, 39, 40, 41, 42, 43, 44, 45, 46, 48, 49, 50, 51, 52]) ⟨[(0, sp p), (2, (pA g2 (0))), (3, (pA g3 (0))), (65, sp p), (76, sp p), (87, sp p), (97, sp p), (108, sp p), (60, (pA gr (0 + m * 5))), (69, avS (xA l m).name), (73, avS (xA l m).name), (80, avS (xA l m).part), (84, avS (xA l m).part), (91, avI (xA l m).x), (94, avI (r9 + 1)), (101, avI (xA l m).y), (105, avI (xA l m).y), (112, avI (xA l m).quarter), (61, (pA gr (0 + m * 5))), (62, (pA gr (0 + m * 5))), (63, (pA gr (0 + m * 5))), (64, (pA gr (0 + m * 5))), (74, (iA 4 [avS (xA l m).name, avS (xA l m).name, avS ⟨#[]⟩, avS ⟨#[99, 49]⟩])), (75, avS r75), (85, (iA 3 [avS (xA l m).part, avS (xA l m).part, avS ⟨#[]⟩])), (86, avS r86), (95, (iA 3 [avI (xA l m).x, avI (-1), avI (r9 + 1)])), (96, avI r96), (106, (iA 4 [avI (xA l m).y, avI (xA l m).y, avI (-1), avI 4611686018427387904]))], [(bA g2), .box g3 ⟨[avS ⟨#[112]⟩, avI r9, avI r12, .v (.slice (some ⟨gr, 0, none⟩) l.length c)], 65, 4⟩, .box gr ⟨rowL l, 128, c * 5⟩], k + 3 + 5 * q + 1 + 1 + 1 + 1 + 1 + 1⟩ := by
            intro r75 hr75 r86 hr86 r96
            rw [hF]
            refine VA.all (rs := [47, 53]) (by decide +kernel) (by decide) ?_
            refine ⟨⟨_, rfl, .inl rfl, ?_⟩, ⟨_, rfl, .inl rfl, ?_⟩, trivial⟩
            ·
              refine OpE.callT' (k + 3 + 5 * q + 1 + 1 + 1 + 1 + 1 + 1) rfl rfl hB rfl Tryz.call11 rfl (pick_X (by rfl) (by decide) (by decide) (by repeat (first | exact AllX.nil | refine AllX.cons ?_))) (by omega) ?_
              rintro _ ⟨r107, rfl⟩
              have hh := hS2 r75 hr75 r86 hr86 r96 r107
              rw [hF] at hh
              exact VA.to hh (by decide +kernel) (Le.mk hB [0, 1, 2] ⟨rfl, rfl, rfl, rfl, rfl, rfl, rfl, rfl, rfl, rfl, rfl, rfl, rfl, rfl, rfl, rfl, rfl, rfl, rfl, rfl, rfl, rfl, rfl, rfl, rfl, rfl, rfl, rfl, rfl, rfl, trivial⟩ rfl rfl (Nat.le_refl _))
            ·
              refine OpE.buildSlice (zc := #[.int .i64 0, .int .i64 0, .int .i64 0]) rfl hB rfl Tryz.underlying22 Tryz.sizeOf3 Tryz.zeroValue3 (by decide) (by decide) (by kernel_rfl) rfl rfl ?_
              have hh := hS3 r75 hr75 r86 hr86 r96
              rw [hF] at hh
              exact VA.to hh (by decide +kernel) (Le.mk hB [0, 1, 2] ⟨rfl, rfl, rfl, rfl, rfl, rfl, rfl, rfl, rfl, rfl, rfl, rfl, rfl, rfl, rfl, rfl, rfl, rfl, rfl, rfl, rfl, rfl, rfl, rfl, rfl, rfl, rfl, rfl, rfl, rfl, trivial⟩ rfl rfl (Nat.le_refl _))
          have hS5 : ∀ (r75 : ByteArray) (hr75 : r75.size ≤ 1000) (r86 : ByteArray) (hr86 : r86.size ≤ 1000) (r96 : Int), F 18 (lstB 70 [0, 1, 2, 3, 4, 5, 6, 7, 8, 9, 10, 11, 12, 13, 14, 15, 16, 17, 18, 19, 20, 21, 22, 23, 24, 25, 26, 27, 28, 29, 30, 31, 32, 33, 34, 35, 36, 37, 38, 39, 40, 41, 42, 43, 44, 45, 48, 49, 50, 51, 52, 53]) ⟨[(0, sp p), (2, (pA g2 (0))), (3, (pA g3 (0))), (65, sp p), (76, sp p), (87, sp p), (97, sp p), (108, sp p), (60, (pA gr (0 + m * 5))), (69, avS (xA l m).name), (73, avS (xA l m).name), (80, avS (xA l m).part), (84, avS (xA l m).part), (91, avI (xA l m).x), (94, avI (r9 + 1)), (101, avI (xA l m).y), (105, avI (xA l m).y), (112, avI (xA l m).quarter), (61, (pA gr (0 + m * 5))), (62, (pA gr (0 + m * 5))), (63, (pA gr (0 + m * 5))), (64, (pA gr (0 + m * 5))), (74, (iA 4 [avS (xA l m).name, avS (xA l m).name, avS ⟨#[]⟩, avS ⟨#[99, 49]⟩])), (75, avS r75), (85, (iA 3 [avS (xA l m).part, avS (xA l m).part, avS ⟨#[]⟩])), (86, avS r86), (95, (iA 3 [avI (xA l m).x, avI (-1), avI (r9 + 1)])), (96, avI r96), (113, (iA 3 [avI (xA l m).quarter, avI 4, avI (-1)]))], [(bA g2), .box g3 ⟨[avS ⟨#[112]⟩, avI r9, avI r12, .v (.slice (some ⟨gr, 0, none⟩) l.length c)], 65, 4⟩, .box gr ⟨rowL l, 128, c * 5⟩], k + 3 + 5 * q + 1 + 1 + 1 + 1 + 1 + 1⟩ := by
            intro r75 hr75 r86 hr86 r96
            rw [hF]
            refine VA.all (rs := [46]) (by decide +kernel) (by decide) ?_
            refine ⟨⟨_, rfl, .inl rfl, ?_⟩, trivial⟩
            refine OpE.buildSlice (zc := #[.int .i64 0, .int .i64 0, .int .i64 0, .int .i64 0]) rfl hB rfl Tryz.underlying22 Tryz.sizeOf3 Tryz.zeroValue3 (by decide) (by decide) (by kernel_rfl) rfl rfl ?_
            have hh := hS3 r75 hr75 r86 hr86 r96
            rw [hF] at hh
            exact VA.to hh (by decide +kernel) (Le.mk hB [0, 1, 2] ⟨rfl, rfl, rfl, rfl, rfl, rfl, rfl, rfl, rfl, rfl, rfl, rfl, rfl, rfl, rfl, rfl, rfl, rfl, rfl, rfl, rfl, rfl, rfl, rfl, rfl, rfl, rfl, rfl, rfl, rfl, trivial⟩ rfl rfl (Nat.le_refl _))
          have hS6 : ∀ (r75 : ByteArray) (hr75 : r75.size ≤ 1000) (r86 : ByteArray) (hr86 : r86.size ≤ 1000), F 18 (lstB 70 [0, 1, 2, 3, 4, 5, 6, 7, 8, 9, 10, 11, 12, 13, 14, 15, 16, 17, 18, 19, 20, 21, 22, 23, 24, 25, 26, 27, 28, 29, 30, 31, 32, 33, 34, 35, 37, 38, 39, 40, 41, 42, 43, 44, 45, 46, 48, 49, 50, 51, 52, 53]) ⟨[(0, sp p), (2, (pA g2 (0))), (3, (pA g3 (0))), (65, sp p), (76, sp p), (87, sp p), (97, sp p), (108, sp p), (60, (pA gr (0 + m * 5))), (69, avS (xA l m).name), (73, avS (xA l m).name), (80, avS (xA l m).part), (84, avS (xA l m).part), (91, avI (xA l m).x), (94, avI (r9 + 1)), (101, avI (xA l m).y), (105, avI (xA l m).y), (112, avI (xA l m).quarter), (61, (pA gr (0 + m * 5))), (62, (pA gr (0 + m * 5))), (63, (pA gr (0 + m * 5))), (64, (pA gr (0 + m * 5))), (74, (iA 4 [avS (xA l m).name, avS (xA l m).name, avS ⟨#[]⟩, avS ⟨#[99, 49]⟩])), (75, avS r75), (85, (iA 3 [avS (xA l m).part, avS (xA l m).part, avS ⟨#[]⟩])), (86, avS r86), (95, (iA 3 [avI (xA l m).x, avI (-1), avI (r9 + 1)])), (106, (iA 4 [avI (xA l m).y, avI (xA l m).y, avI (-1), avI 4611686018427387904])), (113, (iA 3 [avI (xA l m).quarter, avI 4, avI (-1)]))], [(bA g2), .box g3 ⟨[avS ⟨#[112]⟩, avI r9, avI r12, .v (.slice (some ⟨gr, 0, none⟩) l.length c)], 65, 4⟩, .box gr ⟨rowL l, 128, c * 5⟩], k + 3 + 5 * q + 1 + 1 + 1 + 1 + 1⟩ := by
            intro r75 hr75 r86 hr86
            rw [hF]
            refine VA.all (rs := [36]) (by decide +kernel) (by decide) ?_
            refine ⟨⟨_, rfl, .inl rfl, ?_⟩, trivial⟩
            refine OpE.callT' (k + 3 + 5 * q + 1 + 1 + 1 + 1 + 1) rfl rfl hB rfl Tryz.call11 rfl (pick_X (by rfl) (by decide) (by decide) (by repeat (first | exact AllX.nil | refine AllX.cons ?_))) (by omega) ?_
            rintro _ ⟨r96, rfl⟩
            have hh := hS3 r75 hr75 r86 hr86 r96
            rw [hF] at hh
            exact VA.to hh (by decide +kernel) (Le.mk hB [0, 1, 2] ⟨rfl, rfl, rfl, rfl, rfl, rfl, rfl, rfl, rfl, rfl, rfl, rfl, rfl, rfl, rfl, rfl, rfl, rfl, rfl, rfl, rfl, rfl, rfl, rfl, rfl, rfl, rfl, rfl, rfl, rfl, trivial⟩ rfl rfl (Nat.le_refl _))
          have hS7 : ∀ (r75 : ByteArray) (hr75 : r75.size ≤ 1000) (r86 : ByteArray) (hr86 : r86.size ≤ 1000) (r96 : Int), F 19 (lstB 70 [0, 1, 2, 3, 4, 5, 6, 7, 8, 9, 10, 11, 12, 13, 14, 15, 16, 17, 18, 19, 20, 21, 22, 23, 24, 25, 26, 27, 28, 29, 30, 31, 32, 33, 34, 35, 36, 37, 38, 39, 40, 41, 42, 43, 44, 45, 48, 49, 50, 51, 52]) ⟨[(0, sp p), (2, (pA g2 (0))), (3, (pA g3 (0))), (65, sp p), (76, sp p), (87, sp p), (97, sp p), (108, sp p), (60, (pA gr (0 + m * 5))), (69, avS (xA l m).name), (73, avS (xA l m).name), (80, avS (xA l m).part), (84, avS (xA l m).part), (91, avI (xA l m).x), (94, avI (r9 + 1)), (101, avI (xA l m).y), (105, avI (xA l m).y), (112, avI (xA l m).quarter), (61, (pA gr (0 + m * 5))), (62, (pA gr (0 + m * 5))), (63, (pA gr (0 + m * 5))), (64, (pA gr (0 + m * 5))), (74, (iA 4 [avS (xA l m).name, avS (xA l m).name, avS ⟨#[]⟩, avS ⟨#[99, 49]⟩])), (75, avS r75), (85, (iA 3 [avS (xA l m).part, avS (xA l m).part, avS ⟨#[]⟩])), (86, avS r86), (95, (iA 3 [avI (xA l m).x, avI (-1), avI (r9 + 1)])), (96, avI r96)], [(bA g2), .box g3 ⟨[avS ⟨#[112]⟩, avI r9, avI r12, .v (.slice (some ⟨gr, 0, none⟩) l.length c)], 65, 4⟩, .box gr ⟨rowL l, 128, c * 5⟩], k + 3 + 5 * q + 1 + 1 + 1 + 1 + 1 + 1⟩ := by
            intro r75 hr75 r86 hr86 r96
            rw [hF]
            refine VA.all (rs := [46, 53]) (by decide +kernel) (by decide) ?_
            refine ⟨⟨_, rfl, .inl rfl, ?_⟩, ⟨_, rfl, .inl rfl, ?_⟩, trivial⟩
            ·
              refine OpE.buildSlice (zc := #[.int .i64 0, .int .i64 0, .int .i64 0, .int .i64 0]) rfl hB rfl Tryz.underlying22 Tryz.sizeOf3 Tryz.zeroValue3 (by decide) (by decide) (by kernel_rfl) rfl rfl ?_
              have hh := hS4 r75 hr75 r86 hr86 r96
              rw [hF] at hh
              exact VA.to hh (by decide +kernel) (Le.mk hB [0, 1, 2] ⟨rfl, rfl, rfl, rfl, rfl, rfl, rfl, rfl, rfl, rfl, rfl, rfl, rfl, rfl, rfl, rfl, rfl, rfl, rfl, rfl, rfl, rfl, rfl, rfl, rfl, rfl, rfl, rfl, rfl, trivial⟩ rfl rfl (Nat.le_refl _))
            ·
              refine OpE.buildSlice (zc := #[.int .i64 0, .int .i64 0, .int .i64 0]) rfl hB rfl Tryz.underlying22 Tryz.sizeOf3 Tryz.zeroValue3 (by decide) (by decide) (by kernel_rfl) rfl rfl ?_
              have hh := hS5 r75 hr75 r86 hr86 r96
              rw [hF] at hh
              exact VA.to hh (by decide +kernel) (Le.mk hB [0, 1, 2] ⟨rfl, rfl, rfl, rfl, rfl, rfl, rfl, rfl, rfl, rfl, rfl, rfl, rfl, rfl, rfl, rfl, rfl, rfl, rfl, rfl, rfl, rfl, rfl, rfl, rfl, rfl, rfl, rfl, rfl, trivial⟩ rfl rfl (Nat.le_refl _))
          have hS8 : ∀ (r75 : ByteArray) (hr75 : r75.size ≤ 1000) (r86 : ByteArray) (hr86 : r86.size ≤ 1000), F 19 (lstB 70 [0, 1, 2, 3, 4, 5, 6, 7, 8, 9, 10, 11, 12, 13, 14, 15, 16, 17, 18, 19, 20, 21, 22, 23, 24, 25, 26, 27, 28, 29, 30, 31, 32, 33, 34, 35, 37, 38, 39, 40, 41, 42, 43, 44, 45, 46, 48, 49, 50, 51, 52]) ⟨[(0, sp p), (2, (pA g2 (0))), (3, (pA g3 (0))), (65, sp p), (76, sp p), (87, sp p), (97, sp p), (108, sp p), (60, (pA gr (0 + m * 5))), (69, avS (xA l m).name), (73, avS (xA l m).name), (80, avS (xA l m).part), (84, avS (xA l m).part), (91, avI (xA l m).x), (94, avI (r9 + 1)), (101, avI (xA l m).y), (105, avI (xA l m).y), (112, avI (xA l m).quarter), (61, (pA gr (0 + m * 5))), (62, (pA gr (0 + m * 5))), (63, (pA gr (0 + m * 5))), (64, (pA gr (0 + m * 5))), (74, (iA 4 [avS (xA l m).name, avS (xA l m).name, avS ⟨#[]⟩, avS ⟨#[99, 49]⟩])), (75, avS r75), (85, (iA 3 [avS (xA l m).part, avS (xA l m).part, avS ⟨#[]⟩])), (86, avS r86), (95, (iA 3 [avI (xA l m).x, avI (-1), avI (r9 + 1)])), (106, (iA 4 [avI (xA l m).y, avI (xA l m).y, avI (-1), avI 4611686018427387904]))], [(bA g2), .box g3 ⟨[avS ⟨#[112]⟩, avI r9, avI r12, .v (.slice (some ⟨gr, 0, none⟩) l.length c)], 65, 4⟩, .box gr ⟨rowL l, 128, c * 5⟩], k + 3 + 5 * q + 1 + 1 + 1 + 1 + 1⟩ := by
            intro r75 hr75 r86 hr86
            rw [hF]
            refine VA.all (rs := [36, 53]) (by decide +kernel) (by decide) ?_
            refine ⟨⟨_, rfl, .inl rfl, ?_⟩, ⟨_, rfl, .inl rfl, ?_⟩, trivial⟩
            ·
              refine OpE.callT' (k + 3 + 5 * q + 1 + 1 + 1 + 1 + 1) rfl rfl hB rfl Tryz.call11 rfl (pick_X (by rfl) (by decide) (by decide) (by repeat (first | exact AllX.nil | refine AllX.cons ?_))) (by omega) ?_
              rintro _ ⟨r96, rfl⟩
              have hh := hS4 r75 hr75 r86 hr86 r96
              rw [hF] at hh
              exact VA.to hh (by decide +kernel) (Le.mk hB [0, 1, 2] ⟨rfl, rfl, rfl, rfl, rfl, rfl, rfl, rfl, rfl, rfl, rfl, rfl, rfl, rfl, rfl, rfl, rfl, rfl, rfl, rfl, rfl, rfl, rfl, rfl, rfl, rfl, rfl, rfl, rfl, trivial⟩ rfl rfl (Nat.le_refl _))
            ·
              refine OpE.buildSlice (zc := #[.int .i64 0, .int .i64 0, .int .i64 0]) rfl hB rfl Tryz.underlying22 Tryz.sizeOf3 Tryz.zeroValue3 (by decide) (by decide) (by kernel_rfl) rfl rfl ?_
              have hh := hS6 r75 hr75 r86 hr86
              rw [hF] at hh
              exact VA.to hh (by decide +kernel) (Le.mk hB [0, 1, 2] ⟨rfl, rfl, rfl, rfl, rfl, rfl, rfl, rfl, rfl, rfl, rfl, rfl, rfl, rfl, rfl, rfl, rfl, rfl, rfl, rfl, rfl, rfl, rfl, rfl, rfl, rfl, rfl, rfl, rfl, trivial⟩ rfl rfl (Nat.le_refl _))
          have hS9 : ∀ (r75 : ByteArray) (hr75 : r75.size ≤ 1000) (r86 : ByteArray) (hr86 : r86.size ≤ 1000), F 19 (lstB 70 [0, 1, 2, 3, 4, 5, 6, 7, 8, 9, 10, 11, 12, 13, 14, 15, 16, 17, 18, 19, 20, 21, 22, 23, 24, 25, 26, 27, 28, 29, 30, 31, 32, 33, 34, 35, 37, 38, 39, 40, 41, 42, 43, 44, 45, 48, 49, 50, 51, 52, 53]) ⟨[(0, sp p), (2, (pA g2 (0))), (3, (pA g3 (0))), (65, sp p), (76, sp p), (87, sp p), (97, sp p), (108, sp p), (60, (pA gr (0 + m * 5))), (69, avS (xA l m).name), (73, avS (xA l m).name), (80, avS (xA l m).part), (84, avS (xA l m).part), (91, avI (xA l m).x), (94, avI (r9 + 1)), (101, avI (xA l m).y), (105, avI (xA l m).y), (112, avI (xA l m).quarter), (61, (pA gr (0 + m * 5))), (62, (pA gr (0 + m * 5))), (63, (pA gr (0 + m * 5))), (64, (pA gr (0 + m * 5))), (74, (iA 4 [avS (xA l m).name, avS (xA l m).name, avS ⟨#[]⟩, avS ⟨#[99, 49]⟩])), (75, avS r75), (85, (iA 3 [avS (xA l m).part, avS (xA l m).part, avS ⟨#[]⟩])), (86, avS r86), (95, (iA 3 [avI (xA l m).x, avI (-1), avI (r9 + 1)])), (113, (iA 3 [avI (xA l m).quarter, avI 4, avI (-1)]))], [(bA g2), .box g3 ⟨[avS ⟨#[112]⟩, avI r9, avI r12, .v (.slice (some ⟨gr, 0, none⟩) l.length c)], 65, 4⟩, .box gr ⟨rowL l, 128, c * 5⟩], k + 3 + 5 * q + 1 + 1 + 1 + 1 + 1⟩ := by
            intro r75 hr75 r86 hr86
            rw [hF]
            refine VA.all (rs := [36, 46]) (by decide +kernel) (by decide) ?_
            refine ⟨⟨_, rfl, .inl rfl, ?_⟩, ⟨_, rfl, .inl rfl, ?_⟩, trivial⟩
            ·
              refine OpE.callT' (k + 3 + 5 * q + 1 + 1 + 1 + 1 + 1) rfl rfl hB rfl Tryz.call11 rfl (pick_X (by rfl) (by decide) (by decide) (by repeat (first | exact AllX.nil | refine AllX.cons ?_))) (by omega) ?_
              rintro _ ⟨r96, rfl⟩
              have hh := hS5 r75 hr75 r86 hr86 r96
              rw [hF] at hh
              exact VA.to hh (by decide +kernel) (Le.mk hB [0, 1, 2] ⟨rfl, rfl, rfl, rfl, rfl, rfl, rfl, rfl, rfl, rfl, rfl, rfl, rfl, rfl, rfl, rfl, rfl, rfl, rfl, rfl, rfl, rfl, rfl, rfl, rfl, rfl, rfl, rfl, rfl, trivial⟩ rfl rfl (Nat.le_refl _))
            ·
              refine OpE.buildSlice (zc := #[.int .i64 0, .int .i64 0, .int .i64 0, .int .i64 0]) rfl hB rfl Tryz.underlying22 Tryz.sizeOf3 Tryz.zeroValue3 (by decide) (by decide) (by kernel_rfl) rfl rfl ?_
              have hh := hS6 r75 hr75 r86 hr86
              rw [hF] at hh
              exact VA.to hh (by decide +kernel) (Le.mk hB [0, 1, 2] ⟨rfl, rfl, rfl, rfl, rfl, rfl, rfl, rfl, rfl, rfl, rfl, rfl, rfl, rfl, rfl, rfl, rfl, rfl, rfl, rfl, rfl, rfl, rfl, rfl, rfl, rfl, rfl, rfl, rfl, trivial⟩ rfl rfl (Nat.le_refl _))
          have hS10 : ∀ (r75 : ByteArray) (hr75 : r75.size ≤ 1000) (r86 : ByteArray) (hr86 : r86.size ≤ 1000), F 19 (lstB 70 [0, 1, 2, 3, 4, 5, 6, 7, 8, 9, 10, 11, 12, 13, 14, 15, 16, 17, 18, 19, 20, 21, 22, 23, 24, 25, 26, 27, 28, 29, 30, 31, 32, 33, 34, 37, 38, 39, 40, 41, 42, 43, 44, 45, 46, 48, 49, 50, 51, 52, 53]) ⟨[(0, sp p), (2, (pA g2 (0))), (3, (pA g3 (0))), (65, sp p), (76, sp p), (87, sp p), (97, sp p), (108, sp p), (60, (pA gr (0 + m * 5))), (69, avS (xA l m).name), (73, avS (xA l m).name), (80, avS (xA l m).part), (84, avS (xA l m).part), (91, avI (xA l m).x), (94, avI (r9 + 1)), (101, avI (xA l m).y), (105, avI (xA l m).y), (112, avI (xA l m).quarter), (61, (pA gr (0 + m * 5))), (62, (pA gr (0 + m * 5))), (63, (pA gr (0 + m * 5))), (64, (pA gr (0 + m * 5))), (74, (iA 4 [avS (xA l m).name, avS (xA l m).name, avS ⟨#[]⟩, avS ⟨#[99, 49]⟩])), (75, avS r75), (85, (iA 3 [avS (xA l m).part, avS (xA l m).part, avS ⟨#[]⟩])), (86, avS r86), (106, (iA 4 [avI (xA l m).y, avI (xA l m).y, avI (-1), avI 4611686018427387904])), (113, (iA 3 [avI (xA l m).quarter, avI 4, avI (-1)]))], [(bA g2), .box g3 ⟨[avS ⟨#[112]⟩, avI r9, avI r12, .v (.slice (some ⟨gr, 0, none⟩) l.length c)], 65, 4⟩, .box gr ⟨rowL l, 128, c * 5⟩], k + 3 + 5 * q + 1 + 1 + 1 + 1 + 1⟩ := by
            intro r75 hr75 r86 hr86
            rw [hF]
            refine VA.all (rs := [35]) (by decide +kernel) (by decide) ?_
            refine ⟨⟨_, rfl, .inl rfl, ?_⟩, trivial⟩
            refine OpE.buildSlice (zc := #[.int .i64 0, .int .i64 0, .int .i64 0]) rfl hB rfl Tryz.underlying22 Tryz.sizeOf3 Tryz.zeroValue3 (by decide) (by decide) (by kernel_rfl) rfl rfl ?_
            have hh := hS6 r75 hr75 r86 hr86
            rw [hF] at hh
            exact VA.to hh (by decide +kernel) (Le.mk hB [0, 1, 2] ⟨rfl, rfl, rfl, rfl, rfl, rfl, rfl, rfl, rfl, rfl, rfl, rfl, rfl, rfl, rfl, rfl, rfl, rfl, rfl, rfl, rfl, rfl, rfl, rfl, rfl, rfl, rfl, rfl, rfl, trivial⟩ rfl rfl (Nat.le_refl _))
          have hS11 : ∀ (r75 : ByteArray) (hr75 : r75.size ≤ 1000), F 19 (lstB 70 [0, 1, 2, 3, 4, 5, 6, 7, 8, 9, 10, 11, 12, 13, 14, 15, 16, 17, 18, 19, 20, 21, 22, 23, 24, 25, 27, 28, 29, 30, 31, 32, 33, 34, 35, 37, 38, 39, 40, 41, 42, 43, 44, 45, 46, 48, 49, 50, 51, 52, 53]) ⟨[(0, sp p), (2, (pA g2 (0))), (3, (pA g3 (0))), (65, sp p), (76, sp p), (87, sp p), (97, sp p), (108, sp p), (60, (pA gr (0 + m * 5))), (69, avS (xA l m).name), (73, avS (xA l m).name), (80, avS (xA l m).part), (84, avS (xA l m).part), (91, avI (xA l m).x), (94, avI (r9 + 1)), (101, avI (xA l m).y), (105, avI (xA l m).y), (112, avI (xA l m).quarter), (61, (pA gr (0 + m * 5))), (62, (pA gr (0 + m * 5))), (63, (pA gr (0 + m * 5))), (64, (pA gr (0 + m * 5))), (74, (iA 4 [avS (xA l m).name, avS (xA l m).name, avS ⟨#[]⟩, avS ⟨#[99, 49]⟩])), (75, avS r75), (85, (iA 3 [avS (xA l m).part, avS (xA l m).part, avS ⟨#[]⟩])), (95, (iA 3 [avI (xA l m).x, avI (-1), avI (r9 + 1)])), (106, (iA 4 [avI (xA l m).y, avI (xA l m).y, avI (-1), avI 4611686018427387904])), (113, (iA 3 [avI (xA l m).quarter, avI 4, avI (-1)]))], [(bA g2), .box g3 ⟨[avS ⟨#[112]⟩, avI r9, avI r12, .v (.slice (some ⟨gr, 0, none⟩) l.length c)], 65, 4⟩, .box gr ⟨rowL l, 128, c * 5⟩], k + 3 + 5 * q + 1 + 1 + 1 + 1⟩ := by
            intro r75 hr75
            rw [hF]
            refine VA.all (rs := [26]) (by decide +kernel) (by decide) ?_
            refine ⟨⟨_, rfl, .inl rfl, ?_⟩, trivial⟩
            refine OpE.callT' (k + 3 + 5 * q + 1 + 1 + 1 + 1) rfl rfl hB rfl Tryz.call53 rfl (some_T 1000 (by rfl) (by decide) (by decide) (AllS.cons (hok.getD m).2 (AllS.cons (hok.getD m).2 (AllS.cons (by decide) AllS.nil)))) (by omega) ?_
            rintro _ ⟨r86, hr86, rfl⟩
            have hh := hS6 r75 hr75 r86 hr86
            rw [hF] at hh
            exact VA.to hh (by decide +kernel) (Le.mk hB [0, 1, 2] ⟨rfl, rfl, rfl, rfl, rfl, rfl, rfl, rfl, rfl, rfl, rfl, rfl, rfl, rfl, rfl, rfl, rfl, rfl, rfl, rfl, rfl, rfl, rfl, rfl, rfl, rfl, rfl, rfl, rfl, trivial⟩ rfl rfl (Nat.le_refl _))
          have hS12 : ∀ (r75 : ByteArray) (hr75 : r75.size ≤ 1000) (r86 : ByteArray) (hr86 : r86.size ≤ 1000), F 20 (lstB 70 [0, 1, 2, 3, 4, 5, 6, 7, 8, 9, 10, 11, 12, 13, 14, 15, 16, 17, 18, 19, 20, 21, 22, 23, 24, 25, 26, 27, 28, 29, 30, 31, 32, 33, 34, 35, 37, 38, 39, 40, 41, 42, 43, 44, 45, 48, 49, 50, 51, 52]) ⟨[(0, sp p), (2, (pA g2 (0))), (3, (pA g3 (0))), (65, sp p), (76, sp p), (87, sp p), (97, sp p), (108, sp p), (60, (pA gr (0 + m * 5))), (69, avS (xA l m).name), (73, avS (xA l m).name), (80, avS (xA l m).part), (84, avS (xA l m).part), (91, avI (xA l m).x), (94, avI (r9 + 1)), (101, avI (xA l m).y), (105, avI (xA l m).y), (112, avI (xA l m).quarter), (61, (pA gr (0 + m * 5))), (62, (pA gr (0 + m * 5))), (63, (pA gr (0 + m * 5))), (64, (pA gr (0 + m * 5))), (74, (iA 4 [avS (xA l m).name, avS (xA l m).name, avS ⟨#[]⟩, avS ⟨#[99, 49]⟩])), (75, avS r75), (85, (iA 3 [avS (xA l m).part, avS (xA l m).part, avS ⟨#[]⟩])), (86, avS r86), (95, (iA 3 [avI (xA l m).x, avI (-1), avI (r9 + 1)]))], [(bA g2), .box g3 ⟨[avS ⟨#[112]⟩, avI r9, avI r12, .v (.slice (some ⟨gr, 0, none⟩) l.length c)], 65, 4⟩, .box gr ⟨rowL l, 128, c * 5⟩], k + 3 + 5 * q + 1 + 1 + 1 + 1 + 1⟩ := by
            intro r75 hr75 r86 hr86
            rw [hF]
            refine VA.all (rs := [36, 46, 53]) (by decide +kernel) (by decide) ?_
            refine ⟨⟨_, rfl, .inl rfl, ?_⟩, ⟨_, rfl, .inl rfl, ?_⟩, ⟨_, rfl, .inl rfl, ?_⟩, trivial⟩
            ·
              refine OpE.callT' (k + 3 + 5 * q + 1 + 1 + 1 + 1 + 1) rfl rfl hB rfl Tryz.call11 rfl (pick_X (by rfl) (by decide) (by decide) (by repeat (first | exact AllX.nil | refine AllX.cons ?_))) (by omega) ?_
              rintro _ ⟨r96, rfl⟩
              have hh := hS7 r75 hr75 r86 hr86 r96
              rw [hF] at hh
              exact VA.to hh (by decide +kernel) (Le.mk hB [0, 1, 2] ⟨rfl, rfl, rfl, rfl, rfl, rfl, rfl, rfl, rfl, rfl, rfl, rfl, rfl, rfl, rfl, rfl, rfl, rfl, rfl, rfl, rfl, rfl, rfl, rfl, rfl, rfl, rfl, rfl, trivial⟩ rfl rfl (Nat.le_refl _))
            ·
              refine OpE.buildSlice (zc := #[.int .i64 0, .int .i64 0, .int .i64 0, .int .i64 0]) rfl hB rfl Tryz.underlying22 Tryz.sizeOf3 Tryz.zeroValue3 (by decide) (by decide) (by kernel_rfl) rfl rfl ?_
              have hh := hS8 r75 hr75 r86 hr86
              rw [hF] at hh
              exact VA.to hh (by decide +kernel) (Le.mk hB [0, 1, 2] ⟨rfl, rfl, rfl, rfl, rfl, rfl, rfl, rfl, rfl, rfl, rfl, rfl, rfl, rfl, rfl, rfl, rfl, rfl, rfl, rfl, rfl, rfl, rfl, rfl, rfl, rfl, rfl, rfl, trivial⟩ rfl rfl (Nat.le_refl _))
            ·
              refine OpE.buildSlice (zc := #[.int .i64 0, .int .i64 0, .int .i64 0]) rfl hB rfl Tryz.underlying22 Tryz.sizeOf3 Tryz.zeroValue3 (by decide) (by decide) (by kernel_rfl) rfl rfl ?_
              have hh := hS9 r75 hr75 r86 hr86
              rw [hF] at hh
              exact VA.to hh (by decide +kernel) (Le.mk hB [0, 1, 2] ⟨rfl, rfl, rfl, rfl, rfl, rfl, rfl, rfl, rfl, rfl, rfl, rfl, rfl, rfl, rfl, rfl, rfl, rfl, rfl, rfl, rfl, rfl, rfl, rfl, rfl, rfl, rfl, rfl, trivial⟩ rfl rfl (Nat.le_refl _))
          have hS13 : ∀ (r75 : ByteArray) (hr75 : r75.size ≤ 1000) (r86 : ByteArray) (hr86 : r86.size ≤ 1000), F 20 (lstB 70 [0, 1, 2, 3, 4, 5, 6, 7, 8, 9, 10, 11, 12, 13, 14, 15, 16, 17, 18, 19, 20, 21, 22, 23, 24, 25, 26, 27, 28, 29, 30, 31, 32, 33, 34, 37, 38, 39, 40, 41, 42, 43, 44, 45, 46, 48, 49, 50, 51, 52]) ⟨[(0, sp p), (2, (pA g2 (0))), (3, (pA g3 (0))), (65, sp p), (76, sp p), (87, sp p), (97, sp p), (108, sp p), (60, (pA gr (0 + m * 5))), (69, avS (xA l m).name), (73, avS (xA l m).name), (80, avS (xA l m).part), (84, avS (xA l m).part), (91, avI (xA l m).x), (94, avI (r9 + 1)), (101, avI (xA l m).y), (105, avI (xA l m).y), (112, avI (xA l m).quarter), (61, (pA gr (0 + m * 5))), (62, (pA gr (0 + m * 5))), (63, (pA gr (0 + m * 5))), (64, (pA gr (0 + m * 5))), (74, (iA 4 [avS (xA l m).name, avS (xA l m).name, avS ⟨#[]⟩, avS ⟨#[99, 49]⟩])), (75, avS r75), (85, (iA 3 [avS (xA l m).part, avS (xA l m).part, avS ⟨#[]⟩])), (86, avS r86), (106, (iA 4 [avI (xA l m).y, avI (xA l m).y, avI (-1), avI 4611686018427387904]))], [(bA g2), .box g3 ⟨[avS ⟨#[112]⟩, avI r9, avI r12, .v (.slice (some ⟨gr, 0, none⟩) l.length c)], 65, 4⟩, .box gr ⟨rowL l, 128, c * 5⟩], k + 3 + 5 * q + 1 + 1 + 1 + 1 + 1⟩ := by
            intro r75 hr75 r86 hr86
            rw [hF]
            refine VA.all (rs := [35, 53]) (by decide +kernel) (by decide) ?_
            refine ⟨⟨_, rfl, .inl rfl, ?_⟩, ⟨_, rfl, .inl rfl, ?_⟩, trivial⟩
            ·
              refine OpE.buildSlice (zc := #[.int .i64 0, .int .i64 0, .int .i64 0]) rfl hB rfl Tryz.underlying22 Tryz.sizeOf3 Tryz.zeroValue3 (by decide) (by decide) (by kernel_rfl) rfl rfl ?_
              have hh := hS8 r75 hr75 r86 hr86
              rw [hF] at hh
              exact VA.to hh (by decide +kernel) (Le.mk hB [0, 1, 2] ⟨rfl, rfl, rfl, rfl, rfl, rfl, rfl, rfl, rfl, rfl, rfl, rfl, rfl, rfl, rfl, rfl, rfl, rfl, rfl, rfl, rfl, rfl, rfl, rfl, rfl, rfl, rfl, rfl, trivial⟩ rfl rfl (Nat.le_refl _))
            ·
              refine OpE.buildSlice (zc := #[.int .i64 0, .int .i64 0, .int .i64 0]) rfl hB rfl Tryz.underlying22 Tryz.sizeOf3 Tryz.zeroValue3 (by decide) (by decide) (by kernel_rfl) rfl rfl ?_
              have hh := hS10 r75 hr75 r86 hr86
              rw [hF] at hh
              exact VA.to hh (by decide +kernel) (Le.mk hB [0, 1, 2] ⟨rfl, rfl, rfl, rfl, rfl, rfl, rfl, rfl, rfl, rfl, rfl, rfl, rfl, rfl, rfl, rfl, rfl, rfl, rfl, rfl, rfl, rfl, rfl, rfl, rfl, rfl, rfl, rfl, trivial⟩ rfl rfl (Nat.le_refl _))
          have hS14 : ∀ (r75 : ByteArray) (hr75 : r75.size ≤ 1000) (r86 : ByteArray) (hr86 : r86.size ≤ 1000), F 20 (lstB 70 [0, 1, 2, 3, 4, 5, 6, 7, 8, 9, 10, 11, 12, 13, 14, 15, 16, 17, 18, 19, 20, 21, 22, 23, 24, 25, 26, 27, 28, 29, 30, 31, 32, 33, 34, 37, 38, 39, 40, 41, 42, 43, 44, 45, 48, 49, 50, 51, 52, 53]) ⟨[(0, sp p), (2, (pA g2 (0))), (3, (pA g3 (0))), (65, sp p), (76, sp p), (87, sp p), (97, sp p), (108, sp p), (60, (pA gr (0 + m * 5))), (69, avS (xA l m).name), (73, avS (xA l m).name), (80, avS (xA l m).part), (84, avS (xA l m).part), (91, avI (xA l m).x), (94, avI (r9 + 1)), (101, avI (xA l m).y), (105, avI (xA l m).y), (112, avI (xA l m).quarter), (61, (pA gr (0 + m * 5))), (62, (pA gr (0 + m * 5))), (63, (pA gr (0 + m * 5))), (64, (pA gr (0 + m * 5))), (74, (iA 4 [avS (xA l m).name, avS (xA l m).name, avS ⟨#[]⟩, avS ⟨#[99, 49]⟩])), (75, avS r75), (85, (iA 3 [avS (xA l m).part, avS (xA l m).part, avS ⟨#[]⟩])), (86, avS r86), (113, (iA 3 [avI (xA l m).quarter, avI 4, avI (-1)]))], [(bA g2), .box g3 ⟨[avS ⟨#[112]⟩, avI r9, avI r12, .v (.slice (some ⟨gr, 0, none⟩) l.length c)], 65, 4⟩, .box gr ⟨rowL l, 128, c * 5⟩], k + 3 + 5 * q + 1 + 1 + 1 + 1 + 1⟩ := by
            intro r75 hr75 r86 hr86
            rw [hF]
            refine VA.all (rs := [35, 46]) (by decide +kernel) (by decide) ?_
            refine ⟨⟨_, rfl, .inl rfl, ?_⟩, ⟨_, rfl, .inl rfl, ?_⟩, trivial⟩
            ·
              refine OpE.buildSlice (zc := #[.int .i64 0, .int .i64 0, .int .i64 0]) rfl hB rfl Tryz.underlying22 Tryz.sizeOf3 Tryz.zeroValue3 (by decide) (by decide) (by kernel_rfl) rfl rfl ?_
              have hh := hS9 r75 hr75 r86 hr86
              rw [hF] at hh
              exact VA.to hh (by decide +kernel) (Le.mk hB [0, 1, 2] ⟨rfl, rfl, rfl, rfl, rfl, rfl, rfl, rfl, rfl, rfl, rfl, rfl, rfl, rfl, rfl, rfl, rfl, rfl, rfl, rfl, rfl, rfl, rfl, rfl, rfl, rfl, rfl, rfl, trivial⟩ rfl rfl (Nat.le_refl _))
            ·
              refine OpE.buildSlice (zc := #[.int .i64 0, .int .i64 0, .int .i64 0, .int .i64 0]) rfl hB rfl Tryz.underlying22 Tryz.sizeOf3 Tryz.zeroValue3 (by decide) (by decide) (by kernel_rfl) rfl rfl ?_
              have hh := hS10 r75 hr75 r86 hr86
              rw [hF] at hh
              exact VA.to hh (by decide +kernel) (Le.mk hB [0, 1, 2] ⟨rfl, rfl, rfl, rfl, rfl, rfl, rfl, rfl, rfl, rfl, rfl, rfl, rfl, rfl, rfl, rfl, rfl, rfl, rfl, rfl, rfl, rfl, rfl, rfl, rfl, rfl, rfl, rfl, trivial⟩ rfl rfl (Nat.le_refl _))
          have hS15 : ∀ (r75 : ByteArray) (hr75 : r75.size ≤ 1000), F 20 (lstB 70 [0, 1, 2, 3, 4, 5, 6, 7, 8, 9, 10, 11, 12, 13, 14, 15, 16, 17, 18, 19, 20, 21, 22, 23, 24, 25, 27, 28, 29, 30, 31, 32, 33, 34, 35, 37, 38, 39, 40, 41, 42, 43, 44, 45, 46, 48, 49, 50, 51, 52]) ⟨[(0, sp p), (2, (pA g2 (0))), (3, (pA g3 (0))), (65, sp p), (76, sp p), (87, sp p), (97, sp p), (108, sp p), (60, (pA gr (0 + m * 5))), (69, avS (xA l m).name), (73, avS (xA l m).name), (80, avS (xA l m).part), (84, avS (xA l m).part), (91, avI (xA l m).x), (94, avI (r9 + 1)), (101, avI (xA l m).y), (105, avI (xA l m).y), (112, avI (xA l m).quarter), (61, (pA gr (0 + m * 5))), (62, (pA gr (0 + m * 5))), (63, (pA gr (0 + m * 5))), (64, (pA gr (0 + m * 5))), (74, (iA 4 [avS (xA l m).name, avS (xA l m).name, avS ⟨#[]⟩, avS ⟨#[99, 49]⟩])), (75, avS r75), (85, (iA 3 [avS (xA l m).part, avS (xA l m).part, avS ⟨#[]⟩])), (95, (iA 3 [avI (xA l m).x, avI (-1), avI (r9 + 1)])), (106, (iA 4 [avI (xA l m).y, avI (xA l m).y, avI (-1), avI 4611686018427387904]))], [(bA g2), .box g3 ⟨[avS ⟨#[112]⟩, avI r9, avI r12, .v (.slice (some ⟨gr, 0, none⟩) l.length c)], 65, 4⟩, .box gr ⟨rowL l, 128, c * 5⟩], k + 3 + 5 * q + 1 + 1 + 1 + 1⟩ := by
            intro r75 hr75
            rw [hF]
            refine VA.all (rs := [26, 53]) (by decide +kernel) (by decide) ?_
            refine ⟨⟨_, rfl, .inl rfl, ?_⟩, ⟨_, rfl, .inl rfl, ?_⟩, trivial⟩
            ·
              refine OpE.callT' (k + 3 + 5 * q + 1 + 1 + 1 + 1) rfl rfl hB rfl Tryz.call53 rfl (some_T 1000 (by rfl) (by decide) (by decide) (AllS.cons (hok.getD m).2 (AllS.cons (hok.getD m).2 (AllS.cons (by decide) AllS.nil)))) (by omega) ?_
              rintro _ ⟨r86, hr86, rfl⟩
              have hh := hS8 r75 hr75 r86 hr86
              rw [hF] at hh
              exact VA.to hh (by decide +kernel) (Le.mk hB [0, 1, 2] ⟨rfl, rfl, rfl, rfl, rfl, rfl, rfl, rfl, rfl, rfl, rfl, rfl, rfl, rfl, rfl, rfl, rfl, rfl, rfl, rfl, rfl, rfl, rfl, rfl, rfl, rfl, rfl, rfl, trivial⟩ rfl rfl (Nat.le_refl _))
            ·
              refine OpE.buildSlice (zc := #[.int .i64 0, .int .i64 0, .int .i64 0]) rfl hB rfl Tryz.underlying22 Tryz.sizeOf3 Tryz.zeroValue3 (by decide) (by decide) (by kernel_rfl) rfl rfl ?_
              have hh := hS11 r75 hr75
              rw [hF] at hh
              exact VA.to hh (by decide +kernel) (Le.mk hB [0, 1, 2] ⟨rfl, rfl, rfl, rfl, rfl, rfl, rfl, rfl, rfl, rfl, rfl, rfl, rfl, rfl, rfl, rfl, rfl, rfl, rfl, rfl, rfl, rfl, rfl, rfl, rfl, rfl, rfl, rfl, trivial⟩ rfl rfl (Nat.le_refl _))
          have hS16 : ∀ (r75 : ByteArray) (hr75 : r75.size ≤ 1000), F 20 (lstB 70 [0, 1, 2, 3, 4, 5, 6, 7, 8, 9, 10, 11, 12, 13, 14, 15, 16, 17, 18, 19, 20, 21, 22, 23, 24, 25, 27, 28, 29, 30, 31, 32, 33, 34, 35, 37, 38, 39, 40, 41, 42, 43, 44, 45, 48, 49, 50, 51, 52, 53]) ⟨[(0, sp p), (2, (pA g2 (0))), (3, (pA g3 (0))), (65, sp p), (76, sp p), (87, sp p), (97, sp p), (108, sp p), (60, (pA gr (0 + m * 5))), (69, avS (xA l m).name), (73, avS (xA l m).name), (80, avS (xA l m).part), (84, avS (xA l m).part), (91, avI (xA l m).x), (94, avI (r9 + 1)), (101, avI (xA l m).y), (105, avI (xA l m).y), (112, avI (xA l m).quarter), (61, (pA gr (0 + m * 5))), (62, (pA gr (0 + m * 5))), (63, (pA gr (0 + m * 5))), (64, (pA gr (0 + m * 5))), (74, (iA 4 [avS (xA l m).name, avS (xA l m).name, avS ⟨#[]⟩, avS ⟨#[99, 49]⟩])), (75, avS r75), (85, (iA 3 [avS (xA l m).part, avS (xA l m).part, avS ⟨#[]⟩])), (95, (iA 3 [avI (xA l m).x, avI (-1), avI (r9 + 1)])), (113, (iA 3 [avI (xA l m).quarter, avI 4, avI (-1)]))], [(bA g2), .box g3 ⟨[avS ⟨#[112]⟩, avI r9, avI r12, .v (.slice (some ⟨gr, 0, none⟩) l.length c)], 65, 4⟩, .box gr ⟨rowL l, 128, c * 5⟩], k + 3 + 5 * q + 1 + 1 + 1 + 1⟩ := by
            intro r75 hr75
            rw [hF]
            refine VA.all (rs := [26, 46]) (by decide +kernel) (by decide) ?_
            refine ⟨⟨_, rfl, .inl rfl, ?_⟩, ⟨_, rfl, .inl rfl, ?_⟩, trivial⟩
            ·
              refine OpE.callT' (k + 3 + 5 * q + 1 + 1 + 1 + 1) rfl rfl hB rfl Tryz.call53 rfl (some_T 1000 (by rfl) (by decide) (by decide) (AllS.cons (hok.getD m).2 (AllS.cons (hok.getD m).2 (AllS.cons (by decide) AllS.nil)))) (by omega) ?_
              rintro _ ⟨r86, hr86, rfl⟩
              have hh := hS9 r75 hr75 r86 hr86
              rw [hF] at hh
              exact VA.to hh (by decide +kernel) (Le.mk hB [0, 1, 2] ⟨rfl, rfl, rfl, rfl, rfl, rfl, rfl, rfl, rfl, rfl, rfl, rfl, rfl, rfl, rfl, rfl, rfl, rfl, rfl, rfl, rfl, rfl, rfl, rfl, rfl, rfl, rfl, rfl, trivial⟩ rfl rfl (Nat.le_refl _))
            ·
              refine OpE.buildSlice (zc := #[.int .i64 0, .int .i64 0, .int .i64 0, .int .i64 0]) rfl hB rfl Tryz.underlying22 Tryz.sizeOf3 Tryz.zeroValue3 (by decide) (by decide) (by kernel_rfl) rfl rfl ?_
              have hh := hS11 r75 hr75
              rw [hF] at hh
              exact VA.to hh (by decide +kernel) (Le.mk hB [0, 1, 2] ⟨rfl, rfl, rfl, rfl, rfl, rfl, rfl, rfl, rfl, rfl, rfl, rfl, rfl, rfl, rfl, rfl, rfl, rfl, rfl, rfl, rfl, rfl, rfl, rfl, rfl, rfl, rfl, rfl, trivial⟩ rfl rfl (Nat.le_refl _))
          have hS17 : ∀ (r75 : ByteArray) (hr75 : r75.size ≤ 1000), F 20 (lstB 70 [0, 1, 2, 3, 4, 5, 6, 7, 8, 9, 10, 11, 12, 13, 14, 15, 16, 17, 18, 19, 20, 21, 22, 23, 24, 25, 27, 28, 29, 30, 31, 32, 33, 34, 37, 38, 39, 40, 41, 42, 43, 44, 45, 46, 48, 49, 50, 51, 52, 53]) ⟨[(0, sp p), (2, (pA g2 (0))), (3, (pA g3 (0))), (65, sp p), (76, sp p), (87, sp p), (97, sp p), (108, sp p), (60, (pA gr (0 + m * 5))), (69, avS (xA l m).name), (73, avS (xA l m).name), (80, avS (xA l m).part), (84, avS (xA l m).part), (91, avI (xA l m).x), (94, avI (r9 + 1)), (101, avI (xA l m).y), (105, avI (xA l m).y), (112, avI (xA l m).quarter), (61, (pA gr (0 + m * 5))), (62, (pA gr (0 + m * 5))), (63, (pA gr (0 + m * 5))), (64, (pA gr (0 + m * 5))), (74, (iA 4 [avS (xA l m).name, avS (xA l m).name, avS ⟨#[]⟩, avS ⟨#[99, 49]⟩])), (75, avS r75), (85, (iA 3 [avS (xA l m).part, avS (xA l m).part, avS ⟨#[]⟩])), (106, (iA 4 [avI (xA l m).y, avI (xA l m).y, avI (-1), avI 4611686018427387904])), (113, (iA 3 [avI (xA l m).quarter, avI 4, avI (-1)]))], [(bA g2), .box g3 ⟨[avS ⟨#[112]⟩, avI r9, avI r12, .v (.slice (some ⟨gr, 0, none⟩) l.length c)], 65, 4⟩, .box gr ⟨rowL l, 128, c * 5⟩], k + 3 + 5 * q + 1 + 1 + 1 + 1⟩ := by
            intro r75 hr75
            rw [hF]
            refine VA.all (rs := [26, 35]) (by decide +kernel) (by decide) ?_
            refine ⟨⟨_, rfl, .inl rfl, ?_⟩, ⟨_, rfl, .inl rfl, ?_⟩, trivial⟩
            ·
              refine OpE.callT' (k + 3 + 5 * q + 1 + 1 + 1 + 1) rfl rfl hB rfl Tryz.call53 rfl (some_T 1000 (by rfl) (by decide) (by decide) (AllS.cons (hok.getD m).2 (AllS.cons (hok.getD m).2 (AllS.cons (by decide) AllS.nil)))) (by omega) ?_
              rintro _ ⟨r86, hr86, rfl⟩
              have hh := hS10 r75 hr75 r86 hr86
              rw [hF] at hh
              exact VA.to hh (by decide +kernel) (Le.mk hB [0, 1, 2] ⟨rfl, rfl, rfl, rfl, rfl, rfl, rfl, rfl, rfl, rfl, rfl, rfl, rfl, rfl, rfl, rfl, rfl, rfl, rfl, rfl, rfl, rfl, rfl, rfl, rfl, rfl, rfl, rfl, trivial⟩ rfl rfl (Nat.le_refl _))
            ·
              refine OpE.buildSlice (zc := #[.int .i64 0, .int .i64 0, .int .i64 0]) rfl hB rfl Tryz.underlying22 Tryz.sizeOf3 Tryz.zeroValue3 (by decide) (by decide) (by kernel_rfl) rfl rfl ?_
              have hh := hS11 r75 hr75
              rw [hF] at hh
              exact VA.to hh (by decide +kernel) (Le.mk hB [0, 1, 2] ⟨rfl, rfl, rfl, rfl, rfl, rfl, rfl, rfl, rfl, rfl, rfl, rfl, rfl, rfl, rfl, rfl, rfl, rfl, rfl, rfl, rfl, rfl, rfl, rfl, rfl, rfl, rfl, rfl, trivial⟩ rfl rfl (Nat.le_refl _))
          have hS18 : ∀ (r75 : ByteArray) (hr75 : r75.size ≤ 1000), F 20 (lstB 70 [0, 1, 2, 3, 4, 5, 6, 7, 8, 9, 10, 11, 12, 13, 14, 15, 16, 17, 18, 19, 20, 21, 22, 23, 24, 27, 28, 29, 30, 31, 32, 33, 34, 35, 37, 38, 39, 40, 41, 42, 43, 44, 45, 46, 48, 49, 50, 51, 52, 53]) ⟨[(0, sp p), (2, (pA g2 (0))), (3, (pA g3 (0))), (65, sp p), (76, sp p), (87, sp p), (97, sp p), (108, sp p), (60, (pA gr (0 + m * 5))), (69, avS (xA l m).name), (73, avS (xA l m).name), (80, avS (xA l m).part), (84, avS (xA l m).part), (91, avI (xA l m).x), (94, avI (r9 + 1)), (101, avI (xA l m).y), (105, avI (xA l m).y), (112, avI (xA l m).quarter), (61, (pA gr (0 + m * 5))), (62, (pA gr (0 + m * 5))), (63, (pA gr (0 + m * 5))), (64, (pA gr (0 + m * 5))), (74, (iA 4 [avS (xA l m).name, avS (xA l m).name, avS ⟨#[]⟩, avS ⟨#[99, 49]⟩])), (75, avS r75), (95, (iA 3 [avI (xA l m).x, avI (-1), avI (r9 + 1)])), (106, (iA 4 [avI (xA l m).y, avI (xA l m).y, avI (-1), avI 4611686018427387904])), (113, (iA 3 [avI (xA l m).quarter, avI 4, avI (-1)]))], [(bA g2), .box g3 ⟨[avS ⟨#[112]⟩, avI r9, avI r12, .v (.slice (some ⟨gr, 0, none⟩) l.length c)], 65, 4⟩, .box gr ⟨rowL l, 128, c * 5⟩], k + 3 + 5 * q + 1 + 1 + 1 + 1⟩ := by
            intro r75 hr75
            rw [hF]
            refine VA.all (rs := [25]) (by decide +kernel) (by decide) ?_
            refine ⟨⟨_, rfl, .inl rfl, ?_⟩, trivial⟩
            refine OpE.buildSlice (zc := #[.string ⟨#[]⟩, .string ⟨#[]⟩, .string ⟨#[]⟩]) rfl hB rfl Tryz.underlying29 Tryz.sizeOf9 Tryz.zeroValue9 (by decide) (by decide) (by kernel_rfl) rfl rfl ?_
            have hh := hS11 r75 hr75
            rw [hF] at hh
            exact VA.to hh (by decide +kernel) (Le.mk hB [0, 1, 2] ⟨rfl, rfl, rfl, rfl, rfl, rfl, rfl, rfl, rfl, rfl, rfl, rfl, rfl, rfl, rfl, rfl, rfl, rfl, rfl, rfl, rfl, rfl, rfl, rfl, rfl, rfl, rfl, rfl, trivial⟩ rfl rfl (Nat.le_refl _))
          have hS19 : F 20 (lstB 70 [0, 1, 2, 3, 4, 5, 6, 7, 8, 9, 10, 11, 12, 13, 14, 16, 17, 18, 19, 20, 21, 22, 23, 24, 25, 27, 28, 29, 30, 31, 32, 33, 34, 35, 37, 38, 39, 40, 41, 42, 43, 44, 45, 46, 48, 49, 50, 51, 52, 53]) ⟨[(0, sp p), (2, (pA g2 (0))), (3, (pA g3 (0))), (65, sp p), (76, sp p), (87, sp p), (97, sp p), (108, sp p), (60, (pA gr (0 + m * 5))), (69, avS (xA l m).name), (73, avS (xA l m).name), (80, avS (xA l m).part), (84, avS (xA l m).part), (91, avI (xA l m).x), (94, avI (r9 + 1)), (101, avI (xA l m).y), (105, avI (xA l m).y), (112, avI (xA l m).quarter), (61, (pA gr (0 + m * 5))), (62, (pA gr (0 + m * 5))), (63, (pA gr (0 + m * 5))), (64, (pA gr (0 + m * 5))), (74, (iA 4 [avS (xA l m).name, avS (xA l m).name, avS ⟨#[]⟩, avS ⟨#[99, 49]⟩])), (85, (iA 3 [avS (xA l m).part, avS (xA l m).part, avS ⟨#[]⟩])), (95, (iA 3 [avI (xA l m).x, avI (-1), avI (r9 + 1)])), (106, (iA 4 [avI (xA l m).y, avI (xA l m).y, avI (-1), avI 4611686018427387904])), (113, (iA 3 [avI (xA l m).quarter, avI 4, avI (-1)]))], [(bA g2), .box g3 ⟨[avS ⟨#[112]⟩, avI r9, avI r12, .v (.slice (some ⟨gr, 0, none⟩) l.length c)], 65, 4⟩, .box gr ⟨rowL l, 128, c * 5⟩], k + 3 + 5 * q + 1 + 1 + 1⟩ := by
            rw [hF]
            refine VA.all (rs := [15]) (by decide +kernel) (by decide) ?_
            refine ⟨⟨_, rfl, .inl rfl, ?_⟩, trivial⟩
            refine OpE.callT' (k + 3 + 5 * q + 1 + 1 + 1) rfl rfl hB rfl Tryz.call53 rfl (some_T 1000 (by rfl) (by decide) (by decide) (AllS.cons (hok.getD m).1 (AllS.cons (hok.getD m).1 (AllS.cons (by decide) (AllS.cons (by decide) AllS.nil))))) (by omega) ?_
            rintro _ ⟨r75, hr75, rfl⟩
            have hh := hS11 r75 hr75
            rw [hF] at hh
            exact VA.to hh (by decide +kernel) (Le.mk hB [0, 1, 2] ⟨rfl, rfl, rfl, rfl, rfl, rfl, rfl, rfl, rfl, rfl, rfl, rfl, rfl, rfl, rfl, rfl, rfl, rfl, rfl, rfl, rfl, rfl, rfl, rfl, rfl, rfl, rfl, rfl, trivial⟩ rfl rfl (Nat.le_refl _))
          have hS20 : ∀ (r75 : ByteArray) (hr75 : r75.size ≤ 1000) (r86 : ByteArray) (hr86 : r86.size ≤ 1000), F 21 (lstB 70 [0, 1, 2, 3, 4, 5, 6, 7, 8, 9, 10, 11, 12, 13, 14, 15, 16, 17, 18, 19, 20, 21, 22, 23, 24, 25, 26, 27, 28, 29, 30, 31, 32, 33, 34, 37, 38, 39, 40, 41, 42, 43, 44, 45, 48, 49, 50, 51, 52]) ⟨[(0, sp p), (2, (pA g2 (0))), (3, (pA g3 (0))), (65, sp p), (76, sp p), (87, sp p), (97, sp p), (108, sp p), (60, (pA gr (0 + m * 5))), (69, avS (xA l m).name), (73, avS (xA l m).name), (80, avS (xA l m).part), (84, avS (xA l m).part), (91, avI (xA l m).x), (94, avI (r9 + 1)), (101, avI (xA l m).y), (105, avI (xA l m).y), (112, avI (xA l m).quarter), (61, (pA gr (0 + m * 5))), (62, (pA gr (0 + m * 5))), (63, (pA gr (0 + m * 5))), (64, (pA gr (0 + m * 5))), (74, (iA 4 [avS (xA l m).name, avS (xA l m).name, avS ⟨#[]⟩, avS ⟨#[99, 49]⟩])), (75, avS r75), (85, (iA 3 [avS (xA l m).part, avS (xA l m).part, avS ⟨#[]⟩])), (86, avS r86)], [(bA g2), .box g3 ⟨[avS ⟨#[112]⟩, avI r9, avI r12, .v (.slice (some ⟨gr, 0, none⟩) l.length c)], 65, 4⟩, .box gr ⟨rowL l, 128, c * 5⟩], k + 3 + 5 * q + 1 + 1 + 1 + 1 + 1⟩ := by
            intro r75 hr75 r86 hr86
            rw [hF]
            refine VA.all (rs := [35, 46, 53]) (by decide +kernel) (by decide) ?_
            refine ⟨⟨_, rfl, .inl rfl, ?_⟩, ⟨_, rfl, .inl rfl, ?_⟩, ⟨_, rfl, .inl rfl, ?_⟩, trivial⟩
            ·
              refine OpE.buildSlice (zc := #[.int .i64 0, .int .i64 0, .int .i64 0]) rfl hB rfl Tryz.underlying22 Tryz.sizeOf3 Tryz.zeroValue3 (by decide) (by decide) (by kernel_rfl) rfl rfl ?_
              have hh := hS12 r75 hr75 r86 hr86
              rw [hF] at hh
              exact VA.to hh (by decide +kernel) (Le.mk hB [0, 1, 2] ⟨rfl, rfl, rfl, rfl, rfl, rfl, rfl, rfl, rfl, rfl, rfl, rfl, rfl, rfl, rfl, rfl, rfl, rfl, rfl, rfl, rfl, rfl, rfl, rfl, rfl, rfl, rfl, trivial⟩ rfl rfl (Nat.le_refl _))
            ·
              refine OpE.buildSlice (zc := #[.int .i64 0, .int .i64 0, .int .i64 0, .int .i64 0]) rfl hB rfl Tryz.underlying22 Tryz.sizeOf3 Tryz.zeroValue3 (by decide) (by decide) (by kernel_rfl) rfl rfl ?_
              have hh := hS13 r75 hr75 r86 hr86
              rw [hF] at hh
              exact VA.to hh (by decide +kernel) (Le.mk hB [0, 1, 2] ⟨rfl, rfl, rfl, rfl, rfl, rfl, rfl, rfl, rfl, rfl, rfl, rfl, rfl, rfl, rfl, rfl, rfl, rfl, rfl, rfl, rfl, rfl, rfl, rfl, rfl, rfl, rfl, trivial⟩ rfl rfl (Nat.le_refl _))
            ·
              refine OpE.buildSlice (zc := #[.int .i64 0, .int .i64 0, .int .i64 0]) rfl hB rfl Tryz.underlying22 Tryz.sizeOf3 Tryz.zeroValue3 (by decide) (by decide) (by kernel_rfl) rfl rfl ?_
              have hh := hS14 r75 hr75 r86 hr86
              rw [hF] at hh
              exact VA.to hh (by decide +kernel) (Le.mk hB [0, 1, 2] ⟨rfl, rfl, rfl, rfl, rfl, rfl, rfl, rfl, rfl, rfl, rfl, rfl, rfl, rfl, rfl, rfl, rfl, rfl, rfl, rfl, rfl, rfl, rfl, rfl, rfl, rfl, rfl, trivial⟩ rfl rfl (Nat.le_refl _))
          have hS21 : ∀ (r75 : ByteArray) (hr75 : r75.size ≤ 1000), F 21 (lstB 70 [0, 1, 2, 3, 4, 5, 6, 7, 8, 9, 10, 11, 12, 13, 14, 15, 16, 17, 18, 19, 20, 21, 22, 23, 24, 25, 27, 28, 29, 30, 31, 32, 33, 34, 35, 37, 38, 39, 40, 41, 42, 43, 44, 45, 48, 49, 50, 51, 52]) ⟨[(0, sp p), (2, (pA g2 (0))), (3, (pA g3 (0))), (65, sp p), (76, sp p), (87, sp p), (97, sp p), (108, sp p), (60, (pA gr (0 + m * 5))), (69, avS (xA l m).name), (73, avS (xA l m).name), (80, avS (xA l m).part), (84, avS (xA l m).part), (91, avI (xA l m).x), (94, avI (r9 + 1)), (101, avI (xA l m).y), (105, avI (xA l m).y), (112, avI (xA l m).quarter), (61, (pA gr (0 + m * 5))), (62, (pA gr (0 + m * 5))), (63, (pA gr (0 + m * 5))), (64, (pA gr (0 + m * 5))), (74, (iA 4 [avS (xA l m).name, avS (xA l m).name, avS ⟨#[]⟩, avS ⟨#[99, 49]⟩])), (75, avS r75), (85, (iA 3 [avS (xA l m).part, avS (xA l m).part, avS ⟨#[]⟩])), (95, (iA 3 [avI (xA l m).x, avI (-1), avI (r9 + 1)]))], [(bA g2), .box g3 ⟨[avS ⟨#[112]⟩, avI r9, avI r12, .v (.slice (some ⟨gr, 0, none⟩) l.length c)], 65, 4⟩, .box gr ⟨rowL l, 128, c * 5⟩], k + 3 + 5 * q + 1 + 1 + 1 + 1⟩ := by
            intro r75 hr75
            rw [hF]
            refine VA.all (rs := [26, 46, 53]) (by decide +kernel) (by decide) ?_
            refine ⟨⟨_, rfl, .inl rfl, ?_⟩, ⟨_, rfl, .inl rfl, ?_⟩, ⟨_, rfl, .inl rfl, ?_⟩, trivial⟩
            ·
              refine OpE.callT' (k + 3 + 5 * q + 1 + 1 + 1 + 1) rfl rfl hB rfl Tryz.call53 rfl (some_T 1000 (by rfl) (by decide) (by decide) (AllS.cons (hok.getD m).2 (AllS.cons (hok.getD m).2 (AllS.cons (by decide) AllS.nil)))) (by omega) ?_
              rintro _ ⟨r86, hr86, rfl⟩
              have hh := hS12 r75 hr75 r86 hr86
              rw [hF] at hh
              exact VA.to hh (by decide +kernel) (Le.mk hB [0, 1, 2] ⟨rfl, rfl, rfl, rfl, rfl, rfl, rfl, rfl, rfl, rfl, rfl, rfl, rfl, rfl, rfl, rfl, rfl, rfl, rfl, rfl, rfl, rfl, rfl, rfl, rfl, rfl, rfl, trivial⟩ rfl rfl (Nat.le_refl _))
            ·
              refine OpE.buildSlice (zc := #[.int .i64 0, .int .i64 0, .int .i64 0, .int .i64 0]) rfl hB rfl Tryz.underlying22 Tryz.sizeOf3 Tryz.zeroValue3 (by decide) (by decide) (by kernel_rfl) rfl rfl ?_
              have hh := hS15 r75 hr75
              rw [hF] at hh
              exact VA.to hh (by decide +kernel) (Le.mk hB [0, 1, 2] ⟨rfl, rfl, rfl, rfl, rfl, rfl, rfl, rfl, rfl, rfl, rfl, rfl, rfl, rfl, rfl, rfl, rfl, rfl, rfl, rfl, rfl, rfl, rfl, rfl, rfl, rfl, rfl, trivial⟩ rfl rfl (Nat.le_refl _))
            ·
              refine OpE.buildSlice (zc := #[.int .i64 0, .int .i64 0, .int .i64 0]) rfl hB rfl Tryz.underlying22 Tryz.sizeOf3 Tryz.zeroValue3 (by decide) (by decide) (by kernel_rfl) rfl rfl ?_
              have hh := hS16 r75 hr75
              rw [hF] at hh
              exact VA.to hh (by decide +kernel) (Le.mk hB [0, 1, 2] ⟨rfl, rfl, rfl, rfl, rfl, rfl, rfl, rfl, rfl, rfl, rfl, rfl, rfl, rfl, rfl, rfl, rfl, rfl, rfl, rfl, rfl, rfl, rfl, rfl, rfl, rfl, rfl, trivial⟩ rfl rfl (Nat.le_refl _))
          have hS22 : ∀ (r75 : ByteArray) (hr75 : r75.size ≤ 1000), F 21 (lstB 70 [0, 1, 2, 3, 4, 5, 6, 7, 8, 9, 10, 11, 12, 13, 14, 15, 16, 17, 18, 19, 20, 21, 22, 23, 24, 25, 27, 28, 29, 30, 31, 32, 33, 34, 37, 38, 39, 40, 41, 42, 43, 44, 45, 46, 48, 49, 50, 51, 52]) ⟨[(0, sp p), (2, (pA g2 (0))), (3, (pA g3 (0))), (65, sp p), (76, sp p), (87, sp p), (97, sp p), (108, sp p), (60, (pA gr (0 + m * 5))), (69, avS (xA l m).name), (73, avS (xA l m).name), (80, avS (xA l m).part), (84, avS (xA l m).part), (91, avI (xA l m).x), (94, avI (r9 + 1)), (101, avI (xA l m).y), (105, avI (xA l m).y), (112, avI (xA l m).quarter), (61, (pA gr (0 + m * 5))), (62, (pA gr (0 + m * 5))), (63, (pA gr (0 + m * 5))), (64, (pA gr (0 + m * 5))), (74, (iA 4 [avS (xA l m).name, avS (xA l m).name, avS ⟨#[]⟩, avS ⟨#[99, 49]⟩])), (75, avS r75), (85, (iA 3 [avS (xA l m).part, avS (xA l m).part, avS ⟨#[]⟩])), (106, (iA 4 [avI (xA l m).y, avI (xA l m).y, avI (-1), avI 4611686018427387904]))], [(bA g2), .box g3 ⟨[avS ⟨#[112]⟩, avI r9, avI r12, .v (.slice (some ⟨gr, 0, none⟩) l.length c)], 65, 4⟩, .box gr ⟨rowL l, 128, c * 5⟩], k + 3 + 5 * q + 1 + 1 + 1 + 1⟩ := by
            intro r75 hr75
            rw [hF]
            refine VA.all (rs := [26, 35, 53]) (by decide +kernel) (by decide) ?_
            refine ⟨⟨_, rfl, .inl rfl, ?_⟩, ⟨_, rfl, .inl rfl, ?_⟩, ⟨_, rfl, .inl rfl, ?_⟩, trivial⟩
            ·
              refine OpE.callT' (k + 3 + 5 * q + 1 + 1 + 1 + 1) rfl rfl hB rfl Tryz.call53 rfl (some_T 1000 (by rfl) (by decide) (by decide) (AllS.cons (hok.getD m).2 (AllS.cons (hok.getD m).2 (AllS.cons (by decide) AllS.nil)))) (by omega) ?_
              rintro _ ⟨r86, hr86, rfl⟩
              have hh := hS13 r75 hr75 r86 hr86
              rw [hF] at hh
              exact VA.to hh (by decide +kernel) (Le.mk hB [0, 1, 2] ⟨rfl, rfl, rfl, rfl, rfl, rfl, rfl, rfl, rfl, rfl, rfl, rfl, rfl, rfl, rfl, rfl, rfl, rfl, rfl, rfl, rfl, rfl, rfl, rfl, rfl, rfl, rfl, trivial⟩ rfl rfl (Nat.le_refl _))
            ·
              refine OpE.buildSlice (zc := #[.int .i64 0, .int .i64 0, .int .i64 0]) rfl hB rfl Tryz.underlying22 Tryz.sizeOf3 Tryz.zeroValue3 (by decide) (by decide) (by kernel_rfl) rfl rfl ?_
              have hh := hS15 r75 hr75
              rw [hF] at hh
              exact VA.to hh (by decide +kernel) (Le.mk hB [0, 1, 2] ⟨rfl, rfl, rfl, rfl, rfl, rfl, rfl, rfl, rfl, rfl, rfl, rfl, rfl, rfl, rfl, rfl, rfl, rfl, rfl, rfl, rfl, rfl, rfl, rfl, rfl, rfl, rfl, trivial⟩ rfl rfl (Nat.le_refl _))
            ·
              refine OpE.buildSlice (zc := #[.int .i64 0, .int .i64 0, .int .i64 0]) rfl hB rfl Tryz.underlying22 Tryz.sizeOf3 Tryz.zeroValue3 (by decide) (by decide) (by kernel_rfl) rfl rfl ?_
              have hh := hS17 r75 hr75
              rw [hF] at hh
              exact VA.to hh (by decide +kernel) (Le.mk hB [0, 1, 2] ⟨rfl, rfl, rfl, rfl, rfl, rfl, rfl, rfl, rfl, rfl, rfl, rfl, rfl, rfl, rfl, rfl, rfl, rfl, rfl, rfl, rfl, rfl, rfl, rfl, rfl, rfl, rfl, trivial⟩ rfl rfl (Nat.le_refl _))
          have hS23 : ∀ (r75 : ByteArray) (hr75 : r75.size ≤ 1000), F 21 (lstB 70 [0, 1, 2, 3, 4, 5, 6, 7, 8, 9, 10, 11, 12, 13, 14, 15, 16, 17, 18, 19, 20, 21, 22, 23, 24, 25, 27, 28, 29, 30, 31, 32, 33, 34, 37, 38, 39, 40, 41, 42, 43, 44, 45, 48, 49, 50, 51, 52, 53]) ⟨[(0, sp p), (2, (pA g2 (0))), (3, (pA g3 (0))), (65, sp p), (76, sp p), (87, sp p), (97, sp p), (108, sp p), (60, (pA gr (0 + m * 5))), (69, avS (xA l m).name), (73, avS (xA l m).name), (80, avS (xA l m).part), (84, avS (xA l m).part), (91, avI (xA l m).x), (94, avI (r9 + 1)), (101, avI (xA l m).y), (105, avI (xA l m).y), (112, avI (xA l m).quarter), (61, (pA gr (0 + m * 5))), (62, (pA gr (0 + m * 5))), (63, (pA gr (0 + m * 5))), (64, (pA gr (0 + m * 5))), (74, (iA 4 [avS (xA l m).name, avS (xA l m).name, avS ⟨#[]⟩, avS ⟨#[99, 49]⟩])), (75, avS r75), (85, (iA 3 [avS (xA l m).part, avS (xA l m).part, avS ⟨#[]⟩])), (113, (iA 3 [avI (xA l m).quarter, avI 4, avI (-1)]))], [(bA g2), .box g3 ⟨[avS ⟨#[112]⟩, avI r9, avI r12, .v (.slice (some ⟨gr, 0, none⟩) l.length c)], 65, 4⟩, .box gr ⟨rowL l, 128, c * 5⟩], k + 3 + 5 * q + 1 + 1 + 1 + 1⟩ := by
            intro r75 hr75
            rw [hF]
            refine VA.all (rs := [26, 35, 46]) (by decide +kernel) (by decide) ?_
            refine ⟨⟨_, rfl, .inl rfl, ?_⟩, ⟨_, rfl, .inl rfl, ?_⟩, ⟨_, rfl, .inl rfl, ?_⟩, trivial⟩
            ·
              refine OpE.callT' (k + 3 + 5 * q + 1 + 1 + 1 + 1) rfl rfl hB rfl Tryz.call53 rfl (some_T 1000 (by rfl) (by decide) (by decide) (AllS.cons (hok.getD m).2 (AllS.cons (hok.getD m).2 (AllS.cons (by decide) AllS.nil)))) (by omega) ?_
              rintro _ ⟨r86, hr86, rfl⟩
              have hh := hS14 r75 hr75 r86 hr86
              rw [hF] at hh
              exact VA.to hh (by decide +kernel) (Le.mk hB [0, 1, 2] ⟨rfl, rfl, rfl, rfl, rfl, rfl, rfl, rfl, rfl, rfl, rfl, rfl, rfl, rfl, rfl, rfl, rfl, rfl, rfl, rfl, rfl, rfl, rfl, rfl, rfl, rfl, rfl, trivial⟩ rfl rfl (Nat.le_refl _))
            ·
              refine OpE.buildSlice (zc := #[.int .i64 0, .int .i64 0, .int .i64 0]) rfl hB rfl Tryz.underlying22 Tryz.sizeOf3 Tryz.zeroValue3 (by decide) (by decide) (by kernel_rfl) rfl rfl ?_
              have hh := hS16 r75 hr75
              rw [hF] at hh
              exact VA.to hh (by decide +kernel) (Le.mk hB [0, 1, 2] ⟨rfl, rfl, rfl, rfl, rfl, rfl, rfl, rfl, rfl, rfl, rfl, rfl, rfl, rfl, rfl, rfl, rfl, rfl, rfl, rfl, rfl, rfl, rfl, rfl, rfl, rfl, rfl, trivial⟩ rfl rfl (Nat.le_refl _))
            ·
              refine OpE.buildSlice (zc := #[.int .i64 0, .int .i64 0, .int .i64 0, .int .i64 0]) rfl hB rfl Tryz.underlying22 Tryz.sizeOf3 Tryz.zeroValue3 (by decide) (by decide) (by kernel_rfl) rfl rfl ?_
              have hh := hS17 r75 hr75
              rw [hF] at hh
              exact VA.to hh (by decide +kernel) (Le.mk hB [0, 1, 2] ⟨rfl, rfl, rfl, rfl, rfl, rfl, rfl, rfl, rfl, rfl, rfl, rfl, rfl, rfl, rfl, rfl, rfl, rfl, rfl, rfl, rfl, rfl, rfl, rfl, rfl, rfl, rfl, trivial⟩ rfl rfl (Nat.le_refl _))
          have hS24 : ∀ (r75 : ByteArray) (hr75 : r75.size ≤ 1000), F 21 (lstB 70 [0, 1, 2, 3, 4, 5, 6, 7, 8, 9, 10, 11, 12, 13, 14, 15, 16, 17, 18, 19, 20, 21, 22, 23, 24, 27, 28, 29, 30, 31, 32, 33, 34, 35, 37, 38, 39, 40, 41, 42, 43, 44, 45, 46, 48, 49, 50, 51, 52]) ⟨[(0, sp p), (2, (pA g2 (0))), (3, (pA g3 (0))), (65, sp p), (76, sp p), (87, sp p), (97, sp p), (108, sp p), (60, (pA gr (0 + m * 5))), (69, avS (xA l m).name), (73, avS (xA l m).name), (80, avS (xA l m).part), (84, avS (xA l m).part), (91, avI (xA l m).x), (94, avI (r9 + 1)), (101, avI (xA l m).y), (105, avI (xA l m).y), (112, avI (xA l m).quarter), (61, (pA gr (0 + m * 5))), (62, (pA gr (0 + m * 5))), (63, (pA gr (0 + m * 5))), (64, (pA gr (0 + m * 5))), (74, (iA 4 [avS (xA l m).name, avS (xA l m).name, avS ⟨#[]⟩, avS ⟨#[99, 49]⟩])), (75, avS r75), (95, (iA 3 [avI (xA l m).x, avI (-1), avI (r9 + 1)])), (106, (iA 4 [avI (xA l m).y, avI (xA l m).y, avI (-1), avI 4611686018427387904]))], [(bA g2), .box g3 ⟨[avS ⟨#[112]⟩, avI r9, avI r12, .v (.slice (some ⟨gr, 0, none⟩) l.length c)], 65, 4⟩, .box gr ⟨rowL l, 128, c * 5⟩], k + 3 + 5 * q + 1 + 1 + 1 + 1⟩ := by
            intro r75 hr75
            rw [hF]
            refine VA.all (rs := [25, 53]) (by decide +kernel) (by decide) ?_
            refine ⟨⟨_, rfl, .inl rfl, ?_⟩, ⟨_, rfl, .inl rfl, ?_⟩, trivial⟩
            ·
              refine OpE.buildSlice (zc := #[.string ⟨#[]⟩, .string ⟨#[]⟩, .string ⟨#[]⟩]) rfl hB rfl Tryz.underlying29 Tryz.sizeOf9 Tryz.zeroValue9 (by decide) (by decide) (by kernel_rfl) rfl rfl ?_
              have hh := hS15 r75 hr75
              rw [hF] at hh
              exact VA.to hh (by decide +kernel) (Le.mk hB [0, 1, 2] ⟨rfl, rfl, rfl, rfl, rfl, rfl, rfl, rfl, rfl, rfl, rfl, rfl, rfl, rfl, rfl, rfl, rfl, rfl, rfl, rfl, rfl, rfl, rfl, rfl, rfl, rfl, rfl, trivial⟩ rfl rfl (Nat.le_refl _))
            ·
              refine OpE.buildSlice (zc := #[.int .i64 0, .int .i64 0, .int .i64 0]) rfl hB rfl Tryz.underlying22 Tryz.sizeOf3 Tryz.zeroValue3 (by decide) (by decide) (by kernel_rfl) rfl rfl ?_
              have hh := hS18 r75 hr75
              rw [hF] at hh
              exact VA.to hh (by decide +kernel) (Le.mk hB [0, 1, 2] ⟨rfl, rfl, rfl, rfl, rfl, rfl, rfl, rfl, rfl, rfl, rfl, rfl, rfl, rfl, rfl, rfl, rfl, rfl, rfl, rfl, rfl, rfl, rfl, rfl, rfl, rfl, rfl, trivial⟩ rfl rfl (Nat.le_refl _))
          have hS25 : ∀ (r75 : ByteArray) (hr75 : r75.size ≤ 1000), F 21 (lstB 70 [0, 1, 2, 3, 4, 5, 6, 7, 8, 9, 10, 11, 12, 13, 14, 15, 16, 17, 18, 19, 20, 21, 22, 23, 24, 27, 28, 29, 30, 31, 32, 33, 34, 35, 37, 38, 39, 40, 41, 42, 43, 44, 45, 48, 49, 50, 51, 52, 53]) ⟨[(0, sp p), (2, (pA g2 (0))), (3, (pA g3 (0))), (65, sp p), (76, sp p), (87, sp p), (97, sp p), (108, sp p), (60, (pA gr (0 + m * 5))), (69, avS (xA l m).name), (73, avS (xA l m).name), (80, avS (xA l m).part), (84, avS (xA l m).part), (91, avI (xA l m).x), (94, avI (r9 + 1)), (101, avI (xA l m).y), (105, avI (xA l m).y), (112, avI (xA l m).quarter), (61, (pA gr (0 + m * 5))), (62, (pA gr (0 + m * 5))), (63, (pA gr (0 + m * 5))), (64, (pA gr (0 + m * 5))), (74, (iA 4 [avS (xA l m).name, avS (xA l m).name, avS ⟨#[]⟩, avS ⟨#[99, 49]⟩])), (75, avS r75), (95, (iA 3 [avI (xA l m).x, avI (-1), avI (r9 + 1)])), (113, (iA 3 [avI (xA l m).quarter, avI 4, avI (-1)]))], [(bA g2), .box g3 ⟨[avS ⟨#[112]⟩, avI r9, avI r12, .v (.slice (some ⟨gr, 0, none⟩) l.length c)], 65, 4⟩, .box gr ⟨rowL l, 128, c * 5⟩], k + 3 + 5 * q + 1 + 1 + 1 + 1⟩ := by
            intro r75 hr75
            rw [hF]
            refine VA.all (rs := [25, 46]) (by decide +kernel) (by decide) ?_
            refine ⟨⟨_, rfl, .inl rfl, ?_⟩, ⟨_, rfl, .inl rfl, ?_⟩, trivial⟩
            ·
              refine OpE.buildSlice (zc := #[.string ⟨#[]⟩, .string ⟨#[]⟩, .string ⟨#[]⟩]) rfl hB rfl Tryz.underlying29 Tryz.sizeOf9 Tryz.zeroValue9 (by decide) (by decide) (by kernel_rfl) rfl rfl ?_
              have hh := hS16 r75 hr75
              rw [hF] at hh
              exact VA.to hh (by decide +kernel) (Le.mk hB [0, 1, 2] ⟨rfl, rfl, rfl, rfl, rfl, rfl, rfl, rfl, rfl, rfl, rfl, rfl, rfl, rfl, rfl, rfl, rfl, rfl, rfl, rfl, rfl, rfl, rfl, rfl, rfl, rfl, rfl, trivial⟩ rfl rfl (Nat.le_refl _))
            ·
              refine OpE.buildSlice (zc := #[.int .i64 0, .int .i64 0, .int .i64 0, .int .i64 0]) rfl hB rfl Tryz.underlying22 Tryz.sizeOf3 Tryz.zeroValue3 (by decide) (by decide) (by kernel_rfl) rfl rfl ?_
              have hh := hS18 r75 hr75
              rw [hF] at hh
              exact VA.to hh (by decide +kernel) (Le.mk hB [0, 1, 2] ⟨rfl, rfl, rfl, rfl, rfl, rfl, rfl, rfl, rfl, rfl, rfl, rfl, rfl, rfl, rfl, rfl, rfl, rfl, rfl, rfl, rfl, rfl, rfl, rfl, rfl, rfl, rfl, trivial⟩ rfl rfl (Nat.le_refl _))
          have hS26 : ∀ (r75 : ByteArray) (hr75 : r75.size ≤ 1000), F 21 (lstB 70 [0, 1, 2, 3, 4, 5, 6, 7, 8, 9, 10, 11, 12, 13, 14, 15, 16, 17, 18, 19, 20, 21, 22, 23, 24, 27, 28, 29, 30, 31, 32, 33, 34, 37, 38, 39, 40, 41, 42, 43, 44, 45, 46, 48, 49, 50, 51, 52, 53]) ⟨[(0, sp p), (2, (pA g2 (0))), (3, (pA g3 (0))), (65, sp p), (76, sp p), (87, sp p), (97, sp p), (108, sp p), (60, (pA gr (0 + m * 5))), (69, avS (xA l m).name), (73, avS (xA l m).name), (80, avS (xA l m).part), (84, avS (xA l m).part), (91, avI (xA l m).x), (94, avI (r9 + 1)), (101, avI (xA l m).y), (105, avI (xA l m).y), (112, avI (xA l m).quarter), (61, (pA gr (0 + m * 5))), (62, (pA gr (0 + m * 5))), (63, (pA gr (0 + m * 5))), (64, (pA gr (0 + m * 5))), (74, (iA 4 [avS (xA l m).name, avS (xA l m).name, avS ⟨#[]⟩, avS ⟨#[99, 49]⟩])), (75, avS r75), (106, (iA 4 [avI (xA l m).y, avI (xA l m).y, avI (-1), avI 4611686018427387904])), (113, (iA 3 [avI (xA l m).quarter, avI 4, avI (-1)]))], [(bA g2), .box g3 ⟨[avS ⟨#[112]⟩, avI r9, avI r12, .v (.slice (some ⟨gr, 0, none⟩) l.length c)], 65, 4⟩, .box gr ⟨rowL l, 128, c * 5⟩], k + 3 + 5 * q + 1 + 1 + 1 + 1⟩ := by
            intro r75 hr75
            rw [hF]
            refine VA.all (rs := [25, 35]) (by decide +kernel) (by decide) ?_
            refine ⟨⟨_, rfl, .inl rfl, ?_⟩, ⟨_, rfl, .inl rfl, ?_⟩, trivial⟩
            ·
              refine OpE.buildSlice (zc := #[.string ⟨#[]⟩, .string ⟨#[]⟩, .string ⟨#[]⟩]) rfl hB rfl Tryz.underlying29 Tryz.sizeOf9 Tryz.zeroValue9 (by decide) (by decide) (by kernel_rfl) rfl rfl ?_
              have hh := hS17 r75 hr75
              rw [hF] at hh
              exact VA.to hh (by decide +kernel) (Le.mk hB [0, 1, 2] ⟨rfl, rfl, rfl, rfl, rfl, rfl, rfl, rfl, rfl, rfl, rfl, rfl, rfl, rfl, rfl, rfl, rfl, rfl, rfl, rfl, rfl, rfl, rfl, rfl, rfl, rfl, rfl, trivial⟩ rfl rfl (Nat.le_refl _))
            ·
              refine OpE.buildSlice (zc := #[.int .i64 0, .int .i64 0, .int .i64 0]) rfl hB rfl Tryz.underlying22 Tryz.sizeOf3 Tryz.zeroValue3 (by decide) (by decide) (by kernel_rfl) rfl rfl ?_
              have hh := hS18 r75 hr75
              rw [hF] at hh
              exact VA.to hh (by decide +kernel) (Le.mk hB [0, 1, 2] ⟨rfl, rfl, rfl, rfl, rfl, rfl, rfl, rfl, rfl, rfl, rfl, rfl, rfl, rfl, rfl, rfl, rfl, rfl, rfl, rfl, rfl, rfl, rfl, rfl, rfl, rfl, rfl, trivial⟩ rfl rfl (Nat.le_refl _))
          have hS27 : F 21 (lstB 70 [0, 1, 2, 3, 4, 5, 6, 7, 8, 9, 10, 11, 12, 13, 14, 16, 17, 18, 19, 20, 21, 22, 23, 24, 25, 27, 28, 29, 30, 31, 32, 33, 34, 35, 37, 38, 39, 40, 41, 42, 43, 44, 45, 46, 48, 49, 50, 51, 52]) ⟨[(0, sp p), (2, (pA g2 (0))), (3, (pA g3 (0))), (65, sp p), (76, sp p), (87, sp p), (97, sp p), (108, sp p), (60, (pA gr (0 + m * 5))), (69, avS (xA l m).name), (73, avS (xA l m).name), (80, avS (xA l m).part), (84, avS (xA l m).part), (91, avI (xA l m).x), (94, avI (r9 + 1)), (101, avI (xA l m).y), (105, avI (xA l m).y), (112, avI (xA l m).quarter), (61, (pA gr (0 + m * 5))), (62, (pA gr (0 + m * 5))), (63, (pA gr (0 + m * 5))), (64, (pA gr (0 + m * 5))), (74, (iA 4 [avS (xA l m).name, avS (xA l m).name, avS ⟨#[]⟩, avS ⟨#[99, 49]⟩])), (85, (iA 3 [avS (xA l m).part, avS (xA l m).part, avS ⟨#[]⟩])), (95, (iA 3 [avI (xA l m).x, avI (-1), avI (r9 + 1)])), (106, (iA 4 [avI (xA l m).y, avI (xA l m).y, avI (-1), avI 4611686018427387904]))], [(bA g2), .box g3 ⟨[avS ⟨#[112]⟩, avI r9, avI r12, .v (.slice (some ⟨gr, 0, none⟩) l.length c)], 65, 4⟩, .box gr ⟨rowL l, 128, c * 5⟩], k + 3 + 5 * q + 1 + 1 + 1⟩ := by
            rw [hF]
            refine VA.all (rs := [15, 53]) (by decide +kernel) (by decide) ?_
            refine ⟨⟨_, rfl, .inl rfl, ?_⟩, ⟨_, rfl, .inl rfl, ?_⟩, trivial⟩
            ·
              refine OpE.callT' (k + 3 + 5 * q + 1 + 1 + 1) rfl rfl hB rfl Tryz.call53 rfl (some_T 1000 (by rfl) (by decide) (by decide) (AllS.cons (hok.getD m).1 (AllS.cons (hok.getD m).1 (AllS.cons (by decide) (AllS.cons (by decide) AllS.nil))))) (by omega) ?_
              rintro _ ⟨r75, hr75, rfl⟩
              have hh := hS15 r75 hr75
              rw [hF] at hh
              exact VA.to hh (by decide +kernel) (Le.mk hB [0, 1, 2] ⟨rfl, rfl, rfl, rfl, rfl, rfl, rfl, rfl, rfl, rfl, rfl, rfl, rfl, rfl, rfl, rfl, rfl, rfl, rfl, rfl, rfl, rfl, rfl, rfl, rfl, rfl, rfl, trivial⟩ rfl rfl (Nat.le_refl _))
            ·
              refine OpE.buildSlice (zc := #[.int .i64 0, .int .i64 0, .int .i64 0]) rfl hB rfl Tryz.underlying22 Tryz.sizeOf3 Tryz.zeroValue3 (by decide) (by decide) (by kernel_rfl) rfl rfl ?_
              have hh := hS19 
              rw [hF] at hh
              exact VA.to hh (by decide +kernel) (Le.mk hB [0, 1, 2] ⟨rfl, rfl, rfl, rfl, rfl, rfl, rfl, rfl, rfl, rfl, rfl, rfl, rfl, rfl, rfl, rfl, rfl, rfl, rfl, rfl, rfl, rfl, rfl, rfl, rfl, rfl, rfl, trivial⟩ rfl rfl (Nat.le_refl _))
          have hS28 : F 21 (lstB 70 [0, 1, 2, 3, 4, 5, 6, 7, 8, 9, 10, 11, 12, 13, 14, 16, 17, 18, 19, 20, 21, 22, 23, 24, 25, 27, 28, 29, 30, 31, 32, 33, 34, 35, 37, 38, 39, 40, 41, 42, 43, 44, 45, 48, 49, 50, 51, 52, 53]) ⟨[(0, sp p), (2, (pA g2 (0))), (3, (pA g3 (0))), (65, sp p), (76, sp p), (87, sp p), (97, sp p), (108, sp p), (60, (pA gr (0 + m * 5))), (69, avS (xA l m).name), (73, avS (xA l m).name), (80, avS (xA l m).part), (84, avS (xA l m).part), (91, avI (xA l m).x), (94, avI (r9 + 1)), (101, avI (xA l m).y), (105, avI (xA l m).y), (112, avI (xA l m).quarter), (61, (pA gr (0 + m * 5))), (62, (pA gr (0 + m * 5))), (63, (pA gr (0 + m * 5))), (64, (pA gr (0 + m * 5))), (74, (iA 4 [avS (xA l m).name, avS (xA l m).name, avS ⟨#[]⟩, avS ⟨#[99, 49]⟩])), (85, (iA 3 [avS (xA l m).part, avS (xA l m).part, avS ⟨#[]⟩])), (95, (iA 3 [avI (xA l m).x, avI (-1), avI (r9 + 1)])), (113, (iA 3 [avI (xA l m).quarter, avI 4, avI (-1)]))], [(bA g2), .box g3 ⟨[avS ⟨#[112]⟩, avI r9, avI r12, .v (.slice (some ⟨gr, 0, none⟩) l.length c)], 65, 4⟩, .box gr ⟨rowL l, 128, c * 5⟩], k + 3 + 5 * q + 1 + 1 + 1⟩ := by
            rw [hF]
            refine VA.all (rs := [15, 46]) (by decide +kernel) (by decide) ?_
            refine ⟨⟨_, rfl, .inl rfl, ?_⟩, ⟨_, rfl, .inl rfl, ?_⟩, trivial⟩
            ·
              refine OpE.callT' (k + 3 + 5 * q + 1 + 1 + 1) rfl rfl hB rfl Tryz.call53 rfl (some_T 1000 (by rfl) (by decide) (by decide) (AllS.cons (hok.getD m).1 (AllS.cons (hok.getD m).1 (AllS.cons (by decide) (AllS.cons (by decide) AllS.nil))))) (by omega) ?_
              rintro _ ⟨r75, hr75, rfl⟩
              have hh := hS16 r75 hr75
              rw [hF] at hh
              exact VA.to hh (by decide +kernel) (Le.mk hB [0, 1, 2] ⟨rfl, rfl, rfl, rfl, rfl, rfl, rfl, rfl, rfl, rfl, rfl, rfl, rfl, rfl, rfl, rfl, rfl, rfl, rfl, rfl, rfl, rfl, rfl, rfl, rfl, rfl, rfl, trivial⟩ rfl rfl (Nat.le_refl _))
            ·
              refine OpE.buildSlice (zc := #[.int .i64 0, .int .i64 0, .int .i64 0, .int .i64 0]) rfl hB rfl Tryz.underlying22 Tryz.sizeOf3 Tryz.zeroValue3 (by decide) (by decide) (by kernel_rfl) rfl rfl ?_
              have hh := hS19 
              rw [hF] at hh
              exact VA.to hh (by decide +kernel) (Le.mk hB [0, 1, 2] ⟨rfl, rfl, rfl, rfl, rfl, rfl, rfl, rfl, rfl, rfl, rfl, rfl, rfl, rfl, rfl, rfl, rfl, rfl, rfl, rfl, rfl, rfl, rfl, rfl, rfl, rfl, rfl, trivial⟩ rfl rfl (Nat.le_refl _))
          have hS29 : F 21 (lstB 70 [0, 1, 2, 3, 4, 5, 6, 7, 8, 9, 10, 11, 12, 13, 14, 16, 17, 18, 19, 20, 21, 22, 23, 24, 25, 27, 28, 29, 30, 31, 32, 33, 34, 37, 38, 39, 40, 41, 42, 43, 44, 45, 46, 48, 49, 50, 51, 52, 53]) ⟨[(0, sp p), (2, (pA g2 (0))), (3, (pA g3 (0))), (65, sp p), (76, sp p), (87, sp p), (97, sp p), (108, sp p), (60, (pA gr (0 + m * 5))), (69, avS (xA l m).name), (73, avS (xA l m).name), (80, avS (xA l m).part), (84, avS (xA l m).part), (91, avI (xA l m).x), (94, avI (r9 + 1)), (101, avI (xA l m).y), (105, avI (xA l m).y), (112, avI (xA l m).quarter), (61, (pA gr (0 + m * 5))), (62, (pA gr (0 + m * 5))), (63, (pA gr (0 + m * 5))), (64, (pA gr (0 + m * 5))), (74, (iA 4 [avS (xA l m).name, avS (xA l m).name, avS ⟨#[]⟩, avS ⟨#[99, 49]⟩])), (85, (iA 3 [avS (xA l m).part, avS (xA l m).part, avS ⟨#[]⟩])), (106, (iA 4 [avI (xA l m).y, avI (xA l m).y, avI (-1), avI 4611686018427387904])), (113, (iA 3 [avI (xA l m).quarter, avI 4, avI (-1)]))], [(bA g2), .box g3 ⟨[avS ⟨#[112]⟩, avI r9, avI r12, .v (.slice (some ⟨gr, 0, none⟩) l.length c)], 65, 4⟩, .box gr ⟨rowL l, 128, c * 5⟩], k + 3 + 5 * q + 1 + 1 + 1⟩ := by
            rw [hF]
            refine VA.all (rs := [15, 35]) (by decide +kernel) (by decide) ?_
            refine ⟨⟨_, rfl, .inl rfl, ?_⟩, ⟨_, rfl, .inl rfl, ?_⟩, trivial⟩
            ·
              refine OpE.callT' (k + 3 + 5 * q + 1 + 1 + 1) rfl rfl hB rfl Tryz.call53 rfl (some_T 1000 (by rfl) (by decide) (by decide) (AllS.cons (hok.getD m).1 (AllS.cons (hok.getD m).1 (AllS.cons (by decide) (AllS.cons (by decide) AllS.nil))))) (by omega) ?_
              rintro _ ⟨r75, hr75, rfl⟩
              have hh := hS17 r75 hr75
              rw [hF] at hh
              exact VA.to hh (by decide +kernel) (Le.mk hB [0, 1, 2] ⟨rfl, rfl, rfl, rfl, rfl, rfl, rfl, rfl, rfl, rfl, rfl, rfl, rfl, rfl, rfl, rfl, rfl, rfl, rfl, rfl, rfl, rfl, rfl, rfl, rfl, rfl, rfl, trivial⟩ rfl rfl (Nat.le_refl _))
            ·
              refine OpE.buildSlice (zc := #[.int .i64 0, .int .i64 0, .int .i64 0]) rfl hB rfl Tryz.underlying22 Tryz.sizeOf3 Tryz.zeroValue3 (by decide) (by decide) (by kernel_rfl) rfl rfl ?_
              have hh := hS19 
              rw [hF] at hh
              exact VA.to hh (by decide +kernel) (Le.mk hB [0, 1, 2] ⟨rfl, rfl, rfl, rfl, rfl, rfl, rfl, rfl, rfl, rfl, rfl, rfl, rfl, rfl, rfl, rfl, rfl, rfl, rfl, rfl, rfl, rfl, rfl, rfl, rfl, rfl, rfl, trivial⟩ rfl rfl (Nat.le_refl _))
          have hS30 : F 21 (lstB 70 [0, 1, 2, 3, 4, 5, 6, 7, 8, 9, 10, 11, 12, 13, 14, 16, 17, 18, 19, 20, 21, 22, 23, 24, 27, 28, 29, 30, 31, 32, 33, 34, 35, 37, 38, 39, 40, 41, 42, 43, 44, 45, 46, 48, 49, 50, 51, 52, 53]) ⟨[(0, sp p), (2, (pA g2 (0))), (3, (pA g3 (0))), (65, sp p), (76, sp p), (87, sp p), (97, sp p), (108, sp p), (60, (pA gr (0 + m * 5))), (69, avS (xA l m).name), (73, avS (xA l m).name), (80, avS (xA l m).part), (84, avS (xA l m).part), (91, avI (xA l m).x), (94, avI (r9 + 1)), (101, avI (xA l m).y), (105, avI (xA l m).y), (112, avI (xA l m).quarter), (61, (pA gr (0 + m * 5))), (62, (pA gr (0 + m * 5))), (63, (pA gr (0 + m * 5))), (64, (pA gr (0 + m * 5))), (74, (iA 4 [avS (xA l m).name, avS (xA l m).name, avS ⟨#[]⟩, avS ⟨#[99, 49]⟩])), (95, (iA 3 [avI (xA l m).x, avI (-1), avI (r9 + 1)])), (106, (iA 4 [avI (xA l m).y, avI (xA l m).y, avI (-1), avI 4611686018427387904])), (113, (iA 3 [avI (xA l m).quarter, avI 4, avI (-1)]))], [(bA g2), .box g3 ⟨[avS ⟨#[112]⟩, avI r9, avI r12, .v (.slice (some ⟨gr, 0, none⟩) l.length c)], 65, 4⟩, .box gr ⟨rowL l, 128, c * 5⟩], k + 3 + 5 * q + 1 + 1 + 1⟩ := by
            rw [hF]
            refine VA.all (rs := [15, 25]) (by decide +kernel) (by decide) ?_
            refine ⟨⟨_, rfl, .inl rfl, ?_⟩, ⟨_, rfl, .inl rfl, ?_⟩, trivial⟩
            ·
              refine OpE.callT' (k + 3 + 5 * q + 1 + 1 + 1) rfl rfl hB rfl Tryz.call53 rfl (some_T 1000 (by rfl) (by decide) (by decide) (AllS.cons (hok.getD m).1 (AllS.cons (hok.getD m).1 (AllS.cons (by decide) (AllS.cons (by decide) AllS.nil))))) (by omega) ?_
              rintro _ ⟨r75, hr75, rfl⟩
              have hh := hS18 r75 hr75
              rw [hF] at hh
              exact VA.to hh (by decide +kernel) (Le.mk hB [0, 1, 2] ⟨rfl, rfl, rfl, rfl, rfl, rfl, rfl, rfl, rfl, rfl, rfl, rfl, rfl, rfl, rfl, rfl, rfl, rfl, rfl, rfl, rfl, rfl, rfl, rfl, rfl, rfl, rfl, trivial⟩ rfl rfl (Nat.le_refl _))
            ·
              refine OpE.buildSlice (zc := #[.string ⟨#[]⟩, .string ⟨#[]⟩, .string ⟨#[]⟩]) rfl hB rfl Tryz.underlying29 Tryz.sizeOf9 Tryz.zeroValue9 (by decide) (by decide) (by kernel_rfl) rfl rfl ?_
              have hh := hS19 
              rw [hF] at hh
              exact VA.to hh (by decide +kernel) (Le.mk hB [0, 1, 2] ⟨rfl, rfl, rfl, rfl, rfl, rfl, rfl, rfl, rfl, rfl, rfl, rfl, rfl, rfl, rfl, rfl, rfl, rfl, rfl, rfl, rfl, rfl, rfl, rfl, rfl, rfl, rfl, trivial⟩ rfl rfl (Nat.le_refl _))
          have hS31 : F 21 (lstB 70 [0, 1, 2, 3, 4, 5, 6, 7, 8, 9, 10, 11, 12, 13, 16, 17, 18, 19, 20, 21, 22, 23, 24, 25, 27, 28, 29, 30, 31, 32, 33, 34, 35, 37, 38, 39, 40, 41, 42, 43, 44, 45, 46, 48, 49, 50, 51, 52, 53]) ⟨[(0, sp p), (2, (pA g2 (0))), (3, (pA g3 (0))), (65, sp p), (76, sp p), (87, sp p), (97, sp p), (108, sp p), (60, (pA gr (0 + m * 5))), (69, avS (xA l m).name), (73, avS (xA l m).name), (80, avS (xA l m).part), (84, avS (xA l m).part), (91, avI (xA l m).x), (94, avI (r9 + 1)), (101, avI (xA l m).y), (105, avI (xA l m).y), (112, avI (xA l m).quarter), (61, (pA gr (0 + m * 5))), (62, (pA gr (0 + m * 5))), (63, (pA gr (0 + m * 5))), (64, (pA gr (0 + m * 5))), (85, (iA 3 [avS (xA l m).part, avS (xA l m).part, avS ⟨#[]⟩])), (95, (iA 3 [avI (xA l m).x, avI (-1), avI (r9 + 1)])), (106, (iA 4 [avI (xA l m).y, avI (xA l m).y, avI (-1), avI 4611686018427387904])), (113, (iA 3 [avI (xA l m).quarter, avI 4, avI (-1)]))], [(bA g2), .box g3 ⟨[avS ⟨#[112]⟩, avI r9, avI r12, .v (.slice (some ⟨gr, 0, none⟩) l.length c)], 65, 4⟩, .box gr ⟨rowL l, 128, c * 5⟩], k + 3 + 5 * q + 1 + 1 + 1⟩ := by
            rw [hF]
            refine VA.all (rs := [14]) (by decide +kernel) (by decide) ?_
            refine ⟨⟨_, rfl, .inl rfl, ?_⟩, trivial⟩
            refine OpE.buildSlice (zc := #[.string ⟨#[]⟩, .string ⟨#[]⟩, .string ⟨#[]⟩, .string ⟨#[]⟩]) rfl hB rfl Tryz.underlying29 Tryz.sizeOf9 Tryz.zeroValue9 (by decide) (by decide) (by kernel_rfl) rfl rfl ?_
            have hh := hS19 
            rw [hF] at hh
            exact VA.to hh (by decide +kernel) (Le.mk hB [0, 1, 2] ⟨rfl, rfl, rfl, rfl, rfl, rfl, rfl, rfl, rfl, rfl, rfl, rfl, rfl, rfl, rfl, rfl, rfl, rfl, rfl, rfl, rfl, rfl, rfl, rfl, rfl, rfl, rfl, trivial⟩ rfl rfl (Nat.le_refl _))
          have hS32 : ∀ (r75 : ByteArray) (hr75 : r75.size ≤ 1000), F 22 (lstB 70 [0, 1, 2, 3, 4, 5, 6, 7, 8, 9, 10, 11, 12, 13, 14, 15, 16, 17, 18, 19, 20, 21, 22, 23, 24, 25, 27, 28, 29, 30, 31, 32, 33, 34, 37, 38, 39, 40, 41, 42, 43, 44, 45, 48, 49, 50, 51, 52]) ⟨[(0, sp p), (2, (pA g2 (0))), (3, (pA g3 (0))), (65, sp p), (76, sp p), (87, sp p), (97, sp p), (108, sp p), (60, (pA gr (0 + m * 5))), (69, avS (xA l m).name), (73, avS (xA l m).name), (80, avS (xA l m).part), (84, avS (xA l m).part), (91, avI (xA l m).x), (94, avI (r9 + 1)), (101, avI (xA l m).y), (105, avI (xA l m).y), (112, avI (xA l m).quarter), (61, (pA gr (0 + m * 5))), (62, (pA gr (0 + m * 5))), (63, (pA gr (0 + m * 5))), (64, (pA gr (0 + m * 5))), (74, (iA 4 [avS (xA l m).name, avS (xA l m).name, avS ⟨#[]⟩, avS ⟨#[99, 49]⟩])), (75, avS r75), (85, (iA 3 [avS (xA l m).part, avS (xA l m).part, avS ⟨#[]⟩]))], [(bA g2), .box g3 ⟨[avS ⟨#[112]⟩, avI r9, avI r12, .v (.slice (some ⟨gr, 0, none⟩) l.length c)], 65, 4⟩, .box gr ⟨rowL l, 128, c * 5⟩], k + 3 + 5 * q + 1 + 1 + 1 + 1⟩ := by
            intro r75 hr75
            rw [hF]
            refine VA.all (rs := [26, 35, 46, 53]) (by decide +kernel) (by decide) ?_
            refine ⟨⟨_, rfl, .inl rfl, ?_⟩, ⟨_, rfl, .inl rfl, ?_⟩, ⟨_, rfl, .inl rfl, ?_⟩, ⟨_, rfl, .inl rfl, ?_⟩, trivial⟩
            ·
              refine OpE.callT' (k + 3 + 5 * q + 1 + 1 + 1 + 1) rfl rfl hB rfl Tryz.call53 rfl (some_T 1000 (by rfl) (by decide) (by decide) (AllS.cons (hok.getD m).2 (AllS.cons (hok.getD m).2 (AllS.cons (by decide) AllS.nil)))) (by omega) ?_
              rintro _ ⟨r86, hr86, rfl⟩
              have hh := hS20 r75 hr75 r86 hr86
              rw [hF] at hh
              exact VA.to hh (by decide +kernel) (Le.mk hB [0, 1, 2] ⟨rfl, rfl, rfl, rfl, rfl, rfl, rfl, rfl, rfl, rfl, rfl, rfl, rfl, rfl, rfl, rfl, rfl, rfl, rfl, rfl, rfl, rfl, rfl, rfl, rfl, rfl, trivial⟩ rfl rfl (Nat.le_refl _))
            ·
              refine OpE.buildSlice (zc := #[.int .i64 0, .int .i64 0, .int .i64 0]) rfl hB rfl Tryz.underlying22 Tryz.sizeOf3 Tryz.zeroValue3 (by decide) (by decide) (by kernel_rfl) rfl rfl ?_
              have hh := hS21 r75 hr75
              rw [hF] at hh
              exact VA.to hh (by decide +kernel) (Le.mk hB [0, 1, 2] ⟨rfl, rfl, rfl, rfl, rfl, rfl, rfl, rfl, rfl, rfl, rfl, rfl, rfl, rfl, rfl, rfl, rfl, rfl, rfl, rfl, rfl, rfl, rfl, rfl, rfl, rfl, trivial⟩ rfl rfl (Nat.le_refl _))
            ·
              refine OpE.buildSlice (zc := #[.int .i64 0, .int .i64 0, .int .i64 0, .int .i64 0]) rfl hB rfl Tryz.underlying22 Tryz.sizeOf3 Tryz.zeroValue3 (by decide) (by decide) (by kernel_rfl) rfl rfl ?_
              have hh := hS22 r75 hr75
              rw [hF] at hh
              exact VA.to hh (by decide +kernel) (Le.mk hB [0, 1, 2] ⟨rfl, rfl, rfl, rfl, rfl, rfl, rfl, rfl, rfl, rfl, rfl, rfl, rfl, rfl, rfl, rfl, rfl, rfl, rfl, rfl, rfl, rfl, rfl, rfl, rfl, rfl, trivial⟩ rfl rfl (Nat.le_refl _))
            ·
              refine OpE.buildSlice (zc := #[.int .i64 0, .int .i64 0, .int .i64 0]) rfl hB rfl Tryz.underlying22 Tryz.sizeOf3 Tryz.zeroValue3 (by decide) (by decide) (by kernel_rfl) rfl rfl ?_
              have hh := hS23 r75 hr75
              rw [hF] at hh
              exact VA.to hh (by decide +kernel) (Le.mk hB [0, 1, 2] ⟨rfl, rfl, rfl, rfl, rfl, rfl, rfl, rfl, rfl, rfl, rfl, rfl, rfl, rfl, rfl, rfl, rfl, rfl, rfl, rfl, rfl, rfl, rfl, rfl, rfl, rfl, trivial⟩ rfl rfl (Nat.le_refl _))
          have hS33 : ∀ (r75 : ByteArray) (hr75 : r75.size ≤ 1000), F 22 (lstB 70 [0, 1, 2, 3, 4, 5, 6, 7, 8, 9, 10, 11, 12, 13, 14, 15, 16, 17, 18, 19, 20, 21, 22, 23, 24, 27, 28, 29, 30, 31, 32, 33, 34, 35, 37, 38, 39, 40, 41, 42, 43, 44, 45, 48, 49, 50, 51, 52]) ⟨[(0, sp p), (2, (pA g2 (0))), (3, (pA g3 (0))), (65, sp p), (76, sp p), (87, sp p), (97, sp p), (108, sp p), (60, (pA gr (0 + m * 5))), (69, avS (xA l m).name), (73, avS (xA l m).name), (80, avS (xA l m).part), (84, avS (xA l m).part), (91, avI (xA l m).x), (94, avI (r9 + 1)), (101, avI (xA l m).y), (105, avI (xA l m).y), (112, avI (xA l m).quarter), (61, (pA gr (0 + m * 5))), (62, (pA gr (0 + m * 5))), (63, (pA gr (0 + m * 5))), (64, (pA gr (0 + m * 5))), (74, (iA 4 [avS (xA l m).name, avS (xA l m).name, avS ⟨#[]⟩, avS ⟨#[99, 49]⟩])), (75, avS r75), (95, (iA 3 [avI (xA l m).x, avI (-1), avI (r9 + 1)]))], [(bA g2), .box g3 ⟨[avS ⟨#[112]⟩, avI r9, avI r12, .v (.slice (some ⟨gr, 0, none⟩) l.length c)], 65, 4⟩, .box gr ⟨rowL l, 128, c * 5⟩], k + 3 + 5 * q + 1 + 1 + 1 + 1⟩ := by
            intro r75 hr75
            rw [hF]
            refine VA.all (rs := [25, 46, 53]) (by decide +kernel) (by decide) ?_
            refine ⟨⟨_, rfl, .inl rfl, ?_⟩, ⟨_, rfl, .inl rfl, ?_⟩, ⟨_, rfl, .inl rfl, ?_⟩, trivial⟩
            ·
              refine OpE.buildSlice (zc := #[.string ⟨#[]⟩, .string ⟨#[]⟩, .string ⟨#[]⟩]) rfl hB rfl Tryz.underlying29 Tryz.sizeOf9 Tryz.zeroValue9 (by decide) (by decide) (by kernel_rfl) rfl rfl ?_
              have hh := hS21 r75 hr75
              rw [hF] at hh
              exact VA.to hh (by decide +kernel) (Le.mk hB [0, 1, 2] ⟨rfl, rfl, rfl, rfl, rfl, rfl, rfl, rfl, rfl, rfl, rfl, rfl, rfl, rfl, rfl, rfl, rfl, rfl, rfl, rfl, rfl, rfl, rfl, rfl, rfl, rfl, trivial⟩ rfl rfl (Nat.le_refl _))
            ·
              refine OpE.buildSlice (zc := #[.int .i64 0, .int .i64 0, .int .i64 0, .int .i64 0]) rfl hB rfl Tryz.underlying22 Tryz.sizeOf3 Tryz.zeroValue3 (by decide) (by decide) (by kernel_rfl) rfl rfl ?_
              have hh := hS24 r75 hr75
              rw [hF] at hh
              exact VA.to hh (by decide +kernel) (Le.mk hB [0, 1, 2] ⟨rfl, rfl, rfl, rfl, rfl, rfl, rfl, rfl, rfl, rfl, rfl, rfl, rfl, rfl, rfl, rfl, rfl, rfl, rfl, rfl, rfl, rfl, rfl, rfl, rfl, rfl, trivial⟩ rfl rfl (Nat.le_refl _))
            ·
              refine OpE.buildSlice (zc := #[.int .i64 0, .int .i64 0, .int .i64 0]) rfl hB rfl Tryz.underlying22 Tryz.sizeOf3 Tryz.zeroValue3 (by decide) (by decide) (by kernel_rfl) rfl rfl ?_
              have hh := hS25 r75 hr75
              rw [hF] at hh
              exact VA.to hh (by decide +kernel) (Le.mk hB [0, 1, 2] ⟨rfl, rfl, rfl, rfl, rfl, rfl, rfl, rfl, rfl, rfl, rfl, rfl, rfl, rfl, rfl, rfl, rfl, rfl, rfl, rfl, rfl, rfl, rfl, rfl, rfl, rfl, trivial⟩ rfl rfl (Nat.le_refl _))
          have hS34 : ∀ (r75 : ByteArray) (hr75 : r75.size ≤ 1000), F 22 (lstB 70 [0, 1, 2, 3, 4, 5, 6, 7, 8, 9, 10, 11, 12, 13, 14, 15, 16, 17, 18, 19, 20, 21, 22, 23, 24, 27, 28, 29, 30, 31, 32, 33, 34, 37, 38, 39, 40, 41, 42, 43, 44, 45, 46, 48, 49, 50, 51, 52]) ⟨[(0, sp p), (2, (pA g2 (0))), (3, (pA g3 (0))), (65, sp p), (76, sp p), (87, sp p), (97, sp p), (108, sp p), (60, (pA gr (0 + m * 5))), (69, avS (xA l m).name), (73, avS (xA l m).name), (80, avS (xA l m).part), (84, avS (xA l m).part), (91, avI (xA l m).x), (94, avI (r9 + 1)), (101, avI (xA l m).y), (105, avI (xA l m).y), (112, avI (xA l m).quarter), (61, (pA gr (0 + m * 5))), (62, (pA gr (0 + m * 5))), (63, (pA gr (0 + m * 5))), (64, (pA gr (0 + m * 5))), (74, (iA 4 [avS (xA l m).name, avS (xA l m).name, avS ⟨#[]⟩, avS ⟨#[99, 49]⟩])), (75, avS r75), (106, (iA 4 [avI (xA l m).y, avI (xA l m).y, avI (-1), avI 4611686018427387904]))], [(bA g2), .box g3 ⟨[avS ⟨#[112]⟩, avI r9, avI r12, .v (.slice (some ⟨gr, 0, none⟩) l.length c)], 65, 4⟩, .box gr ⟨rowL l, 128, c * 5⟩], k + 3 + 5 * q + 1 + 1 + 1 + 1⟩ := by
            intro r75 hr75
            rw [hF]
            refine VA.all (rs := [25, 35, 53]) (by decide +kernel) (by decide) ?_
            refine ⟨⟨_, rfl, .inl rfl, ?_⟩, ⟨_, rfl, .inl rfl, ?_⟩, ⟨_, rfl, .inl rfl, ?_⟩, trivial⟩
            ·
              refine OpE.buildSlice (zc := #[.string ⟨#[]⟩, .string ⟨#[]⟩, .string ⟨#[]⟩]) rfl hB rfl Tryz.underlying29 Tryz.sizeOf9 Tryz.zeroValue9 (by decide) (by decide) (by kernel_rfl) rfl rfl ?_
              have hh := hS22 r75 hr75
              rw [hF] at hh
              exact VA.to hh (by decide +kernel) (Le.mk hB [0, 1, 2] ⟨rfl, rfl, rfl, rfl, rfl, rfl, rfl, rfl, rfl, rfl, rfl, rfl, rfl, rfl, rfl, rfl, rfl, rfl, rfl, rfl, rfl, rfl, rfl, rfl, rfl, rfl, trivial⟩ rfl rfl (Nat.le_refl _))
            ·
              refine OpE.buildSlice (zc := #[.int .i64 0, .int .i64 0, .int .i64 0]) rfl hB rfl Tryz.underlying22 Tryz.sizeOf3 Tryz.zeroValue3 (by decide) (by decide) (by kernel_rfl) rfl rfl ?_
              have hh := hS24 r75 hr75
              rw [hF] at hh
              exact VA.to hh (by decide +kernel) (Le.mk hB [0, 1, 2] ⟨rfl, rfl, rfl, rfl, rfl, rfl, rfl, rfl, rfl, rfl, rfl, rfl, rfl, rfl, rfl, rfl, rfl, rfl, rfl, rfl, rfl, rfl, rfl, rfl, rfl, rfl, trivial⟩ rfl rfl (Nat.le_refl _))
            ·
              refine OpE.buildSlice (zc := #[.int .i64 0, .int .i64 0, .int .i64 0]) rfl hB rfl Tryz.underlying22 Tryz.sizeOf3 Tryz.zeroValue3 (by decide) (by decide) (by kernel_rfl) rfl rfl ?_
              have hh := hS26 r75 hr75
              rw [hF] at hh
              exact VA.to hh (by decide +kernel) (Le.mk hB [0, 1, 2] ⟨rfl, rfl, rfl, rfl, rfl, rfl, rfl, rfl, rfl, rfl, rfl, rfl, rfl, rfl, rfl, rfl, rfl, rfl, rfl, rfl, rfl, rfl, rfl, rfl, rfl, rfl, trivial⟩ rfl rfl (Nat.le_refl _))
          have hS35 : ∀ (r75 : ByteArray) (hr75 : r75.size ≤ 1000), F 22 (lstB 70 [0, 1, 2, 3, 4, 5, 6, 7, 8, 9, 10, 11, 12, 13, 14, 15, 16, 17, 18, 19, 20, 21, 22, 23, 24, 27, 28, 29, 30, 31, 32, 33, 34, 37, 38, 39, 40, 41, 42, 43, 44, 45, 48, 49, 50, 51, 52, 53]) ⟨[(0, sp p), (2, (pA g2 (0))), (3, (pA g3 (0))), (65, sp p), (76, sp p), (87, sp p), (97, sp p), (108, sp p), (60, (pA gr (0 + m * 5))), (69, avS (xA l m).name), (73, avS (xA l m).name), (80, avS (xA l m).part), (84, avS (xA l m).part), (91, avI (xA l m).x), (94, avI (r9 + 1)), (101, avI (xA l m).y), (105, avI (xA l m).y), (112, avI (xA l m).quarter), (61, (pA gr (0 + m * 5))), (62, (pA gr (0 + m * 5))), (63, (pA gr (0 + m * 5))), (64, (pA gr (0 + m * 5))), (74, (iA 4 [avS (xA l m).name, avS (xA l m).name, avS ⟨#[]⟩, avS ⟨#[99, 49]⟩])), (75, avS r75), (113, (iA 3 [avI (xA l m).quarter, avI 4, avI (-1)]))], [(bA g2), .box g3 ⟨[avS ⟨#[112]⟩, avI r9, avI r12, .v (.slice (some ⟨gr, 0, none⟩) l.length c)], 65, 4⟩, .box gr ⟨rowL l, 128, c * 5⟩], k + 3 + 5 * q + 1 + 1 + 1 + 1⟩ := by
            intro r75 hr75
            rw [hF]
            refine VA.all (rs := [25, 35, 46]) (by decide +kernel) (by decide) ?_
            refine ⟨⟨_, rfl, .inl rfl, ?_⟩, ⟨_, rfl, .inl rfl, ?_⟩, ⟨_, rfl, .inl rfl, ?_⟩, trivial⟩
            ·
              refine OpE.buildSlice (zc := #[.string ⟨#[]⟩, .string ⟨#[]⟩, .string ⟨#[]⟩]) rfl hB rfl Tryz.underlying29 Tryz.sizeOf9 Tryz.zeroValue9 (by decide) (by decide) (by kernel_rfl) rfl rfl ?_
              have hh := hS23 r75 hr75
              rw [hF] at hh
              exact VA.to hh (by decide +kernel) (Le.mk hB [0, 1, 2] ⟨rfl, rfl, rfl, rfl, rfl, rfl, rfl, rfl, rfl, rfl, rfl, rfl, rfl, rfl, rfl, rfl, rfl, rfl, rfl, rfl, rfl, rfl, rfl, rfl, rfl, rfl, trivial⟩ rfl rfl (Nat.le_refl _))
            ·
              refine OpE.buildSlice (zc := #[.int .i64 0, .int .i64 0, .int .i64 0]) rfl hB rfl Tryz.underlying22 Tryz.sizeOf3 Tryz.zeroValue3 (by decide) (by decide) (by kernel_rfl) rfl rfl ?_
              have hh := hS25 r75 hr75
              rw [hF] at hh
              exact VA.to hh (by decide +kernel) (Le.mk hB [0, 1, 2] ⟨rfl, rfl, rfl, rfl, rfl, rfl, rfl, rfl, rfl, rfl, rfl, rfl, rfl, rfl, rfl, rfl, rfl, rfl, rfl, rfl, rfl, rfl, rfl, rfl, rfl, rfl, trivial⟩ rfl rfl (Nat.le_refl _))
            ·
              refine OpE.buildSlice (zc := #[.int .i64 0, .int .i64 0, .int .i64 0, .int .i64 0]) rfl hB rfl Tryz.underlying22 Tryz.sizeOf3 Tryz.zeroValue3 (by decide) (by decide) (by kernel_rfl) rfl rfl ?_
              have hh := hS26 r75 hr75
              rw [hF] at hh
              exact VA.to hh (by decide +kernel) (Le.mk hB [0, 1, 2] ⟨rfl, rfl, rfl, rfl, rfl, rfl, rfl, rfl, rfl, rfl, rfl, rfl, rfl, rfl, rfl, rfl, rfl, rfl, rfl, rfl, rfl, rfl, rfl, rfl, rfl, rfl, trivial⟩ rfl rfl (Nat.le_refl _))
          have hS36 : F 22 (lstB 70 [0, 1, 2, 3, 4, 5, 6, 7, 8, 9, 10, 11, 12, 13, 14, 16, 17, 18, 19, 20, 21, 22, 23, 24, 25, 27, 28, 29, 30, 31, 32, 33, 34, 35, 37, 38, 39, 40, 41, 42, 43, 44, 45, 48, 49, 50, 51, 52]) ⟨[(0, sp p), (2, (pA g2 (0))), (3, (pA g3 (0))), (65, sp p), (76, sp p), (87, sp p), (97, sp p), (108, sp p), (60, (pA gr (0 + m * 5))), (69, avS (xA l m).name), (73, avS (xA l m).name), (80, avS (xA l m).part), (84, avS (xA l m).part), (91, avI (xA l m).x), (94, avI (r9 + 1)), (101, avI (xA l m).y), (105, avI (xA l m).y), (112, avI (xA l m).quarter), (61, (pA gr (0 + m * 5))), (62, (pA gr (0 + m * 5))), (63, (pA gr (0 + m * 5))), (64, (pA gr (0 + m * 5))), (74, (iA 4 [avS (xA l m).name, avS (xA l m).name, avS ⟨#[]⟩, avS ⟨#[99, 49]⟩])), (85, (iA 3 [avS (xA l m).part, avS (xA l m).part, avS ⟨#[]⟩])), (95, (iA 3 [avI (xA l m).x, avI (-1), avI (r9 + 1)]))], [(bA g2), .box g3 ⟨[avS ⟨#[112]⟩, avI r9, avI r12, .v (.slice (some ⟨gr, 0, none⟩) l.length c)], 65, 4⟩, .box gr ⟨rowL l, 128, c * 5⟩], k + 3 + 5 * q + 1 + 1 + 1⟩ := by
            rw [hF]
            refine VA.all (rs := [15, 46, 53]) (by decide +kernel) (by decide) ?_
            refine ⟨⟨_, rfl, .inl rfl, ?_⟩, ⟨_, rfl, .inl rfl, ?_⟩, ⟨_, rfl, .inl rfl, ?_⟩, trivial⟩
            ·
              refine OpE.callT' (k + 3 + 5 * q + 1 + 1 + 1) rfl rfl hB rfl Tryz.call53 rfl (some_T 1000 (by rfl) (by decide) (by decide) (AllS.cons (hok.getD m).1 (AllS.cons (hok.getD m).1 (AllS.cons (by decide) (AllS.cons (by decide) AllS.nil))))) (by omega) ?_
              rintro _ ⟨r75, hr75, rfl⟩
              have hh := hS21 r75 hr75
              rw [hF] at hh
              exact VA.to hh (by decide +kernel) (Le.mk hB [0, 1, 2] ⟨rfl, rfl, rfl, rfl, rfl, rfl, rfl, rfl, rfl, rfl, rfl, rfl, rfl, rfl, rfl, rfl, rfl, rfl, rfl, rfl, rfl, rfl, rfl, rfl, rfl, rfl, trivial⟩ rfl rfl (Nat.le_refl _))
            ·
              refine OpE.buildSlice (zc := #[.int .i64 0, .int .i64 0, .int .i64 0, .int .i64 0]) rfl hB rfl Tryz.underlying22 Tryz.sizeOf3 Tryz.zeroValue3 (by decide) (by decide) (by kernel_rfl) rfl rfl ?_
              have hh := hS27 
              rw [hF] at hh
              exact VA.to hh (by decide +kernel) (Le.mk hB [0, 1, 2] ⟨rfl, rfl, rfl, rfl, rfl, rfl, rfl, rfl, rfl, rfl, rfl, rfl, rfl, rfl, rfl, rfl, rfl, rfl, rfl, rfl, rfl, rfl, rfl, rfl, rfl, rfl, trivial⟩ rfl rfl (Nat.le_refl _))
            ·
              refine OpE.buildSlice (zc := #[.int .i64 0, .int .i64 0, .int .i64 0]) rfl hB rfl Tryz.underlying22 Tryz.sizeOf3 Tryz.zeroValue3 (by decide) (by decide) (by kernel_rfl) rfl rfl ?_
              have hh := hS28 
              rw [hF] at hh
              exact VA.to hh (by decide +kernel) (Le.mk hB [0, 1, 2] ⟨rfl, rfl, rfl, rfl, rfl, rfl, rfl, rfl, rfl, rfl, rfl, rfl, rfl, rfl, rfl, rfl, rfl, rfl, rfl, rfl, rfl, rfl, rfl, rfl, rfl, rfl, trivial⟩ rfl rfl (Nat.le_refl _))
          have hS37 : F 22 (lstB 70 [0, 1, 2, 3, 4, 5, 6, 7, 8, 9, 10, 11, 12, 13, 14, 16, 17, 18, 19, 20, 21, 22, 23, 24, 25, 27, 28, 29, 30, 31, 32, 33, 34, 37, 38, 39, 40, 41, 42, 43, 44, 45, 46, 48, 49, 50, 51, 52]) ⟨[(0, sp p), (2, (pA g2 (0))), (3, (pA g3 (0))), (65, sp p), (76, sp p), (87, sp p), (97, sp p), (108, sp p), (60, (pA gr (0 + m * 5))), (69, avS (xA l m).name), (73, avS (xA l m).name), (80, avS (xA l m).part), (84, avS (xA l m).part), (91, avI (xA l m).x), (94, avI (r9 + 1)), (101, avI (xA l m).y), (105, avI (xA l m).y), (112, avI (xA l m).quarter), (61, (pA gr (0 + m * 5))), (62, (pA gr (0 + m * 5))), (63, (pA gr (0 + m * 5))), (64, (pA gr (0 + m * 5))), (74, (iA 4 [avS (xA l m).name, avS (xA l m).name, avS ⟨#[]⟩, avS ⟨#[99, 49]⟩])), (85, (iA 3 [avS (xA l m).part, avS (xA l m).part, avS ⟨#[]⟩])), (106, (iA 4 [avI (xA l m).y, avI (xA l m).y, avI (-1), avI 4611686018427387904]))], [(bA g2), .box g3 ⟨[avS ⟨#[112]⟩, avI r9, avI r12, .v (.slice (some ⟨gr, 0, none⟩) l.length c)], 65, 4⟩, .box gr ⟨rowL l, 128, c * 5⟩], k + 3 + 5 * q + 1 + 1 + 1⟩ := by
            rw [hF]
            refine VA.all (rs := [15, 35, 53]) (by decide +kernel) (by decide) ?_
            refine ⟨⟨_, rfl, .inl rfl, ?_⟩, ⟨_, rfl, .inl rfl, ?_⟩, ⟨_, rfl, .inl rfl, ?_⟩, trivial⟩
            ·
              refine OpE.callT' (k + 3 + 5 * q + 1 + 1 + 1) rfl rfl hB rfl Tryz.call53 rfl (some_T 1000 (by rfl) (by decide) (by decide) (AllS.cons (hok.getD m).1 (AllS.cons (hok.getD m).1 (AllS.cons (by decide) (AllS.cons (by decide) AllS.nil))))) (by omega) ?_
              rintro _ ⟨r75, hr75, rfl⟩
              have hh := hS22 r75 hr75
              rw [hF] at hh
              exact VA.to hh (by decide +kernel) (Le.mk hB [0, 1, 2] ⟨rfl, rfl, rfl, rfl, rfl, rfl, rfl, rfl, rfl, rfl, rfl, rfl, rfl, rfl, rfl, rfl, rfl, rfl, rfl, rfl, rfl, rfl, rfl, rfl, rfl, rfl, trivial⟩ rfl rfl (Nat.le_refl _))
            ·
              refine OpE.buildSlice (zc := #[.int .i64 0, .int .i64 0, .int .i64 0]) rfl hB rfl Tryz.underlying22 Tryz.sizeOf3 Tryz.zeroValue3 (by decide) (by decide) (by kernel_rfl) rfl rfl ?_
              have hh := hS27 
              rw [hF] at hh
              exact VA.to hh (by decide +kernel) (Le.mk hB [0, 1, 2] ⟨rfl, rfl, rfl, rfl, rfl, rfl, rfl, rfl, rfl, rfl, rfl, rfl, rfl, rfl, rfl, rfl, rfl, rfl, rfl, rfl, rfl, rfl, rfl, rfl, rfl, rfl, trivial⟩ rfl rfl (Nat.le_refl _))
            ·
              refine OpE.buildSlice (zc := #[.int .i64 0, .int .i64 0, .int .i64 0]) rfl hB rfl Tryz.underlying22 Tryz.sizeOf3 Tryz.zeroValue3 (by decide) (by decide) (by kernel_rfl) rfl rfl ?_
              have hh := hS29 
              rw [hF] at hh
              exact VA.to hh (by decide +kernel) (Le.mk hB [0, 1, 2] ⟨rfl, rfl, rfl, rfl, rfl, rfl, rfl, rfl, rfl, rfl, rfl, rfl, rfl, rfl, rfl, rfl, rfl, rfl, rfl, rfl, rfl, rfl, rfl, rfl, rfl, rfl, trivial⟩ rfl rfl (Nat.le_refl _))
          have hS38 : F 22 (lstB 70 [0, 1, 2, 3, 4, 5, 6, 7, 8, 9, 10, 11, 12, 13, 14, 16, 17, 18, 19, 20, 21, 22, 23, 24, 25, 27, 28, 29, 30, 31, 32, 33, 34, 37, 38, 39, 40, 41, 42, 43, 44, 45, 48, 49, 50, 51, 52, 53]) ⟨[(0, sp p), (2, (pA g2 (0))), (3, (pA g3 (0))), (65, sp p), (76, sp p), (87, sp p), (97, sp p), (108, sp p), (60, (pA gr (0 + m * 5))), (69, avS (xA l m).name), (73, avS (xA l m).name), (80, avS (xA l m).part), (84, avS (xA l m).part), (91, avI (xA l m).x), (94, avI (r9 + 1)), (101, avI (xA l m).y), (105, avI (xA l m).y), (112, avI (xA l m).quarter), (61, (pA gr (0 + m * 5))), (62, (pA gr (0 + m * 5))), (63, (pA gr (0 + m * 5))), (64, (pA gr (0 + m * 5))), (74, (iA 4 [avS (xA l m).name, avS (xA l m).name, avS ⟨#[]⟩, avS ⟨#[99, 49]⟩])), (85, (iA 3 [avS (xA l m).part, avS (xA l m).part, avS ⟨#[]⟩])), (113, (iA 3 [avI (xA l m).quarter, avI 4, avI (-1)]))], [(bA g2), .box g3 ⟨[avS ⟨#[112]⟩, avI r9, avI r12, .v (.slice (some ⟨gr, 0, none⟩) l.length c)], 65, 4⟩, .box gr ⟨rowL l, 128, c * 5⟩], k + 3 + 5 * q + 1 + 1 + 1⟩ := by
            rw [hF]
            refine VA.all (rs := [15, 35, 46]) (by decide +kernel) (by decide) ?_
            refine ⟨⟨_, rfl, .inl rfl, ?_⟩, ⟨_, rfl, .inl rfl, ?_⟩, ⟨_, rfl, .inl rfl, ?_⟩, trivial⟩
            ·
              refine OpE.callT' (k + 3 + 5 * q + 1 + 1 + 1) rfl rfl hB rfl Tryz.call53 rfl (some_T 1000 (by rfl) (by decide) (by decide) (AllS.cons (hok.getD m).1 (AllS.cons (hok.getD m).1 (AllS.cons (by decide) (AllS.cons (by decide) AllS.nil))))) (by omega) ?_
              rintro _ ⟨r75, hr75, rfl⟩
              have hh := hS23 r75 hr75
              rw [hF] at hh
              exact VA.to hh (by decide +kernel) (Le.mk hB [0, 1, 2] ⟨rfl, rfl, rfl, rfl, rfl, rfl, rfl, rfl, rfl, rfl, rfl, rfl, rfl, rfl, rfl, rfl, rfl, rfl, rfl, rfl, rfl, rfl, rfl, rfl, rfl, rfl, trivial⟩ rfl rfl (Nat.le_refl _))
            ·
              refine OpE.buildSlice (zc := #[.int .i64 0, .int .i64 0, .int .i64 0]) rfl hB rfl Tryz.underlying22 Tryz.sizeOf3 Tryz.zeroValue3 (by decide) (by decide) (by kernel_rfl) rfl rfl ?_
              have hh := hS28 
              rw [hF] at hh
              exact VA.to hh (by decide +kernel) (Le.mk hB [0, 1, 2] ⟨rfl, rfl, rfl, rfl, rfl, rfl, rfl, rfl, rfl, rfl, rfl, rfl, rfl, rfl, rfl, rfl, rfl, rfl, rfl, rfl, rfl, rfl, rfl, rfl, rfl, rfl, trivial⟩ rfl rfl (Nat.le_refl _))
            ·
              refine OpE.buildSlice (zc := #[.int .i64 0, .int .i64 0, .int .i64 0, .int .i64 0]) rfl hB rfl Tryz.underlying22 Tryz.sizeOf3 Tryz.zeroValue3 (by decide) (by decide) (by kernel_rfl) rfl rfl ?_
              have hh := hS29 
              rw [hF] at hh
              exact VA.to hh (by decide +kernel) (Le.mk hB [0, 1, 2] ⟨rfl, rfl, rfl, rfl, rfl, rfl, rfl, rfl, rfl, rfl, rfl, rfl, rfl, rfl, rfl, rfl, rfl, rfl, rfl, rfl, rfl, rfl, rfl, rfl, rfl, rfl, trivial⟩ rfl rfl (Nat.le_refl _))
          have hS39 : F 22 (lstB 70 [0, 1, 2, 3, 4, 5, 6, 7, 8, 9, 10, 11, 12, 13, 14, 16, 17, 18, 19, 20, 21, 22, 23, 24, 27, 28, 29, 30, 31, 32, 33, 34, 35, 37, 38, 39, 40, 41, 42, 43, 44, 45, 46, 48, 49, 50, 51, 52]) ⟨[(0, sp p), (2, (pA g2 (0))), (3, (pA g3 (0))), (65, sp p), (76, sp p), (87, sp p), (97, sp p), (108, sp p), (60, (pA gr (0 + m * 5))), (69, avS (xA l m).name), (73, avS (xA l m).name), (80, avS (xA l m).part), (84, avS (xA l m).part), (91, avI (xA l m).x), (94, avI (r9 + 1)), (101, avI (xA l m).y), (105, avI (xA l m).y), (112, avI (xA l m).quarter), (61, (pA gr (0 + m * 5))), (62, (pA gr (0 + m * 5))), (63, (pA gr (0 + m * 5))), (64, (pA gr (0 + m * 5))), (74, (iA 4 [avS (xA l m).name, avS (xA l m).name, avS ⟨#[]⟩, avS ⟨#[99, 49]⟩])), (95, (iA 3 [avI (xA l m).x, avI (-1), avI (r9 + 1)])), (106, (iA 4 [avI (xA l m).y, avI (xA l m).y, avI (-1), avI 4611686018427387904]))], [(bA g2), .box g3 ⟨[avS ⟨#[112]⟩, avI r9, avI r12, .v (.slice (some ⟨gr, 0, none⟩) l.length c)], 65, 4⟩, .box gr ⟨rowL l, 128, c * 5⟩], k + 3 + 5 * q + 1 + 1 + 1⟩ := by
            rw [hF]
            refine VA.all (rs := [15, 25, 53]) (by decide +kernel) (by decide) ?_
            refine ⟨⟨_, rfl, .inl rfl, ?_⟩, ⟨_, rfl, .inl rfl, ?_⟩, ⟨_, rfl, .inl rfl, ?_⟩, trivial⟩
            ·
              refine OpE.callT' (k + 3 + 5 * q + 1 + 1 + 1) rfl rfl hB rfl Tryz.call53 rfl (some_T 1000 (by rfl) (by decide) (by decide) (AllS.cons (hok.getD m).1 (AllS.cons (hok.getD m).1 (AllS.cons (by decide) (AllS.cons (by decide) AllS.nil))))) (by omega) ?_
              rintro _ ⟨r75, hr75, rfl⟩
              have hh := hS24 r75 hr75
              rw [hF] at hh
              exact VA.to hh (by decide +kernel) (Le.mk hB [0, 1, 2] ⟨rfl, rfl, rfl, rfl, rfl, rfl, rfl, rfl, rfl, rfl, rfl, rfl, rfl, rfl, rfl, rfl, rfl, rfl, rfl, rfl, rfl, rfl, rfl, rfl, rfl, rfl, trivial⟩ rfl rfl (Nat.le_refl _))
            ·
              refine OpE.buildSlice (zc := #[.string ⟨#[]⟩, .string ⟨#[]⟩, .string ⟨#[]⟩]) rfl hB rfl Tryz.underlying29 Tryz.sizeOf9 Tryz.zeroValue9 (by decide) (by decide) (by kernel_rfl) rfl rfl ?_
              have hh := hS27 
              rw [hF] at hh
              exact VA.to hh (by decide +kernel) (Le.mk hB [0, 1, 2] ⟨rfl, rfl, rfl, rfl, rfl, rfl, rfl, rfl, rfl, rfl, rfl, rfl, rfl, rfl, rfl, rfl, rfl, rfl, rfl, rfl, rfl, rfl, rfl, rfl, rfl, rfl, trivial⟩ rfl rfl (Nat.le_refl _))
            ·
              refine OpE.buildSlice (zc := #[.int .i64 0, .int .i64 0, .int .i64 0]) rfl hB rfl Tryz.underlying22 Tryz.sizeOf3 Tryz.zeroValue3 (by decide) (by decide) (by kernel_rfl) rfl rfl ?_
              have hh := hS30 
              rw [hF] at hh
              exact VA.to hh (by decide +kernel) (Le.mk hB [0, 1, 2] ⟨rfl, rfl, rfl, rfl, rfl, rfl, rfl, rfl, rfl, rfl, rfl, rfl, rfl, rfl, rfl, rfl, rfl, rfl, rfl, rfl, rfl, rfl, rfl, rfl, rfl, rfl, trivial⟩ rfl rfl (Nat.le_refl _))
          have hS40 : F 22 (lstB 70 [0, 1, 2, 3, 4, 5, 6, 7, 8, 9, 10, 11, 12, 13, 14, 16, 17, 18, 19, 20, 21, 22, 23, 24, 27, 28, 29, 30, 31, 32, 33, 34, 35, 37, 38, 39, 40, 41, 42, 43, 44, 45, 48, 49, 50, 51, 52, 53]) ⟨[(0, sp p), (2, (pA g2 (0))), (3, (pA g3 (0))), (65, sp p), (76, sp p), (87, sp p), (97, sp p), (108, sp p), (60, (pA gr (0 + m * 5))), (69, avS (xA l m).name), (73, avS (xA l m).name), (80, avS (xA l m).part), (84, avS (xA l m).part), (91, avI (xA l m).x), (94, avI (r9 + 1)), (101, avI (xA l m).y), (105, avI (xA l m).y), (112, avI (xA l m).quarter), (61, (pA gr (0 + m * 5))), (62, (pA gr (0 + m * 5))), (63, (pA gr (0 + m * 5))), (64, (pA gr (0 + m * 5))), (74, (iA 4 [avS (xA l m).name, avS (xA l m).name, avS ⟨#[]⟩, avS ⟨#[99, 49]⟩])), (95, (iA 3 [avI (xA l m).x, avI (-1), avI (r9 + 1)])), (113, (iA 3 [avI (xA l m).quarter, avI 4, avI (-1)]))], [(bA g2), .box g3 ⟨[avS ⟨#[112]⟩, avI r9, avI r12, .v (.slice (some ⟨gr, 0, none⟩) l.length c)], 65, 4⟩, .box gr ⟨rowL l, 128, c * 5⟩], k + 3 + 5 * q + 1 + 1 + 1⟩ := by
            rw [hF]
            refine VA.all (rs := [15, 25, 46]) (by decide +kernel) (by decide) ?_
            refine ⟨⟨_, rfl, .inl rfl, ?_⟩, ⟨_, rfl, .inl rfl, ?_⟩, ⟨_, rfl, .inl rfl, ?_⟩, trivial⟩
            ·
              refine OpE.callT' (k + 3 + 5 * q + 1 + 1 + 1) rfl rfl hB rfl Tryz.call53 rfl (some_T 1000 (by rfl) (by decide) (by decide) (AllS.cons (hok.getD m).1 (AllS.cons (hok.getD m).1 (AllS.cons (by decide) (AllS.cons (by decide) AllS.nil))))) (by omega) ?_
              rintro _ ⟨r75, hr75, rfl⟩
              have hh := hS25 r75 hr75
              rw [hF] at hh
              exact VA.to hh (by decide +kernel) (Le.mk hB [0, 1, 2] ⟨rfl, rfl, rfl, rfl, rfl, rfl, rfl, rfl, rfl, rfl, rfl, rfl, rfl, rfl, rfl, rfl, rfl, rfl, rfl, rfl, rfl, rfl, rfl, rfl, rfl, rfl, trivial⟩ rfl rfl (Nat.le_refl _))
            ·
              refine OpE.buildSlice (zc := #[.string ⟨#[]⟩, .string ⟨#[]⟩, .string ⟨#[]⟩]) rfl hB rfl Tryz.underlying29 Tryz.sizeOf9 Tryz.zeroValue9 (by decide) (by decide) (by kernel_rfl) rfl rfl ?_
              have hh := hS28 
              rw [hF] at hh
              exact VA.to hh (by decide +kernel) (Le.mk hB [0, 1, 2] ⟨rfl, rfl, rfl, rfl, rfl, rfl, rfl, rfl, rfl, rfl, rfl, rfl, rfl, rfl, rfl, rfl, rfl, rfl, rfl, rfl, rfl, rfl, rfl, rfl, rfl, rfl, trivial⟩ rfl rfl (Nat.le_refl _))
            ·
              refine OpE.buildSlice (zc := #[.int .i64 0, .int .i64 0, .int .i64 0, .int .i64 0]) rfl hB rfl Tryz.underlying22 Tryz.sizeOf3 Tryz.zeroValue3 (by decide) (by decide) (by kernel_rfl) rfl rfl ?_
              have hh := hS30 
              rw [hF] at hh
              exact VA.to hh (by decide +kernel) (Le.mk hB [0, 1, 2] ⟨rfl, rfl, rfl, rfl, rfl, rfl, rfl, rfl, rfl, rfl, rfl, rfl, rfl, rfl, rfl, rfl, rfl, rfl, rfl, rfl, rfl, rfl, rfl, rfl, rfl, rfl, trivial⟩ rfl rfl (Nat.le_refl _))
          have hS41 : F 22 (lstB 70 [0, 1, 2, 3, 4, 5, 6, 7, 8, 9, 10, 11, 12, 13, 14, 16, 17, 18, 19, 20, 21, 22, 23, 24, 27, 28, 29, 30, 31, 32, 33, 34, 37, 38, 39, 40, 41, 42, 43, 44, 45, 46, 48, 49, 50, 51, 52, 53]) ⟨[(0, sp p), (2, (pA g2 (0))), (3, (pA g3 (0))), (65, sp p), (76, sp p), (87, sp p), (97, sp p), (108, sp p), (60, (pA gr (0 + m * 5))), (69, avS (xA l m).name), (73, avS (xA l m).name), (80, avS (xA l m).part), (84, avS (xA l m).part), (91, avI (xA l m).x), (94, avI (r9 + 1)), (101, avI (xA l m).y), (105, avI (xA l m).y), (112, avI (xA l m).quarter), (61, (pA gr (0 + m * 5))), (62, (pA gr (0 + m * 5))), (63, (pA gr (0 + m * 5))), (64, (pA gr (0 + m * 5))), (74, (iA 4 [avS (xA l m).name, avS (xA l m).name, avS ⟨#[]⟩, avS ⟨#[99, 49]⟩])), (106, (iA 4 [avI (xA l m).y, avI (xA l m).y, avI (-1), avI 4611686018427387904])), (113, (iA 3 [avI (xA l m).quarter, avI 4, avI (-1)]))], [(bA g2), .box g3 ⟨[avS ⟨#[112]⟩, avI r9, avI r12, .v (.slice (some ⟨gr, 0, none⟩) l.length c)], 65, 4⟩, .box gr ⟨rowL l, 128, c * 5⟩], k + 3 + 5 * q + 1 + 1 + 1⟩ := by
            rw [hF]
            refine VA.all (rs := [15, 25, 35]) (by decide +kernel) (by decide) ?_
            refine ⟨⟨_, rfl, .inl rfl, ?_⟩, ⟨_, rfl, .inl rfl, ?_⟩, ⟨_, rfl, .inl rfl, ?_⟩, trivial⟩
            ·
              refine OpE.callT' (k + 3 + 5 * q + 1 + 1 + 1) rfl rfl hB rfl Tryz.call53 rfl (some_T 1000 (by rfl) (by decide) (by decide) (AllS.cons (hok.getD m).1 (AllS.cons (hok.getD m).1 (AllS.cons (by decide) (AllS.cons (by decide) AllS.nil))))) (by omega) ?_
              rintro _ ⟨r75, hr75, rfl⟩
              have hh := hS26 r75 hr75
              rw [hF] at hh
              exact VA.to hh (by decide +kernel) (Le.mk hB [0, 1, 2] ⟨rfl, rfl, rfl, rfl, rfl, rfl, rfl, rfl, rfl, rfl, rfl, rfl, rfl, rfl, rfl, rfl, rfl, rfl, rfl, rfl, rfl, rfl, rfl, rfl, rfl, rfl, trivial⟩ rfl rfl (Nat.le_refl _))
            ·
              refine OpE.buildSlice (zc := #[.string ⟨#[]⟩, .string ⟨#[]⟩, .string ⟨#[]⟩]) rfl hB rfl Tryz.underlying29 Tryz.sizeOf9 Tryz.zeroValue9 (by decide) (by decide) (by kernel_rfl) rfl rfl ?_
              have hh := hS29 
              rw [hF] at hh
              exact VA.to hh (by decide +kernel) (Le.mk hB [0, 1, 2] ⟨rfl, rfl, rfl, rfl, rfl, rfl, rfl, rfl, rfl, rfl, rfl, rfl, rfl, rfl, rfl, rfl, rfl, rfl, rfl, rfl, rfl, rfl, rfl, rfl, rfl, rfl, trivial⟩ rfl rfl (Nat.le_refl _))
            ·
              refine OpE.buildSlice (zc := #[.int .i64 0, .int .i64 0, .int .i64 0]) rfl hB rfl Tryz.underlying22 Tryz.sizeOf3 Tryz.zeroValue3 (by decide) (by decide) (by kernel_rfl) rfl rfl ?_
              have hh := hS30 
              rw [hF] at hh
              exact VA.to hh (by decide +kernel) (Le.mk hB [0, 1, 2] ⟨rfl, rfl, rfl, rfl, rfl, rfl, rfl, rfl, rfl, rfl, rfl, rfl, rfl, rfl, rfl, rfl, rfl, rfl, rfl, rfl, rfl, rfl, rfl, rfl, rfl, rfl, trivial⟩ rfl rfl (Nat.le_refl _))
          have hS42 : F 22 (lstB 70 [0, 1, 2, 3, 4, 5, 6, 7, 8, 9, 10, 11, 12, 13, 16, 17, 18, 19, 20, 21, 22, 23, 24, 25, 27, 28, 29, 30, 31, 32, 33, 34, 35, 37, 38, 39, 40, 41, 42, 43, 44, 45, 46, 48, 49, 50, 51, 52]) ⟨[(0, sp p), (2, (pA g2 (0))), (3, (pA g3 (0))), (65, sp p), (76, sp p), (87, sp p), (97, sp p), (108, sp p), (60, (pA gr (0 + m * 5))), (69, avS (xA l m).name), (73, avS (xA l m).name), (80, avS (xA l m).part), (84, avS (xA l m).part), (91, avI (xA l m).x), (94, avI (r9 + 1)), (101, avI (xA l m).y), (105, avI (xA l m).y), (112, avI (xA l m).quarter), (61, (pA gr (0 + m * 5))), (62, (pA gr (0 + m * 5))), (63, (pA gr (0 + m * 5))), (64, (pA gr (0 + m * 5))), (85, (iA 3 [avS (xA l m).part, avS (xA l m).part, avS ⟨#[]⟩])), (95, (iA 3 [avI (xA l m).x, avI (-1), avI (r9 + 1)])), (106, (iA 4 [avI (xA l m).y, avI (xA l m).y, avI (-1), avI 4611686018427387904]))], [(bA g2), .box g3 ⟨[avS ⟨#[112]⟩, avI r9, avI r12, .v (.slice (some ⟨gr, 0, none⟩) l.length c)], 65, 4⟩, .box gr ⟨rowL l, 128, c * 5⟩], k + 3 + 5 * q + 1 + 1 + 1⟩ := by
            rw [hF]
            refine VA.all (rs := [14, 53]) (by decide +kernel) (by decide) ?_
            refine ⟨⟨_, rfl, .inl rfl, ?_⟩, ⟨_, rfl, .inl rfl, ?_⟩, trivial⟩
            ·
              refine OpE.buildSlice (zc := #[.string ⟨#[]⟩, .string ⟨#[]⟩, .string ⟨#[]⟩, .string ⟨#[]⟩]) rfl hB rfl Tryz.underlying29 Tryz.sizeOf9 Tryz.zeroValue9 (by decide) (by decide) (by kernel_rfl) rfl rfl ?_
              have hh := hS27 
              rw [hF] at hh
              exact VA.to hh (by decide +kernel) (Le.mk hB [0, 1, 2] ⟨rfl, rfl, rfl, rfl, rfl, rfl, rfl, rfl, rfl, rfl, rfl, rfl, rfl, rfl, rfl, rfl, rfl, rfl, rfl, rfl, rfl, rfl, rfl, rfl, rfl, rfl, trivial⟩ rfl rfl (Nat.le_refl _))
            ·
              refine OpE.buildSlice (zc := #[.int .i64 0, .int .i64 0, .int .i64 0]) rfl hB rfl Tryz.underlying22 Tryz.sizeOf3 Tryz.zeroValue3 (by decide) (by decide) (by kernel_rfl) rfl rfl ?_
              have hh := hS31 
              rw [hF] at hh
              exact VA.to hh (by decide +kernel) (Le.mk hB [0, 1, 2] ⟨rfl, rfl, rfl, rfl, rfl, rfl, rfl, rfl, rfl, rfl, rfl, rfl, rfl, rfl, rfl, rfl, rfl, rfl, rfl, rfl, rfl, rfl, rfl, rfl, rfl, rfl, trivial⟩ rfl rfl (Nat.le_refl _))
          have hS43 : F 22 (lstB 70 [0, 1, 2, 3, 4, 5, 6, 7, 8, 9, 10, 11, 12, 13, 16, 17, 18, 19, 20, 21, 22, 23, 24, 25, 27, 28, 29, 30, 31, 32, 33, 34, 35, 37, 38, 39, 40, 41, 42, 43, 44, 45, 48, 49, 50, 51, 52, 53]) ⟨[(0, sp p), (2, (pA g2 (0))), (3, (pA g3 (0))), (65, sp p), (76, sp p), (87, sp p), (97, sp p), (108, sp p), (60, (pA gr (0 + m * 5))), (69, avS (xA l m).name), (73, avS (xA l m).name), (80, avS (xA l m).part), (84, avS (xA l m).part), (91, avI (xA l m).x), (94, avI (r9 + 1)), (101, avI (xA l m).y), (105, avI (xA l m).y), (112, avI (xA l m).quarter), (61, (pA gr (0 + m * 5))), (62, (pA gr (0 + m * 5))), (63, (pA gr (0 + m * 5))), (64, (pA gr (0 + m * 5))), (85, (iA 3 [avS (xA l m).part, avS (xA l m).part, avS ⟨#[]⟩])), (95, (iA 3 [avI (xA l m).x, avI (-1), avI (r9 + 1)])), (113, (iA 3 [avI (xA l m).quarter, avI 4, avI (-1)]))], [(bA g2), .box g3 ⟨[avS ⟨#[112]⟩, avI r9, avI r12, .v (.slice (some ⟨gr, 0, none⟩) l.length c)], 65, 4⟩, .box gr ⟨rowL l, 128, c * 5⟩], k + 3 + 5 * q + 1 + 1 + 1⟩ := by
            rw [hF]
            refine VA.all (rs := [14, 46]) (by decide +kernel) (by decide) ?_
            refine ⟨⟨_, rfl, .inl rfl, ?_⟩, ⟨_, rfl, .inl rfl, ?_⟩, trivial⟩
            ·
              refine OpE.buildSlice (zc := #[.string ⟨#[]⟩, .string ⟨#[]⟩, .string ⟨#[]⟩, .string ⟨#[]⟩]) rfl hB rfl Tryz.underlying29 Tryz.sizeOf9 Tryz.zeroValue9 (by decide) (by decide) (by kernel_rfl) rfl rfl ?_
              have hh := hS28 
              rw [hF] at hh
              exact VA.to hh (by decide +kernel) (Le.mk hB [0, 1, 2] ⟨rfl, rfl, rfl, rfl, rfl, rfl, rfl, rfl, rfl, rfl, rfl, rfl, rfl, rfl, rfl, rfl, rfl, rfl, rfl, rfl, rfl, rfl, rfl, rfl, rfl, rfl, trivial⟩ rfl rfl (Nat.le_refl _))
            ·
              refine OpE.buildSlice (zc := #[.int .i64 0, .int .i64 0, .int .i64 0, .int .i64 0]) rfl hB rfl Tryz.underlying22 Tryz.sizeOf3 Tryz.zeroValue3 (by decide) (by decide) (by kernel_rfl) rfl rfl ?_
              have hh := hS31 
              rw [hF] at hh
              exact VA.to hh (by decide +kernel) (Le.mk hB [0, 1, 2] ⟨rfl, rfl, rfl, rfl, rfl, rfl, rfl, rfl, rfl, rfl, rfl, rfl, rfl, rfl, rfl, rfl, rfl, rfl, rfl, rfl, rfl, rfl, rfl, rfl, rfl, rfl, trivial⟩ rfl rfl (Nat.le_refl _))
          have hS44 : F 22 (lstB 70 [0, 1, 2, 3, 4, 5, 6, 7, 8, 9, 10, 11, 12, 13, 16, 17, 18, 19, 20, 21, 22, 23, 24, 25, 27, 28, 29, 30, 31, 32, 33, 34, 37, 38, 39, 40, 41, 42, 43, 44, 45, 46, 48, 49, 50, 51, 52, 53]) ⟨[(0, sp p), (2, (pA g2 (0))), (3, (pA g3 (0))), (65, sp p), (76, sp p), (87, sp p), (97, sp p), (108, sp p), (60, (pA gr (0 + m * 5))), (69, avS (xA l m).name), (73, avS (xA l m).name), (80, avS (xA l m).part), (84, avS (xA l m).part), (91, avI (xA l m).x), (94, avI (r9 + 1)), (101, avI (xA l m).y), (105, avI (xA l m).y), (112, avI (xA l m).quarter), (61, (pA gr (0 + m * 5))), (62, (pA gr (0 + m * 5))), (63, (pA gr (0 + m * 5))), (64, (pA gr (0 + m * 5))), (85, (iA 3 [avS (xA l m).part, avS (xA l m).part, avS ⟨#[]⟩])), (106, (iA 4 [avI (xA l m).y, avI (xA l m).y, avI (-1), avI 4611686018427387904])), (113, (iA 3 [avI (xA l m).quarter, avI 4, avI (-1)]))], [(bA g2), .box g3 ⟨[avS ⟨#[112]⟩, avI r9, avI r12, .v (.slice (some ⟨gr, 0, none⟩) l.length c)], 65, 4⟩, .box gr ⟨rowL l, 128, c * 5⟩], k + 3 + 5 * q + 1 + 1 + 1⟩ := by
            rw [hF]
            refine VA.all (rs := [14, 35]) (by decide +kernel) (by decide) ?_
            refine ⟨⟨_, rfl, .inl rfl, ?_⟩, ⟨_, rfl, .inl rfl, ?_⟩, trivial⟩
            ·
              refine OpE.buildSlice (zc := #[.string ⟨#[]⟩, .string ⟨#[]⟩, .string ⟨#[]⟩, .string ⟨#[]⟩]) rfl hB rfl Tryz.underlying29 Tryz.sizeOf9 Tryz.zeroValue9 (by decide) (by decide) (by kernel_rfl) rfl rfl ?_
              have hh := hS29 
              rw [hF] at hh
              exact VA.to hh (by decide +kernel) (Le.mk hB [0, 1, 2] ⟨rfl, rfl, rfl, rfl, rfl, rfl, rfl, rfl, rfl, rfl, rfl, rfl, rfl, rfl, rfl, rfl, rfl, rfl, rfl, rfl, rfl, rfl, rfl, rfl, rfl, rfl, trivial⟩ rfl rfl (Nat.le_refl _))
            ·
              refine OpE.buildSlice (zc := #[.int .i64 0, .int .i64 0, .int .i64 0]) rfl hB rfl Tryz.underlying22 Tryz.sizeOf3 Tryz.zeroValue3 (by decide) (by decide) (by kernel_rfl) rfl rfl ?_
              have hh := hS31 
              rw [hF] at hh
              exact VA.to hh (by decide +kernel) (Le.mk hB [0, 1, 2] ⟨rfl, rfl, rfl, rfl, rfl, rfl, rfl, rfl, rfl, rfl, rfl, rfl, rfl, rfl, rfl, rfl, rfl, rfl, rfl, rfl, rfl, rfl, rfl, rfl, rfl, rfl, trivial⟩ rfl rfl (Nat.le_refl _))
          have hS45 : F 22 (lstB 70 [0, 1, 2, 3, 4, 5, 6, 7, 8, 9, 10, 11, 12, 13, 16, 17, 18, 19, 20, 21, 22, 23, 24, 27, 28, 29, 30, 31, 32, 33, 34, 35, 37, 38, 39, 40, 41, 42, 43, 44, 45, 46, 48, 49, 50, 51, 52, 53]) ⟨[(0, sp p), (2, (pA g2 (0))), (3, (pA g3 (0))), (65, sp p), (76, sp p), (87, sp p), (97, sp p), (108, sp p), (60, (pA gr (0 + m * 5))), (69, avS (xA l m).name), (73, avS (xA l m).name), (80, avS (xA l m).part), (84, avS (xA l m).part), (91, avI (xA l m).x), (94, avI (r9 + 1)), (101, avI (xA l m).y), (105, avI (xA l m).y), (112, avI (xA l m).quarter), (61, (pA gr (0 + m * 5))), (62, (pA gr (0 + m * 5))), (63, (pA gr (0 + m * 5))), (64, (pA gr (0 + m * 5))), (95, (iA 3 [avI (xA l m).x, avI (-1), avI (r9 + 1)])), (106, (iA 4 [avI (xA l m).y, avI (xA l m).y, avI (-1), avI 4611686018427387904])), (113, (iA 3 [avI (xA l m).quarter, avI 4, avI (-1)]))], [(bA g2), .box g3 ⟨[avS ⟨#[112]⟩, avI r9, avI r12, .v (.slice (some ⟨gr, 0, none⟩) l.length c)], 65, 4⟩, .box gr ⟨rowL l, 128, c * 5⟩], k + 3 + 5 * q + 1 + 1 + 1⟩ := by
            rw [hF]
            refine VA.all (rs := [14, 25]) (by decide +kernel) (by decide) ?_
            refine ⟨⟨_, rfl, .inl rfl, ?_⟩, ⟨_, rfl, .inl rfl, ?_⟩, trivial⟩
            ·
              refine OpE.buildSlice (zc := #[.string ⟨#[]⟩, .string ⟨#[]⟩, .string ⟨#[]⟩, .string ⟨#[]⟩]) rfl hB rfl Tryz.underlying29 Tryz.sizeOf9 Tryz.zeroValue9 (by decide) (by decide) (by kernel_rfl) rfl rfl ?_
              have hh := hS30 
              rw [hF] at hh
              exact VA.to hh (by decide +kernel) (Le.mk hB [0, 1, 2] ⟨rfl, rfl, rfl, rfl, rfl, rfl, rfl, rfl, rfl, rfl, rfl, rfl, rfl, rfl, rfl, rfl, rfl, rfl, rfl, rfl, rfl, rfl, rfl, rfl, rfl, rfl, trivial⟩ rfl rfl (Nat.le_refl _))
            ·
              refine OpE.buildSlice (zc := #[.string ⟨#[]⟩, .string ⟨#[]⟩, .string ⟨#[]⟩]) rfl hB rfl Tryz.underlying29 Tryz.sizeOf9 Tryz.zeroValue9 (by decide) (by decide) (by kernel_rfl) rfl rfl ?_
              have hh := hS31 
              rw [hF] at hh
              exact VA.to hh (by decide +kernel) (Le.mk hB [0, 1, 2] ⟨rfl, rfl, rfl, rfl, rfl, rfl, rfl, rfl, rfl, rfl, rfl, rfl, rfl, rfl, rfl, rfl, rfl, rfl, rfl, rfl, rfl, rfl, rfl, rfl, rfl, rfl, trivial⟩ rfl rfl (Nat.le_refl _))
          have hS46 : ∀ (r75 : ByteArray) (hr75 : r75.size ≤ 1000), F 23 (lstB 70 [0, 1, 2, 3, 4, 5, 6, 7, 8, 9, 10, 11, 12, 13, 14, 15, 16, 17, 18, 19, 20, 21, 22, 23, 24, 27, 28, 29, 30, 31, 32, 33, 34, 37, 38, 39, 40, 41, 42, 43, 44, 45, 48, 49, 50, 51, 52]) ⟨[(0, sp p), (2, (pA g2 (0))), (3, (pA g3 (0))), (65, sp p), (76, sp p), (87, sp p), (97, sp p), (108, sp p), (60, (pA gr (0 + m * 5))), (69, avS (xA l m).name), (73, avS (xA l m).name), (80, avS (xA l m).part), (84, avS (xA l m).part), (91, avI (xA l m).x), (94, avI (r9 + 1)), (101, avI (xA l m).y), (105, avI (xA l m).y), (112, avI (xA l m).quarter), (61, (pA gr (0 + m * 5))), (62, (pA gr (0 + m * 5))), (63, (pA gr (0 + m * 5))), (64, (pA gr (0 + m * 5))), (74, (iA 4 [avS (xA l m).name, avS (xA l m).name, avS ⟨#[]⟩, avS ⟨#[99, 49]⟩])), (75, avS r75)], [(bA g2), .box g3 ⟨[avS ⟨#[112]⟩, avI r9, avI r12, .v (.slice (some ⟨gr, 0, none⟩) l.length c)], 65, 4⟩, .box gr ⟨rowL l, 128, c * 5⟩], k + 3 + 5 * q + 1 + 1 + 1 + 1⟩ := by
            intro r75 hr75
            rw [hF]
            refine VA.all (rs := [25, 35, 46, 53]) (by decide +kernel) (by decide) ?_
            refine ⟨⟨_, rfl, .inl rfl, ?_⟩, ⟨_, rfl, .inl rfl, ?_⟩, ⟨_, rfl, .inl rfl, ?_⟩, ⟨_, rfl, .inl rfl, ?_⟩, trivial⟩
            ·
              refine OpE.buildSlice (zc := #[.string ⟨#[]⟩, .string ⟨#[]⟩, .string ⟨#[]⟩]) rfl hB rfl Tryz.underlying29 Tryz.sizeOf9 Tryz.zeroValue9 (by decide) (by decide) (by kernel_rfl) rfl rfl ?_
              have hh := hS32 r75 hr75
              rw [hF] at hh
              exact VA.to hh (by decide +kernel) (Le.mk hB [0, 1, 2] ⟨rfl, rfl, rfl, rfl, rfl, rfl, rfl, rfl, rfl, rfl, rfl, rfl, rfl, rfl, rfl, rfl, rfl, rfl, rfl, rfl, rfl, rfl, rfl, rfl, rfl, trivial⟩ rfl rfl (Nat.le_refl _))
            ·
              refine OpE.buildSlice (zc := #[.int .i64 0, .int .i64 0, .int .i64 0]) rfl hB rfl Tryz.underlying22 Tryz.sizeOf3 Tryz.zeroValue3 (by decide) (by decide) (by kernel_rfl) rfl rfl ?_
              have hh := hS33 r75 hr75
              rw [hF] at hh
              exact VA.to hh (by decide +kernel) (Le.mk hB [0, 1, 2] ⟨rfl, rfl, rfl, rfl, rfl, rfl, rfl, rfl, rfl, rfl, rfl, rfl, rfl, rfl, rfl, rfl, rfl, rfl, rfl, rfl, rfl, rfl, rfl, rfl, rfl, trivial⟩ rfl rfl (Nat.le_refl _))
            ·
              refine OpE.buildSlice (zc := #[.int .i64 0, .int .i64 0, .int .i64 0, .int .i64 0]) rfl hB rfl Tryz.underlying22 Tryz.sizeOf3 Tryz.zeroValue3 (by decide) (by decide) (by kernel_rfl) rfl rfl ?_
              have hh := hS34 r75 hr75
              rw [hF] at hh
              exact VA.to hh (by decide +kernel) (Le.mk hB [0, 1, 2] ⟨rfl, rfl, rfl, rfl, rfl, rfl, rfl, rfl, rfl, rfl, rfl, rfl, rfl, rfl, rfl, rfl, rfl, rfl, rfl, rfl, rfl, rfl, rfl, rfl, rfl, trivial⟩ rfl rfl (Nat.le_refl _))
            ·
              refine OpE.buildSlice (zc := #[.int .i64 0, .int .i64 0, .int .i64 0]) rfl hB rfl Tryz.underlying22 Tryz.sizeOf3 Tryz.zeroValue3 (by decide) (by decide) (by kernel_rfl) rfl rfl ?_
              have hh := hS35 r75 hr75
              rw [hF] at hh
              exact VA.to hh (by decide +kernel) (Le.mk hB [0, 1, 2] ⟨rfl, rfl, rfl, rfl, rfl, rfl, rfl, rfl, rfl, rfl, rfl, rfl, rfl, rfl, rfl, rfl, rfl, rfl, rfl, rfl, rfl, rfl, rfl, rfl, rfl, trivial⟩ rfl rfl (Nat.le_refl _))
          have hS47 : F 23 (lstB 70 [0, 1, 2, 3, 4, 5, 6, 7, 8, 9, 10, 11, 12, 13, 14, 16, 17, 18, 19, 20, 21, 22, 23, 24, 25, 27, 28, 29, 30, 31, 32, 33, 34, 37, 38, 39, 40, 41, 42, 43, 44, 45, 48, 49, 50, 51, 52]) ⟨[(0, sp p), (2, (pA g2 (0))), (3, (pA g3 (0))), (65, sp p), (76, sp p), (87, sp p), (97, sp p), (108, sp p), (60, (pA gr (0 + m * 5))), (69, avS (xA l m).name), (73, avS (xA l m).name), (80, avS (xA l m).part), (84, avS (xA l m).part), (91, avI (xA l m).x), (94, avI (r9 + 1)), (101, avI (xA l m).y), (105, avI (xA l m).y), (112, avI (xA l m).quarter), (61, (pA gr (0 + m * 5))), (62, (pA gr (0 + m * 5))), (63, (pA gr (0 + m * 5))), (64, (pA gr (0 + m * 5))), (74, (iA 4 [avS (xA l m).name, avS (xA l m).name, avS ⟨#[]⟩, avS ⟨#[99, 49]⟩])), (85, (iA 3 [avS (xA l m).part, avS (xA l m).part, avS ⟨#[]⟩]))], [(bA g2), .box g3 ⟨[avS ⟨#[112]⟩, avI r9, avI r12, .v (.slice (some ⟨gr, 0, none⟩) l.length c)], 65, 4⟩, .box gr ⟨rowL l, 128, c * 5⟩], k + 3 + 5 * q + 1 + 1 + 1⟩ := by
            rw [hF]
            refine VA.all (rs := [15, 35, 46, 53]) (by decide +kernel) (by decide) ?_
            refine ⟨⟨_, rfl, .inl rfl, ?_⟩, ⟨_, rfl, .inl rfl, ?_⟩, ⟨_, rfl, .inl rfl, ?_⟩, ⟨_, rfl, .inl rfl, ?_⟩, trivial⟩
            ·
              refine OpE.callT' (k + 3 + 5 * q + 1 + 1 + 1) rfl rfl hB rfl Tryz.call53 rfl (some_T 1000 (by rfl) (by decide) (by decide) (AllS.cons (hok.getD m).1 (AllS.cons (hok.getD m).1 (AllS.cons (by decide) (AllS.cons (by decide) AllS.nil))))) (by omega) ?_
              rintro _ ⟨r75, hr75, rfl⟩
              have hh := hS32 r75 hr75
              rw [hF] at hh
              exact VA.to hh (by decide +kernel) (Le.mk hB [0, 1, 2] ⟨rfl, rfl, rfl, rfl, rfl, rfl, rfl, rfl, rfl, rfl, rfl, rfl, rfl, rfl, rfl, rfl, rfl, rfl, rfl, rfl, rfl, rfl, rfl, rfl, rfl, trivial⟩ rfl rfl (Nat.le_refl _))
            ·
              refine OpE.buildSlice (zc := #[.int .i64 0, .int .i64 0, .int .i64 0]) rfl hB rfl Tryz.underlying22 Tryz.sizeOf3 Tryz.zeroValue3 (by decide) (by decide) (by kernel_rfl) rfl rfl ?_
              have hh := hS36 
              rw [hF] at hh
              exact VA.to hh (by decide +kernel) (Le.mk hB [0, 1, 2] ⟨rfl, rfl, rfl, rfl, rfl, rfl, rfl, rfl, rfl, rfl, rfl, rfl, rfl, rfl, rfl, rfl, rfl, rfl, rfl, rfl, rfl, rfl, rfl, rfl, rfl, trivial⟩ rfl rfl (Nat.le_refl _))
            ·
              refine OpE.buildSlice (zc := #[.int .i64 0, .int .i64 0, .int .i64 0, .int .i64 0]) rfl hB rfl Tryz.underlying22 Tryz.sizeOf3 Tryz.zeroValue3 (by decide) (by decide) (by kernel_rfl) rfl rfl ?_
              have hh := hS37 
              rw [hF] at hh
              exact VA.to hh (by decide +kernel) (Le.mk hB [0, 1, 2] ⟨rfl, rfl, rfl, rfl, rfl, rfl, rfl, rfl, rfl, rfl, rfl, rfl, rfl, rfl, rfl, rfl, rfl, rfl, rfl, rfl, rfl, rfl, rfl, rfl, rfl, trivial⟩ rfl rfl (Nat.le_refl _))
            ·
              refine OpE.buildSlice (zc := #[.int .i64 0, .int .i64 0, .int .i64 0]) rfl hB rfl Tryz.underlying22 Tryz.sizeOf3 Tryz.zeroValue3 (by decide) (by decide) (by kernel_rfl) rfl rfl ?_
              have hh := hS38 
              rw [hF] at hh
              exact VA.to hh (by decide +kernel) (Le.mk hB [0, 1, 2] ⟨rfl, rfl, rfl, rfl, rfl, rfl, rfl, rfl, rfl, rfl, rfl, rfl, rfl, rfl, rfl, rfl, rfl, rfl, rfl, rfl, rfl, rfl, rfl, rfl, rfl, trivial⟩ rfl rfl (Nat.le_refl _))
          have hS48 : F 23 (lstB 70 [0, 1, 2, 3, 4, 5, 6, 7, 8, 9, 10, 11, 12, 13, 14, 16, 17, 18, 19, 20, 21, 22, 23, 24, 27, 28, 29, 30, 31, 32, 33, 34, 35, 37, 38, 39, 40, 41, 42, 43, 44, 45, 48, 49, 50, 51, 52]) ⟨[(0, sp p), (2, (pA g2 (0))), (3, (pA g3 (0))), (65, sp p), (76, sp p), (87, sp p), (97, sp p), (108, sp p), (60, (pA gr (0 + m * 5))), (69, avS (xA l m).name), (73, avS (xA l m).name), (80, avS (xA l m).part), (84, avS (xA l m).part), (91, avI (xA l m).x), (94, avI (r9 + 1)), (101, avI (xA l m).y), (105, avI (xA l m).y), (112, avI (xA l m).quarter), (61, (pA gr (0 + m * 5))), (62, (pA gr (0 + m * 5))), (63, (pA gr (0 + m * 5))), (64, (pA gr (0 + m * 5))), (74, (iA 4 [avS (xA l m).name, avS (xA l m).name, avS ⟨#[]⟩, avS ⟨#[99, 49]⟩])), (95, (iA 3 [avI (xA l m).x, avI (-1), avI (r9 + 1)]))], [(bA g2), .box g3 ⟨[avS ⟨#[112]⟩, avI r9, avI r12, .v (.slice (some ⟨gr, 0, none⟩) l.length c)], 65, 4⟩, .box gr ⟨rowL l, 128, c * 5⟩], k + 3 + 5 * q + 1 + 1 + 1⟩ := by
            rw [hF]
            refine VA.all (rs := [15, 25, 46, 53]) (by decide +kernel) (by decide) ?_
            refine ⟨⟨_, rfl, .inl rfl, ?_⟩, ⟨_, rfl, .inl rfl, ?_⟩, ⟨_, rfl, .inl rfl, ?_⟩, ⟨_, rfl, .inl rfl, ?_⟩, trivial⟩
            ·
              refine OpE.callT' (k + 3 + 5 * q + 1 + 1 + 1) rfl rfl hB rfl Tryz.call53 rfl (some_T 1000 (by rfl) (by decide) (by decide) (AllS.cons (hok.getD m).1 (AllS.cons (hok.getD m).1 (AllS.cons (by decide) (AllS.cons (by decide) AllS.nil))))) (by omega) ?_
              rintro _ ⟨r75, hr75, rfl⟩
              have hh := hS33 r75 hr75
              rw [hF] at hh
              exact VA.to hh (by decide +kernel) (Le.mk hB [0, 1, 2] ⟨rfl, rfl, rfl, rfl, rfl, rfl, rfl, rfl, rfl, rfl, rfl, rfl, rfl, rfl, rfl, rfl, rfl, rfl, rfl, rfl, rfl, rfl, rfl, rfl, rfl, trivial⟩ rfl rfl (Nat.le_refl _))
            ·
              refine OpE.buildSlice (zc := #[.string ⟨#[]⟩, .string ⟨#[]⟩, .string ⟨#[]⟩]) rfl hB rfl Tryz.underlying29 Tryz.sizeOf9 Tryz.zeroValue9 (by decide) (by decide) (by kernel_rfl) rfl rfl ?_
              have hh := hS36 
              rw [hF] at hh
              exact VA.to hh (by decide +kernel) (Le.mk hB [0, 1, 2] ⟨rfl, rfl, rfl, rfl, rfl, rfl, rfl, rfl, rfl, rfl, rfl, rfl, rfl, rfl, rfl, rfl, rfl, rfl, rfl, rfl, rfl, rfl, rfl, rfl, rfl, trivial⟩ rfl rfl (Nat.le_refl _))
            ·
              refine OpE.buildSlice (zc := #[.int .i64 0, .int .i64 0, .int .i64 0, .int .i64 0]) rfl hB rfl Tryz.underlying22 Tryz.sizeOf3 Tryz.zeroValue3 (by decide) (by decide) (by kernel_rfl) rfl rfl ?_
              have hh := hS39 
              rw [hF] at hh
              exact VA.to hh (by decide +kernel) (Le.mk hB [0, 1, 2] ⟨rfl, rfl, rfl, rfl, rfl, rfl, rfl, rfl, rfl, rfl, rfl, rfl, rfl, rfl, rfl, rfl, rfl, rfl, rfl, rfl, rfl, rfl, rfl, rfl, rfl, trivial⟩ rfl rfl (Nat.le_refl _))
            ·
              refine OpE.buildSlice (zc := #[.int .i64 0, .int .i64 0, .int .i64 0]) rfl hB rfl Tryz.underlying22 Tryz.sizeOf3 Tryz.zeroValue3 (by decide) (by decide) (by kernel_rfl) rfl rfl ?_
              have hh := hS40 
              rw [hF] at hh
              exact VA.to hh (by decide +kernel) (Le.mk hB [0, 1, 2] ⟨rfl, rfl, rfl, rfl, rfl, rfl, rfl, rfl, rfl, rfl, rfl, rfl, rfl, rfl, rfl, rfl, rfl, rfl, rfl, rfl, rfl, rfl, rfl, rfl, rfl, trivial⟩ rfl rfl (Nat.le_refl _))
          have hS49 : F 23 (lstB 70 [0, 1, 2, 3, 4, 5, 6, 7, 8, 9, 10, 11, 12, 13, 14, 16, 17, 18, 19, 20, 21, 22, 23, 24, 27, 28, 29, 30, 31, 32, 33, 34, 37, 38, 39, 40, 41, 42, 43, 44, 45, 46, 48, 49, 50, 51, 52]) ⟨[(0, sp p), (2, (pA g2 (0))), (3, (pA g3 (0))), (65, sp p), (76, sp p), (87, sp p), (97, sp p), (108, sp p), (60, (pA gr (0 + m * 5))), (69, avS (xA l m).name), (73, avS (xA l m).name), (80, avS (xA l m).part), (84, avS (xA l m).part), (91, avI (xA l m).x), (94, avI (r9 + 1)), (101, avI (xA l m).y), (105, avI (xA l m).y), (112, avI (xA l m).quarter), (61, (pA gr (0 + m * 5))), (62, (pA gr (0 + m * 5))), (63, (pA gr (0 + m * 5))), (64, (pA gr (0 + m * 5))), (74, (iA 4 [avS (xA l m).name, avS (xA l m).name, avS ⟨#[]⟩, avS ⟨#[99, 49]⟩])), (106, (iA 4 [avI (xA l m).y, avI (xA l m).y, avI (-1), avI 4611686018427387904]))], [(bA g2), .box g3 ⟨[avS ⟨#[112]⟩, avI r9, avI r12, .v (.slice (some ⟨gr, 0, none⟩) l.length c)], 65, 4⟩, .box gr ⟨rowL l, 128, c * 5⟩], k + 3 + 5 * q + 1 + 1 + 1⟩ := by
            rw [hF]
            refine VA.all (rs := [15, 25, 35, 53]) (by decide +kernel) (by decide) ?_
            refine ⟨⟨_, rfl, .inl rfl, ?_⟩, ⟨_, rfl, .inl rfl, ?_⟩, ⟨_, rfl, .inl rfl, ?_⟩, ⟨_, rfl, .inl rfl, ?_⟩, trivial⟩
            ·
              refine OpE.callT' (k + 3 + 5 * q + 1 + 1 + 1) rfl rfl hB rfl Tryz.call53 rfl (some_T 1000 (by rfl) (by decide) (by decide) (AllS.cons (hok.getD m).1 (AllS.cons (hok.getD m).1 (AllS.cons (by decide) (AllS.cons (by decide) AllS.nil))))) (by omega) ?_
              rintro _ ⟨r75, hr75, rfl⟩
              have hh := hS34 r75 hr75
              rw [hF] at hh
              exact VA.to hh (by decide +kernel) (Le.mk hB [0, 1, 2] ⟨rfl, rfl, rfl, rfl, rfl, rfl, rfl, rfl, rfl, rfl, rfl, rfl, rfl, rfl, rfl, rfl, rfl, rfl, rfl, rfl, rfl, rfl, rfl, rfl, rfl, trivial⟩ rfl rfl (Nat.le_refl _))
            ·
              refine OpE.buildSlice (zc := #[.string ⟨#[]⟩, .string ⟨#[]⟩, .string ⟨#[]⟩]) rfl hB rfl Tryz.underlying29 Tryz.sizeOf9 Tryz.zeroValue9 (by decide) (by decide) (by kernel_rfl) rfl rfl ?_
              have hh := hS37 
              rw [hF] at hh
              exact VA.to hh (by decide +kernel) (Le.mk hB [0, 1, 2] ⟨rfl, rfl, rfl, rfl, rfl, rfl, rfl, rfl, rfl, rfl, rfl, rfl, rfl, rfl, rfl, rfl, rfl, rfl, rfl, rfl, rfl, rfl, rfl, rfl, rfl, trivial⟩ rfl rfl (Nat.le_refl _))
            ·
              refine OpE.buildSlice (zc := #[.int .i64 0, .int .i64 0, .int .i64 0]) rfl hB rfl Tryz.underlying22 Tryz.sizeOf3 Tryz.zeroValue3 (by decide) (by decide) (by kernel_rfl) rfl rfl ?_
              have hh := hS39 
              rw [hF] at hh
              exact VA.to hh (by decide +kernel) (Le.mk hB [0, 1, 2] ⟨rfl, rfl, rfl, rfl, rfl, rfl, rfl, rfl, rfl, rfl, rfl, rfl, rfl, rfl, rfl, rfl, rfl, rfl, rfl, rfl, rfl, rfl, rfl, rfl, rfl, trivial⟩ rfl rfl (Nat.le_refl _))
            ·
              refine OpE.buildSlice (zc := #[.int .i64 0, .int .i64 0, .int .i64 0]) rfl hB rfl Tryz.underlying22 Tryz.sizeOf3 Tryz.zeroValue3 (by decide) (by decide) (by kernel_rfl) rfl rfl ?_
              have hh := hS41 
              rw [hF] at hh
              exact VA.to hh (by decide +kernel) (Le.mk hB [0, 1, 2] ⟨rfl, rfl, rfl, rfl, rfl, rfl, rfl, rfl, rfl, rfl, rfl, rfl, rfl, rfl, rfl, rfl, rfl, rfl, rfl, rfl, rfl, rfl, rfl, rfl, rfl, trivial⟩ rfl rfl (Nat.le_refl _))
          have hS50 : F 23 (lstB 70 [0, 1, 2, 3, 4, 5, 6, 7, 8, 9, 10, 11, 12, 13, 14, 16, 17, 18, 19, 20, 21, 22, 23, 24, 27, 28, 29, 30, 31, 32, 33, 34, 37, 38, 39, 40, 41, 42, 43, 44, 45, 48, 49, 50, 51, 52, 53]) ⟨[(0, sp p), (2, (pA g2 (0))), (3, (pA g3 (0))), (65, sp p), (76, sp p), (87, sp p), (97, sp p), (108, sp p), (60, (pA gr (0 + m * 5))), (69, avS (xA l m).name), (73, avS (xA l m).name), (80, avS (xA l m).part), (84, avS (xA l m).part), (91, avI (xA l m).x), (94, avI (r9 + 1)), (101, avI (xA l m).y), (105, avI (xA l m).y), (112, avI (xA l m).quarter), (61, (pA gr (0 + m * 5))), (62, (pA gr (0 + m * 5))), (63, (pA gr (0 + m * 5))), (64, (pA gr (0 + m * 5))), (74, (iA 4 [avS (xA l m).name, avS (xA l m).name, avS ⟨#[]⟩, avS ⟨#[99, 49]⟩])), (113, (iA 3 [avI (xA l m).quarter, avI 4, avI (-1)]))], [(bA g2), .box g3 ⟨[avS ⟨#[112]⟩, avI r9, avI r12, .v (.slice (some ⟨gr, 0, none⟩) l.length c)], 65, 4⟩, .box gr ⟨rowL l, 128, c * 5⟩], k + 3 + 5 * q + 1 + 1 + 1⟩ := by
            rw [hF]
            refine VA.all (rs := [15, 25, 35, 46]) (by decide +kernel) (by decide) ?_
            refine ⟨⟨_, rfl, .inl rfl, ?_⟩, ⟨_, rfl, .inl rfl, ?_⟩, ⟨_, rfl, .inl rfl, ?_⟩, ⟨_, rfl, .inl rfl, ?_⟩, trivial⟩
            ·
              refine OpE.callT' (k + 3 + 5 * q + 1 + 1 + 1) rfl rfl hB rfl Tryz.call53 rfl (some_T 1000 (by rfl) (by decide) (by decide) (AllS.cons (hok.getD m).1 (AllS.cons (hok.getD m).1 (AllS.cons (by decide) (AllS.cons (by decide) AllS.nil))))) (by omega) ?_
              rintro _ ⟨r75, hr75, rfl⟩
              have hh := hS35 r75 hr75
              rw [hF] at hh
              exact VA.to hh (by decide +kernel) (Le.mk hB [0, 1, 2] ⟨rfl, rfl, rfl, rfl, rfl, rfl, rfl, rfl, rfl, rfl, rfl, rfl, rfl, rfl, rfl, rfl, rfl, rfl, rfl, rfl, rfl, rfl, rfl, rfl, rfl, trivial⟩ rfl rfl (Nat.le_refl _))
            ·
              refine OpE.buildSlice (zc := #[.string ⟨#[]⟩, .string ⟨#[]⟩, .string ⟨#[]⟩]) rfl hB rfl Tryz.underlying29 Tryz.sizeOf9 Tryz.zeroValue9 (by decide) (by decide) (by kernel_rfl) rfl rfl ?_
              have hh := hS38 
              rw [hF] at hh
              exact VA.to hh (by decide +kernel) (Le.mk hB [0, 1, 2] ⟨rfl, rfl, rfl, rfl, rfl, rfl, rfl, rfl, rfl, rfl, rfl, rfl, rfl, rfl, rfl, rfl, rfl, rfl, rfl, rfl, rfl, rfl, rfl, rfl, rfl, trivial⟩ rfl rfl (Nat.le_refl _))
            ·
              refine OpE.buildSlice (zc := #[.int .i64 0, .int .i64 0, .int .i64 0]) rfl hB rfl Tryz.underlying22 Tryz.sizeOf3 Tryz.zeroValue3 (by decide) (by decide) (by kernel_rfl) rfl rfl ?_
              have hh := hS40 
              rw [hF] at hh
              exact VA.to hh (by decide +kernel) (Le.mk hB [0, 1, 2] ⟨rfl, rfl, rfl, rfl, rfl, rfl, rfl, rfl, rfl, rfl, rfl, rfl, rfl, rfl, rfl, rfl, rfl, rfl, rfl, rfl, rfl, rfl, rfl, rfl, rfl, trivial⟩ rfl rfl (Nat.le_refl _))
            ·
              refine OpE.buildSlice (zc := #[.int .i64 0, .int .i64 0, .int .i64 0, .int .i64 0]) rfl hB rfl Tryz.underlying22 Tryz.sizeOf3 Tryz.zeroValue3 (by decide) (by decide) (by kernel_rfl) rfl rfl ?_
              have hh := hS41 
              rw [hF] at hh
              exact VA.to hh (by decide +kernel) (Le.mk hB [0, 1, 2] ⟨rfl, rfl, rfl, rfl, rfl, rfl, rfl, rfl, rfl, rfl, rfl, rfl, rfl, rfl, rfl, rfl, rfl, rfl, rfl, rfl, rfl, rfl, rfl, rfl, rfl, trivial⟩ rfl rfl (Nat.le_refl _))
          have hS51 : F 23 (lstB 70 [0, 1, 2, 3, 4, 5, 6, 7, 8, 9, 10, 11, 12, 13, 16, 17, 18, 19, 20, 21, 22, 23, 24, 25, 27, 28, 29, 30, 31, 32, 33, 34, 35, 37, 38, 39, 40, 41, 42, 43, 44, 45, 48, 49, 50, 51, 52]) ⟨[(0, sp p), (2, (pA g2 (0))), (3, (pA g3 (0))), (65, sp p), (76, sp p), (87, sp p), (97, sp p), (108, sp p), (60, (pA gr (0 + m * 5))), (69, avS (xA l m).name), (73, avS (xA l m).name), (80, avS (xA l m).part), (84, avS (xA l m).part), (91, avI (xA l m).x), (94, avI (r9 + 1)), (101, avI (xA l m).y), (105, avI (xA l m).y), (112, avI (xA l m).quarter), (61, (pA gr (0 + m * 5))), (62, (pA gr (0 + m * 5))), (63, (pA gr (0 + m * 5))), (64, (pA gr (0 + m * 5))), (85, (iA 3 [avS (xA l m).part, avS (xA l m).part, avS ⟨#[]⟩])), (95, (iA 3 [avI (xA l m).x, avI (-1), avI (r9 + 1)]))], [(bA g2), .box g3 ⟨[avS ⟨#[112]⟩, avI r9, avI r12, .v (.slice (some ⟨gr, 0, none⟩) l.length c)], 65, 4⟩, .box gr ⟨rowL l, 128, c * 5⟩], k + 3 + 5 * q + 1 + 1 + 1⟩ := by
            rw [hF]
            refine VA.all (rs := [14, 46, 53]) (by decide +kernel) (by decide) ?_
            refine ⟨⟨_, rfl, .inl rfl, ?_⟩, ⟨_, rfl, .inl rfl, ?_⟩, ⟨_, rfl, .inl rfl, ?_⟩, trivial⟩
            ·
              refine OpE.buildSlice (zc := #[.string ⟨#[]⟩, .string ⟨#[]⟩, .string ⟨#[]⟩, .string ⟨#[]⟩]) rfl hB rfl Tryz.underlying29 Tryz.sizeOf9 Tryz.zeroValue9 (by decide) (by decide) (by kernel_rfl) rfl rfl ?_
              have hh := hS36 
              rw [hF] at hh
              exact VA.to hh (by decide +kernel) (Le.mk hB [0, 1, 2] ⟨rfl, rfl, rfl, rfl, rfl, rfl, rfl, rfl, rfl, rfl, rfl, rfl, rfl, rfl, rfl, rfl, rfl, rfl, rfl, rfl, rfl, rfl, rfl, rfl, rfl, trivial⟩ rfl rfl (Nat.le_refl _))
            ·
              refine OpE.buildSlice (zc := #[.int .i64 0, .int .i64 0, .int .i64 0, .int .i64 0]) rfl hB rfl Tryz.underlying22 Tryz.sizeOf3 Tryz.zeroValue3 (by decide) (by decide) (by kernel_rfl) rfl rfl ?_
              have hh := hS42 
              rw [hF] at hh
              exact VA.to hh (by decide +kernel) (Le.mk hB [0, 1, 2] ⟨rfl, rfl, rfl, rfl, rfl, rfl, rfl, rfl, rfl, rfl, rfl, rfl, rfl, rfl, rfl, rfl, rfl, rfl, rfl, rfl, rfl, rfl, rfl, rfl, rfl, trivial⟩ rfl rfl (Nat.le_refl _))
            ·
              refine OpE.buildSlice (zc := #[.int .i64 0, .int .i64 0, .int .i64 0]) rfl hB rfl Tryz.underlying22 Tryz.sizeOf3 Tryz.zeroValue3 (by decide) (by decide) (by kernel_rfl) rfl rfl ?_
              have hh := hS43 
              rw [hF] at hh
              exact VA.to hh (by decide +kernel) (Le.mk hB [0, 1, 2] ⟨rfl, rfl, rfl, rfl, rfl, rfl, rfl, rfl, rfl, rfl, rfl, rfl, rfl, rfl, rfl, rfl, rfl, rfl, rfl, rfl, rfl, rfl, rfl, rfl, rfl, trivial⟩ rfl rfl (Nat.le_refl _))
          have hS52 : F 23 (lstB 70 [0, 1, 2, 3, 4, 5, 6, 7, 8, 9, 10, 11, 12, 13, 16, 17, 18, 19, 20, 21, 22, 23, 24, 25, 27, 28, 29, 30, 31, 32, 33, 34, 37, 38, 39, 40, 41, 42, 43, 44, 45, 46, 48, 49, 50, 51, 52]) ⟨[(0, sp p), (2, (pA g2 (0))), (3, (pA g3 (0))), (65, sp p), (76, sp p), (87, sp p), (97, sp p), (108, sp p), (60, (pA gr (0 + m * 5))), (69, avS (xA l m).name), (73, avS (xA l m).name), (80, avS (xA l m).part), (84, avS (xA l m).part), (91, avI (xA l m).x), (94, avI (r9 + 1)), (101, avI (xA l m).y), (105, avI (xA l m).y), (112, avI (xA l m).quarter), (61, (pA gr (0 + m * 5))), (62, (pA gr (0 + m * 5))), (63, (pA gr (0 + m * 5))), (64, (pA gr (0 + m * 5))), (85, (iA 3 [avS (xA l m).part, avS (xA l m).part, avS ⟨#[]⟩])), (106, (iA 4 [avI (xA l m).y, avI (xA l m).y, avI (-1), avI 4611686018427387904]))], [(bA g2), .box g3 ⟨[avS ⟨#[112]⟩, avI r9, avI r12, .v (.slice (some ⟨gr, 0, none⟩) l.length c)], 65, 4⟩, .box gr ⟨rowL l, 128, c * 5⟩], k + 3 + 5 * q + 1 + 1 + 1⟩ := by
            rw [hF]
            refine VA.all (rs := [14, 35, 53]) (by decide +kernel) (by decide) ?_
            refine ⟨⟨_, rfl, .inl rfl, ?_⟩, ⟨_, rfl, .inl rfl, ?_⟩, ⟨_, rfl, .inl rfl, ?_⟩, trivial⟩
            ·
              refine OpE.buildSlice (zc := #[.string ⟨#[]⟩, .string ⟨#[]⟩, .string ⟨#[]⟩, .string ⟨#[]⟩]) rfl hB rfl Tryz.underlying29 Tryz.sizeOf9 Tryz.zeroValue9 (by decide) (by decide) (by kernel_rfl) rfl rfl ?_
              have hh := hS37 
              rw [hF] at hh
              exact VA.to hh (by decide +kernel) (Le.mk hB [0, 1, 2] ⟨rfl, rfl, rfl, rfl, rfl, rfl, rfl, rfl, rfl, rfl, rfl, rfl, rfl, rfl, rfl, rfl, rfl, rfl, rfl, rfl, rfl, rfl, rfl, rfl, rfl, trivial⟩ rfl rfl (Nat.le_refl _))
            ·
              refine OpE.buildSlice (zc := #[.int .i64 0, .int .i64 0, .int .i64 0]) rfl hB rfl Tryz.underlying22 Tryz.sizeOf3 Tryz.zeroValue3 (by decide) (by decide) (by kernel_rfl) rfl rfl ?_
              have hh := hS42 
              rw [hF] at hh
              exact VA.to hh (by decide +kernel) (Le.mk hB [0, 1, 2] ⟨rfl, rfl, rfl, rfl, rfl, rfl, rfl, rfl, rfl, rfl, rfl, rfl, rfl, rfl, rfl, rfl, rfl, rfl, rfl, rfl, rfl, rfl, rfl, rfl, rfl, trivial⟩ rfl rfl (Nat.le_refl _))
            ·
              refine OpE.buildSlice (zc := #[.int .i64 0, .int .i64 0, .int .i64 0]) rfl hB rfl Tryz.underlying22 Tryz.sizeOf3 Tryz.zeroValue3 (by decide) (by decide) (by kernel_rfl) rfl rfl ?_
              have hh := hS44 
              rw [hF] at hh
              exact VA.to hh (by decide +kernel) (Le.mk hB [0, 1, 2] ⟨rfl, rfl, rfl, rfl, rfl, rfl, rfl, rfl, rfl, rfl, rfl, rfl, rfl, rfl, rfl, rfl, rfl, rfl, rfl, rfl, rfl, rfl, rfl, rfl, rfl, trivial⟩ rfl rfl (Nat.le_refl _))
          have hS53 : F 23 (lstB 70 [0, 1, 2, 3, 4, 5, 6, 7, 8, 9, 10, 11, 12, 13, 16, 17, 18, 19, 20, 21, 22, 23, 24, 25, 27, 28, 29, 30, 31, 32, 33, 34, 37, 38, 39, 40, 41, 42, 43, 44, 45, 48, 49, 50, 51, 52, 53]) ⟨[(0, sp p), (2, (pA g2 (0))), (3, (pA g3 (0))), (65, sp p), (76, sp p), (87, sp p), (97, sp p), (108, sp p), (60, (pA gr (0 + m * 5))), (69, avS (xA l m).name), (73, avS (xA l m).name), (80, avS (xA l m).part), (84, avS (xA l m).part), (91, avI (xA l m).x), (94, avI (r9 + 1)), (101, avI (xA l m).y), (105, avI (xA l m).y), (112, avI (xA l m).quarter), (61, (pA gr (0 + m * 5))), (62, (pA gr (0 + m * 5))), (63, (pA gr (0 + m * 5))), (64, (pA gr (0 + m * 5))), (85, (iA 3 [avS (xA l m).part, avS (xA l m).part, avS ⟨#[]⟩])), (113, (iA 3 [avI (xA l m).quarter, avI 4, avI (-1)]))], [(bA g2), .box g3 ⟨[avS ⟨#[112]⟩, avI r9, avI r12, .v (.slice (some ⟨gr, 0, none⟩) l.length c)], 65, 4⟩, .box gr ⟨rowL l, 128, c * 5⟩], k + 3 + 5 * q + 1 + 1 + 1⟩ := by
            rw [hF]
            refine VA.all (rs := [14, 35, 46]) (by decide +kernel) (by decide) ?_
            refine ⟨⟨_, rfl, .inl rfl, ?_⟩, ⟨_, rfl, .inl rfl, ?_⟩, ⟨_, rfl, .inl rfl, ?_⟩, trivial⟩
            ·
              refine OpE.buildSlice (zc := #[.string ⟨#[]⟩, .string ⟨#[]⟩, .string ⟨#[]⟩, .string ⟨#[]⟩]) rfl hB rfl Tryz.underlying29 Tryz.sizeOf9 Tryz.zeroValue9 (by decide) (by decide) (by kernel_rfl) rfl rfl ?_
              have hh := hS38 
              rw [hF] at hh
              exact VA.to hh (by decide +kernel) (Le.mk hB [0, 1, 2] ⟨rfl, rfl, rfl, rfl, rfl, rfl, rfl, rfl, rfl, rfl, rfl, rfl, rfl, rfl, rfl, rfl, rfl, rfl, rfl, rfl, rfl, rfl, rfl, rfl, rfl, trivial⟩ rfl rfl (Nat.le_refl _))
            ·
              refine OpE.buildSlice (zc := #[.int .i64 0, .int .i64 0, .int .i64 0]) rfl hB rfl Tryz.underlying22 Tryz.sizeOf3 Tryz.zeroValue3 (by decide) (by decide) (by kernel_rfl) rfl rfl ?_
              have hh := hS43 
              rw [hF] at hh
              exact VA.to hh (by decide +kernel) (Le.mk hB [0, 1, 2] ⟨rfl, rfl, rfl, rfl, rfl, rfl, rfl, rfl, rfl, rfl, rfl, rfl, rfl, rfl, rfl, rfl, rfl, rfl, rfl, rfl, rfl, rfl, rfl, rfl, rfl, trivial⟩ rfl rfl (Nat.le_refl _))
            ·
              refine OpE.buildSlice (zc := #[.int .i64 0, .int .i64 0, .int .i64 0, .int .i64 0]) rfl hB rfl Tryz.underlying22 Tryz.sizeOf3 Tryz.zeroValue3 (by decide) (by decide) (by kernel_rfl) rfl rfl ?_
              have hh := hS44 
              rw [hF] at hh
              exact VA.to hh (by decide +kernel) (Le.mk hB [0, 1, 2] ⟨rfl, rfl, rfl, rfl, rfl, rfl, rfl, rfl, rfl, rfl, rfl, rfl, rfl, rfl, rfl, rfl, rfl, rfl, rfl, rfl, rfl, rfl, rfl, rfl, rfl, trivial⟩ rfl rfl (Nat.le_refl _))
          have hS54 : F 23 (lstB 70 [0, 1, 2, 3, 4, 5, 6, 7, 8, 9, 10, 11, 12, 13, 16, 17, 18, 19, 20, 21, 22, 23, 24, 27, 28, 29, 30, 31, 32, 33, 34, 35, 37, 38, 39, 40, 41, 42, 43, 44, 45, 46, 48, 49, 50, 51, 52]) ⟨[(0, sp p), (2, (pA g2 (0))), (3, (pA g3 (0))), (65, sp p), (76, sp p), (87, sp p), (97, sp p), (108, sp p), (60, (pA gr (0 + m * 5))), (69, avS (xA l m).name), (73, avS (xA l m).name), (80, avS (xA l m).part), (84, avS (xA l m).part), (91, avI (xA l m).x), (94, avI (r9 + 1)), (101, avI (xA l m).y), (105, avI (xA l m).y), (112, avI (xA l m).quarter), (61, (pA gr (0 + m * 5))), (62, (pA gr (0 + m * 5))), (63, (pA gr (0 + m * 5))), (64, (pA gr (0 + m * 5))), (95, (iA 3 [avI (xA l m).x, avI (-1), avI (r9 + 1)])), (106, (iA 4 [avI (xA l m).y, avI (xA l m).y, avI (-1), avI 4611686018427387904]))], [(bA g2), .box g3 ⟨[avS ⟨#[112]⟩, avI r9, avI r12, .v (.slice (some ⟨gr, 0, none⟩) l.length c)], 65, 4⟩, .box gr ⟨rowL l, 128, c * 5⟩], k + 3 + 5 * q + 1 + 1 + 1⟩ := by
            rw [hF]
            refine VA.all (rs := [14, 25, 53]) (by decide +kernel) (by decide) ?_
            refine ⟨⟨_, rfl, .inl rfl, ?_⟩, ⟨_, rfl, .inl rfl, ?_⟩, ⟨_, rfl, .inl rfl, ?_⟩, trivial⟩
            ·
              refine OpE.buildSlice (zc := #[.string ⟨#[]⟩, .string ⟨#[]⟩, .string ⟨#[]⟩, .string ⟨#[]⟩]) rfl hB rfl Tryz.underlying29 Tryz.sizeOf9 Tryz.zeroValue9 (by decide) (by decide) (by kernel_rfl) rfl rfl ?_
              have hh := hS39 
              rw [hF] at hh
              exact VA.to hh (by decide +kernel) (Le.mk hB [0, 1, 2] ⟨rfl, rfl, rfl, rfl, rfl, rfl, rfl, rfl, rfl, rfl, rfl, rfl, rfl, rfl, rfl, rfl, rfl, rfl, rfl, rfl, rfl, rfl, rfl, rfl, rfl, trivial⟩ rfl rfl (Nat.le_refl _))
            ·
              refine OpE.buildSlice (zc := #[.string ⟨#[]⟩, .string ⟨#[]⟩, .string ⟨#[]⟩]) rfl hB rfl Tryz.underlying29 Tryz.sizeOf9 Tryz.zeroValue9 (by decide) (by decide) (by kernel_rfl) rfl rfl ?_
              have hh := hS42 
              rw [hF] at hh
              exact VA.to hh (by decide +kernel) (Le.mk hB [0, 1, 2] ⟨rfl, rfl, rfl, rfl, rfl, rfl, rfl, rfl, rfl, rfl, rfl, rfl, rfl, rfl, rfl, rfl, rfl, rfl, rfl, rfl, rfl, rfl, rfl, rfl, rfl, trivial⟩ rfl rfl (Nat.le_refl _))
            ·
              refine OpE.buildSlice (zc := #[.int .i64 0, .int .i64 0, .int .i64 0]) rfl hB rfl Tryz.underlying22 Tryz.sizeOf3 Tryz.zeroValue3 (by decide) (by decide) (by kernel_rfl) rfl rfl ?_
              have hh := hS45 
              rw [hF] at hh
              exact VA.to hh (by decide +kernel) (Le.mk hB [0, 1, 2] ⟨rfl, rfl, rfl, rfl, rfl, rfl, rfl, rfl, rfl, rfl, rfl, rfl, rfl, rfl, rfl, rfl, rfl, rfl, rfl, rfl, rfl, rfl, rfl, rfl, rfl, trivial⟩ rfl rfl (Nat.le_refl _))
          have hS55 : F 23 (lstB 70 [0, 1, 2, 3, 4, 5, 6, 7, 8, 9, 10, 11, 12, 13, 16, 17, 18, 19, 20, 21, 22, 23, 24, 27, 28, 29, 30, 31, 32, 33, 34, 35, 37, 38, 39, 40, 41, 42, 43, 44, 45, 48, 49, 50, 51, 52, 53]) ⟨[(0, sp p), (2, (pA g2 (0))), (3, (pA g3 (0))), (65, sp p), (76, sp p), (87, sp p), (97, sp p), (108, sp p), (60, (pA gr (0 + m * 5))), (69, avS (xA l m).name), (73, avS (xA l m).name), (80, avS (xA l m).part), (84, avS (xA l m).part), (91, avI (xA l m).x), (94, avI (r9 + 1)), (101, avI (xA l m).y), (105, avI (xA l m).y), (112, avI (xA l m).quarter), (61, (pA gr (0 + m * 5))), (62, (pA gr (0 + m * 5))), (63, (pA gr (0 + m * 5))), (64, (pA gr (0 + m * 5))), (95, (iA 3 [avI (xA l m).x, avI (-1), avI (r9 + 1)])), (113, (iA 3 [avI (xA l m).quarter, avI 4, avI (-1)]))], [(bA g2), .box g3 ⟨[avS ⟨#[112]⟩, avI r9, avI r12, .v (.slice (some ⟨gr, 0, none⟩) l.length c)], 65, 4⟩, .box gr ⟨rowL l, 128, c * 5⟩], k + 3 + 5 * q + 1 + 1 + 1⟩ := by
            rw [hF]
            refine VA.all (rs := [14, 25, 46]) (by decide +kernel) (by decide) ?_
            refine ⟨⟨_, rfl, .inl rfl, ?_⟩, ⟨_, rfl, .inl rfl, ?_⟩, ⟨_, rfl, .inl rfl, ?_⟩, trivial⟩
            ·
              refine OpE.buildSlice (zc := #[.string ⟨#[]⟩, .string ⟨#[]⟩, .string ⟨#[]⟩, .string ⟨#[]⟩]) rfl hB rfl Tryz.underlying29 Tryz.sizeOf9 Tryz.zeroValue9 (by decide) (by decide) (by kernel_rfl) rfl rfl ?_
              have hh := hS40 
              rw [hF] at hh
              exact VA.to hh (by decide +kernel) (Le.mk hB [0, 1, 2] ⟨rfl, rfl, rfl, rfl, rfl, rfl, rfl, rfl, rfl, rfl, rfl, rfl, rfl, rfl, rfl, rfl, rfl, rfl, rfl, rfl, rfl, rfl, rfl, rfl, rfl, trivial⟩ rfl rfl (Nat.le_refl _))
            ·
              refine OpE.buildSlice (zc := #[.string ⟨#[]⟩, .string ⟨#[]⟩, .string ⟨#[]⟩]) rfl hB rfl Tryz.underlying29 Tryz.sizeOf9 Tryz.zeroValue9 (by decide) (by decide) (by kernel_rfl) rfl rfl ?_
              have hh := hS43 
              rw [hF] at hh
              exact VA.to hh (by decide +kernel) (Le.mk hB [0, 1, 2] ⟨rfl, rfl, rfl, rfl, rfl, rfl, rfl, rfl, rfl, rfl, rfl, rfl, rfl, rfl, rfl, rfl, rfl, rfl, rfl, rfl, rfl, rfl, rfl, rfl, rfl, trivial⟩ rfl rfl (Nat.le_refl _))
            ·
              refine OpE.buildSlice (zc := #[.int .i64 0, .int .i64 0, .int .i64 0, .int .i64 0]) rfl hB rfl Tryz.underlying22 Tryz.sizeOf3 Tryz.zeroValue3 (by decide) (by decide) (by kernel_rfl) rfl rfl ?_
              have hh := hS45 
              rw [hF] at hh
              exact VA.to hh (by decide +kernel) (Le.mk hB [0, 1, 2] ⟨rfl, rfl, rfl, rfl, rfl, rfl, rfl, rfl, rfl, rfl, rfl, rfl, rfl, rfl, rfl, rfl, rfl, rfl, rfl, rfl, rfl, rfl, rfl, rfl, rfl, trivial⟩ rfl rfl (Nat.le_refl _))
          have hS56 : F 23 (lstB 70 [0, 1, 2, 3, 4, 5, 6, 7, 8, 9, 10, 11, 12, 13, 16, 17, 18, 19, 20, 21, 22, 23, 24, 27, 28, 29, 30, 31, 32, 33, 34, 37, 38, 39, 40, 41, 42, 43, 44, 45, 46, 48, 49, 50, 51, 52, 53]) ⟨[(0, sp p), (2, (pA g2 (0))), (3, (pA g3 (0))), (65, sp p), (76, sp p), (87, sp p), (97, sp p), (108, sp p), (60, (pA gr (0 + m * 5))), (69, avS (xA l m).name), (73, avS (xA l m).name), (80, avS (xA l m).part), (84, avS (xA l m).part), (91, avI (xA l m).x), (94, avI (r9 + 1)), (101, avI (xA l m).y), (105, avI (xA l m).y), (112, avI (xA l m).quarter), (61, (pA gr (0 + m * 5))), (62, (pA gr (0 + m * 5))), (63, (pA gr (0 + m * 5))), (64, (pA gr (0 + m * 5))), (106, (iA 4 [avI (xA l m).y, avI (xA l m).y, avI (-1), avI 4611686018427387904])), (113, (iA 3 [avI (xA l m).quarter, avI 4, avI (-1)]))], [(bA g2), .box g3 ⟨[avS ⟨#[112]⟩, avI r9, avI r12, .v (.slice (some ⟨gr, 0, none⟩) l.length c)], 65, 4⟩, .box gr ⟨rowL l, 128, c * 5⟩], k + 3 + 5 * q + 1 + 1 + 1⟩ := by
            rw [hF]
            refine VA.all (rs := [14, 25, 35]) (by decide +kernel) (by decide) ?_
            refine ⟨⟨_, rfl, .inl rfl, ?_⟩, ⟨_, rfl, .inl rfl, ?_⟩, ⟨_, rfl, .inl rfl, ?_⟩, trivial⟩
            ·
              refine OpE.buildSlice (zc := #[.string ⟨#[]⟩, .string ⟨#[]⟩, .string ⟨#[]⟩, .string ⟨#[]⟩]) rfl hB rfl Tryz.underlying29 Tryz.sizeOf9 Tryz.zeroValue9 (by decide) (by decide) (by kernel_rfl) rfl rfl ?_
              have hh := hS41 
              rw [hF] at hh
              exact VA.to hh (by decide +kernel) (Le.mk hB [0, 1, 2] ⟨rfl, rfl, rfl, rfl, rfl, rfl, rfl, rfl, rfl, rfl, rfl, rfl, rfl, rfl, rfl, rfl, rfl, rfl, rfl, rfl, rfl, rfl, rfl, rfl, rfl, trivial⟩ rfl rfl (Nat.le_refl _))
            ·
              refine OpE.buildSlice (zc := #[.string ⟨#[]⟩, .string ⟨#[]⟩, .string ⟨#[]⟩]) rfl hB rfl Tryz.underlying29 Tryz.sizeOf9 Tryz.zeroValue9 (by decide) (by decide) (by kernel_rfl) rfl rfl ?_
              have hh := hS44 
              rw [hF] at hh
              exact VA.to hh (by decide +kernel) (Le.mk hB [0, 1, 2] ⟨rfl, rfl, rfl, rfl, rfl, rfl, rfl, rfl, rfl, rfl, rfl, rfl, rfl, rfl, rfl, rfl, rfl, rfl, rfl, rfl, rfl, rfl, rfl, rfl, rfl, trivial⟩ rfl rfl (Nat.le_refl _))
            ·
              refine OpE.buildSlice (zc := #[.int .i64 0, .int .i64 0, .int .i64 0]) rfl hB rfl Tryz.underlying22 Tryz.sizeOf3 Tryz.zeroValue3 (by decide) (by decide) (by kernel_rfl) rfl rfl ?_
              have hh := hS45 
              rw [hF] at hh
              exact VA.to hh (by decide +kernel) (Le.mk hB [0, 1, 2] ⟨rfl, rfl, rfl, rfl, rfl, rfl, rfl, rfl, rfl, rfl, rfl, rfl, rfl, rfl, rfl, rfl, rfl, rfl, rfl, rfl, rfl, rfl, rfl, rfl, rfl, trivial⟩ rfl rfl (Nat.le_refl _))
          have hS57 : F 24 (lstB 70 [0, 1, 2, 3, 4, 5, 6, 7, 8, 9, 10, 11, 12, 13, 14, 16, 17, 18, 19, 20, 21, 22, 23, 24, 27, 28, 29, 30, 31, 32, 33, 34, 37, 38, 39, 40, 41, 42, 43, 44, 45, 48, 49, 50, 51, 52]) ⟨[(0, sp p), (2, (pA g2 (0))), (3, (pA g3 (0))), (65, sp p), (76, sp p), (87, sp p), (97, sp p), (108, sp p), (60, (pA gr (0 + m * 5))), (69, avS (xA l m).name), (73, avS (xA l m).name), (80, avS (xA l m).part), (84, avS (xA l m).part), (91, avI (xA l m).x), (94, avI (r9 + 1)), (101, avI (xA l m).y), (105, avI (xA l m).y), (112, avI (xA l m).quarter), (61, (pA gr (0 + m * 5))), (62, (pA gr (0 + m * 5))), (63, (pA gr (0 + m * 5))), (64, (pA gr (0 + m * 5))), (74, (iA 4 [avS (xA l m).name, avS (xA l m).name, avS ⟨#[]⟩, avS ⟨#[99, 49]⟩]))], [(bA g2), .box g3 ⟨[avS ⟨#[112]⟩, avI r9, avI r12, .v (.slice (some ⟨gr, 0, none⟩) l.length c)], 65, 4⟩, .box gr ⟨rowL l, 128, c * 5⟩], k + 3 + 5 * q + 1 + 1 + 1⟩ := by
            rw [hF]
            refine VA.all (rs := [15, 25, 35, 46, 53]) (by decide +kernel) (by decide) ?_
            refine ⟨⟨_, rfl, .inl rfl, ?_⟩, ⟨_, rfl, .inl rfl, ?_⟩, ⟨_, rfl, .inl rfl, ?_⟩, ⟨_, rfl, .inl rfl, ?_⟩, ⟨_, rfl, .inl rfl, ?_⟩, trivial⟩
            ·
              refine OpE.callT' (k + 3 + 5 * q + 1 + 1 + 1) rfl rfl hB rfl Tryz.call53 rfl (some_T 1000 (by rfl) (by decide) (by decide) (AllS.cons (hok.getD m).1 (AllS.cons (hok.getD m).1 (AllS.cons (by decide) (AllS.cons (by decide) AllS.nil))))) (by omega) ?_
              rintro _ ⟨r75, hr75, rfl⟩
              have hh := hS46 r75 hr75
              rw [hF] at hh
              exact VA.to hh (by decide +kernel) (Le.mk hB [0, 1, 2] ⟨rfl, rfl, rfl, rfl, rfl, rfl, rfl, rfl, rfl, rfl, rfl, rfl, rfl, rfl, rfl, rfl, rfl, rfl, rfl, rfl, rfl, rfl, rfl, rfl, trivial⟩ rfl rfl (Nat.le_refl _))
            ·
              refine OpE.buildSlice (zc := #[.string ⟨#[]⟩, .string ⟨#[]⟩, .string ⟨#[]⟩]) rfl hB rfl Tryz.underlying29 Tryz.sizeOf9 Tryz.zeroValue9 (by decide) (by decide) (by kernel_rfl) rfl rfl ?_
              have hh := hS47 
              rw [hF] at hh
              exact VA.to hh (by decide +kernel) (Le.mk hB [0, 1, 2] ⟨rfl, rfl, rfl, rfl, rfl, rfl, rfl, rfl, rfl, rfl, rfl, rfl, rfl, rfl, rfl, rfl, rfl, rfl, rfl, rfl, rfl, rfl, rfl, rfl, trivial⟩ rfl rfl (Nat.le_refl _))
            ·
              refine OpE.buildSlice (zc := #[.int .i64 0, .int .i64 0, .int .i64 0]) rfl hB rfl Tryz.underlying22 Tryz.sizeOf3 Tryz.zeroValue3 (by decide) (by decide) (by kernel_rfl) rfl rfl ?_
              have hh := hS48 
              rw [hF] at hh
              exact VA.to hh (by decide +kernel) (Le.mk hB [0, 1, 2] ⟨rfl, rfl, rfl, rfl, rfl, rfl, rfl, rfl, rfl, rfl, rfl, rfl, rfl, rfl, rfl, rfl, rfl, rfl, rfl, rfl, rfl, rfl, rfl, rfl, trivial⟩ rfl rfl (Nat.le_refl _))
            ·
              refine OpE.buildSlice (zc := #[.int .i64 0, .int .i64 0, .int .i64 0, .int .i64 0]) rfl hB rfl Tryz.underlying22 Tryz.sizeOf3 Tryz.zeroValue3 (by decide) (by decide) (by kernel_rfl) rfl rfl ?_
              have hh := hS49 
              rw [hF] at hh
              exact VA.to hh (by decide +kernel) (Le.mk hB [0, 1, 2] ⟨rfl, rfl, rfl, rfl, rfl, rfl, rfl, rfl, rfl, rfl, rfl, rfl, rfl, rfl, rfl, rfl, rfl, rfl, rfl, rfl, rfl, rfl, rfl, rfl, trivial⟩ rfl rfl (Nat.le_refl _))
            ·
              refine OpE.buildSlice (zc := #[.int .i64 0, .int .i64 0, .int .i64 0]) rfl hB rfl Tryz.underlying22 Tryz.sizeOf3 Tryz.zeroValue3 (by decide) (by decide) (by kernel_rfl) rfl rfl ?_
              have hh := hS50 
              rw [hF] at hh
              exact VA.to hh (by decide +kernel) (Le.mk hB [0, 1, 2] ⟨rfl, rfl, rfl, rfl, rfl, rfl, rfl, rfl, rfl, rfl, rfl, rfl, rfl, rfl, rfl, rfl, rfl, rfl, rfl, rfl, rfl, rfl, rfl, rfl, trivial⟩ rfl rfl (Nat.le_refl _))
          have hS58 : F 24 (lstB 70 [0, 1, 2, 3, 4, 5, 6, 7, 8, 9, 10, 11, 12, 13, 16, 17, 18, 19, 20, 21, 22, 23, 24, 25, 27, 28, 29, 30, 31, 32, 33, 34, 37, 38, 39, 40, 41, 42, 43, 44, 45, 48, 49, 50, 51, 52]) ⟨[(0, sp p), (2, (pA g2 (0))), (3, (pA g3 (0))), (65, sp p), (76, sp p), (87, sp p), (97, sp p), (108, sp p), (60, (pA gr (0 + m * 5))), (69, avS (xA l m).name), (73, avS (xA l m).name), (80, avS (xA l m).part), (84, avS (xA l m).part), (91, avI (xA l m).x), (94, avI (r9 + 1)), (101, avI (xA l m).y), (105, avI (xA l m).y), (112, avI (xA l m).quarter), (61, (pA gr (0 + m * 5))), (62, (pA gr (0 + m * 5))), (63, (pA gr (0 + m * 5))), (64, (pA gr (0 + m * 5))), (85, (iA 3 [avS (xA l m).part, avS (xA l m).part, avS ⟨#[]⟩]))], [(bA g2), .box g3 ⟨[avS ⟨#[112]⟩, avI r9, avI r12, .v (.slice (some ⟨gr, 0, none⟩) l.length c)], 65, 4⟩, .box gr ⟨rowL l, 128, c * 5⟩], k + 3 + 5 * q + 1 + 1 + 1⟩ := by
            rw [hF]
            refine VA.all (rs := [14, 35, 46, 53]) (by decide +kernel) (by decide) ?_
            refine ⟨⟨_, rfl, .inl rfl, ?_⟩, ⟨_, rfl, .inl rfl, ?_⟩, ⟨_, rfl, .inl rfl, ?_⟩, ⟨_, rfl, .inl rfl, ?_⟩, trivial⟩
            ·
              refine OpE.buildSlice (zc := #[.string ⟨#[]⟩, .string ⟨#[]⟩, .string ⟨#[]⟩, .string ⟨#[]⟩]) rfl hB rfl Tryz.underlying29 Tryz.sizeOf9 Tryz.zeroValue9 (by decide) (by decide) (by kernel_rfl) rfl rfl ?_
              have hh := hS47 
              rw [hF] at hh
              exact VA.to hh (by decide +kernel) (Le.mk hB [0, 1, 2] ⟨rfl, rfl, rfl, rfl, rfl, rfl, rfl, rfl, rfl, rfl, rfl, rfl, rfl, rfl, rfl, rfl, rfl, rfl, rfl, rfl, rfl, rfl, rfl, rfl, trivial⟩ rfl rfl (Nat.le_refl _))
            ·
              refine OpE.buildSlice (zc := #[.int .i64 0, .int .i64 0, .int .i64 0]) rfl hB rfl Tryz.underlying22 Tryz.sizeOf3 Tryz.zeroValue3 (by decide) (by decide) (by kernel_rfl) rfl rfl ?_
              have hh := hS51 
              rw [hF] at hh
              exact VA.to hh (by decide +kernel) (Le.mk hB [0, 1, 2] ⟨rfl, rfl, rfl, rfl, rfl, rfl, rfl, rfl, rfl, rfl, rfl, rfl, rfl, rfl, rfl, rfl, rfl, rfl, rfl, rfl, rfl, rfl, rfl, rfl, trivial⟩ rfl rfl (Nat.le_refl _))
            ·
              refine OpE.buildSlice (zc := #[.int .i64 0, .int .i64 0, .int .i64 0, .int .i64 0]) rfl hB rfl Tryz.underlying22 Tryz.sizeOf3 Tryz.zeroValue3 (by decide) (by decide) (by kernel_rfl) rfl rfl ?_
              have hh := hS52 
              rw [hF] at hh
              exact VA.to hh (by decide +kernel) (Le.mk hB [0, 1, 2] ⟨rfl, rfl, rfl, rfl, rfl, rfl, rfl, rfl, rfl, rfl, rfl, rfl, rfl, rfl, rfl, rfl, rfl, rfl, rfl, rfl, rfl, rfl, rfl, rfl, trivial⟩ rfl rfl (Nat.le_refl _))
            ·
              refine OpE.buildSlice (zc := #[.int .i64 0, .int .i64 0, .int .i64 0]) rfl hB rfl Tryz.underlying22 Tryz.sizeOf3 Tryz.zeroValue3 (by decide) (by decide) (by kernel_rfl) rfl rfl ?_
              have hh := hS53 
              rw [hF] at hh
              exact VA.to hh (by decide +kernel) (Le.mk hB [0, 1, 2] ⟨rfl, rfl, rfl, rfl, rfl, rfl, rfl, rfl, rfl, rfl, rfl, rfl, rfl, rfl, rfl, rfl, rfl, rfl, rfl, rfl, rfl, rfl, rfl, rfl, trivial⟩ rfl rfl (Nat.le_refl _))
          have hS59 : F 24 (lstB 70 [0, 1, 2, 3, 4, 5, 6, 7, 8, 9, 10, 11, 12, 13, 16, 17, 18, 19, 20, 21, 22, 23, 24, 27, 28, 29, 30, 31, 32, 33, 34, 35, 37, 38, 39, 40, 41, 42, 43, 44, 45, 48, 49, 50, 51, 52]) ⟨[(0, sp p), (2, (pA g2 (0))), (3, (pA g3 (0))), (65, sp p), (76, sp p), (87, sp p), (97, sp p), (108, sp p), (60, (pA gr (0 + m * 5))), (69, avS (xA l m).name), (73, avS (xA l m).name), (80, avS (xA l m).part), (84, avS (xA l m).part), (91, avI (xA l m).x), (94, avI (r9 + 1)), (101, avI (xA l m).y), (105, avI (xA l m).y), (112, avI (xA l m).quarter), (61, (pA gr (0 + m * 5))), (62, (pA gr (0 + m * 5))), (63, (pA gr (0 + m * 5))), (64, (pA gr (0 + m * 5))), (95, (iA 3 [avI (xA l m).x, avI (-1), avI (r9 + 1)]))], [(bA g2), .box g3 ⟨[avS ⟨#[112]⟩, avI r9, avI r12, .v (.slice (some ⟨gr, 0, none⟩) l.length c)], 65, 4⟩, .box gr ⟨rowL l, 128, c * 5⟩], k + 3 + 5 * q + 1 + 1 + 1⟩ := by
            rw [hF]
            refine VA.all (rs := [14, 25, 46, 53]) (by decide +kernel) (by decide) ?_
            refine ⟨⟨_, rfl, .inl rfl, ?_⟩, ⟨_, rfl, .inl rfl, ?_⟩, ⟨_, rfl, .inl rfl, ?_⟩, ⟨_, rfl, .inl rfl, ?_⟩, trivial⟩
            ·
              refine OpE.buildSlice (zc := #[.string ⟨#[]⟩, .string ⟨#[]⟩, .string ⟨#[]⟩, .string ⟨#[]⟩]) rfl hB rfl Tryz.underlying29 Tryz.sizeOf9 Tryz.zeroValue9 (by decide) (by decide) (by kernel_rfl) rfl rfl ?_
              have hh := hS48 
              rw [hF] at hh
              exact VA.to hh (by decide +kernel) (Le.mk hB [0, 1, 2] ⟨rfl, rfl, rfl, rfl, rfl, rfl, rfl, rfl, rfl, rfl, rfl, rfl, rfl, rfl, rfl, rfl, rfl, rfl, rfl, rfl, rfl, rfl, rfl, rfl, trivial⟩ rfl rfl (Nat.le_refl _))
            ·
              refine OpE.buildSlice (zc := #[.string ⟨#[]⟩, .string ⟨#[]⟩, .string ⟨#[]⟩]) rfl hB rfl Tryz.underlying29 Tryz.sizeOf9 Tryz.zeroValue9 (by decide) (by decide) (by kernel_rfl) rfl rfl ?_
              have hh := hS51 
              rw [hF] at hh
              exact VA.to hh (by decide +kernel) (Le.mk hB [0, 1, 2] ⟨rfl, rfl, rfl, rfl, rfl, rfl, rfl, rfl, rfl, rfl, rfl, rfl, rfl, rfl, rfl, rfl, rfl, rfl, rfl, rfl, rfl, rfl, rfl, rfl, trivial⟩ rfl rfl (Nat.le_refl _))
            ·
              refine OpE.buildSlice (zc := #[.int .i64 0, .int .i64 0, .int .i64 0, .int .i64 0]) rfl hB rfl Tryz.underlying22 Tryz.sizeOf3 Tryz.zeroValue3 (by decide) (by decide) (by kernel_rfl) rfl rfl ?_
              have hh := hS54 
              rw [hF] at hh
              exact VA.to hh (by decide +kernel) (Le.mk hB [0, 1, 2] ⟨rfl, rfl, rfl, rfl, rfl, rfl, rfl, rfl, rfl, rfl, rfl, rfl, rfl, rfl, rfl, rfl, rfl, rfl, rfl, rfl, rfl, rfl, rfl, rfl, trivial⟩ rfl rfl (Nat.le_refl _))
            ·
              refine OpE.buildSlice (zc := #[.int .i64 0, .int .i64 0, .int .i64 0]) rfl hB rfl Tryz.underlying22 Tryz.sizeOf3 Tryz.zeroValue3 (by decide) (by decide) (by kernel_rfl) rfl rfl ?_
              have hh := hS55 
              rw [hF] at hh
              exact VA.to hh (by decide +kernel) (Le.mk hB [0, 1, 2] ⟨rfl, rfl, rfl, rfl, rfl, rfl, rfl, rfl, rfl, rfl, rfl, rfl, rfl, rfl, rfl, rfl, rfl, rfl, rfl, rfl, rfl, rfl, rfl, rfl, trivial⟩ rfl rfl (Nat.le_refl _))
          have hS60 : F 24 (lstB 70 [0, 1, 2, 3, 4, 5, 6, 7, 8, 9, 10, 11, 12, 13, 16, 17, 18, 19, 20, 21, 22, 23, 24, 27, 28, 29, 30, 31, 32, 33, 34, 37, 38, 39, 40, 41, 42, 43, 44, 45, 46, 48, 49, 50, 51, 52]) ⟨[(0, sp p), (2, (pA g2 (0))), (3, (pA g3 (0))), (65, sp p), (76, sp p), (87, sp p), (97, sp p), (108, sp p), (60, (pA gr (0 + m * 5))), (69, avS (xA l m).name), (73, avS (xA l m).name), (80, avS (xA l m).part), (84, avS (xA l m).part), (91, avI (xA l m).x), (94, avI (r9 + 1)), (101, avI (xA l m).y), (105, avI (xA l m).y), (112, avI (xA l m).quarter), (61, (pA gr (0 + m * 5))), (62, (pA gr (0 + m * 5))), (63, (pA gr (0 + m * 5))), (64, (pA gr (0 + m * 5))), (106, (iA 4 [avI (xA l m).y, avI (xA l m).y, avI (-1), avI 4611686018427387904]))], [(bA g2), .box g3 ⟨[avS ⟨#[112]⟩, avI r9, avI r12, .v (.slice (some ⟨gr, 0, none⟩) l.length c)], 65, 4⟩, .box gr ⟨rowL l, 128, c * 5⟩], k + 3 + 5 * q + 1 + 1 + 1⟩ := by
            rw [hF]
            refine VA.all (rs := [14, 25, 35, 53]) (by decide +kernel) (by decide) ?_
            refine ⟨⟨_, rfl, .inl rfl, ?_⟩, ⟨_, rfl, .inl rfl, ?_⟩, ⟨_, rfl, .inl rfl, ?_⟩, ⟨_, rfl, .inl rfl, ?_⟩, trivial⟩
            ·
              refine OpE.buildSlice (zc := #[.string ⟨#[]⟩, .string ⟨#[]⟩, .string ⟨#[]⟩, .string ⟨#[]⟩]) rfl hB rfl Tryz.underlying29 Tryz.sizeOf9 Tryz.zeroValue9 (by decide) (by decide) (by kernel_rfl) rfl rfl ?_
              have hh := hS49 
              rw [hF] at hh
              exact VA.to hh (by decide +kernel) (Le.mk hB [0, 1, 2] ⟨rfl, rfl, rfl, rfl, rfl, rfl, rfl, rfl, rfl, rfl, rfl, rfl, rfl, rfl, rfl, rfl, rfl, rfl, rfl, rfl, rfl, rfl, rfl, rfl, trivial⟩ rfl rfl (Nat.le_refl _))
            ·
              refine OpE.buildSlice (zc := #[.string ⟨#[]⟩, .string ⟨#[]⟩, .string ⟨#[]⟩]) rfl hB rfl Tryz.underlying29 Tryz.sizeOf9 Tryz.zeroValue9 (by decide) (by decide) (by kernel_rfl) rfl rfl ?_
              have hh := hS52 
              rw [hF] at hh
              exact VA.to hh (by decide +kernel) (Le.mk hB [0, 1, 2] ⟨rfl, rfl, rfl, rfl, rfl, rfl, rfl, rfl, rfl, rfl, rfl, rfl, rfl, rfl, rfl, rfl, rfl, rfl, rfl, rfl, rfl, rfl, rfl, rfl, trivial⟩ rfl rfl (Nat.le_refl _))
            ·
              refine OpE.buildSlice (zc := #[.int .i64 0, .int .i64 0, .int .i64 0]) rfl hB rfl Tryz.underlying22 Tryz.sizeOf3 Tryz.zeroValue3 (by decide) (by decide) (by kernel_rfl) rfl rfl ?_
              have hh := hS54 
              rw [hF] at hh
              exact VA.to hh (by decide +kernel) (Le.mk hB [0, 1, 2] ⟨rfl, rfl, rfl, rfl, rfl, rfl, rfl, rfl, rfl, rfl, rfl, rfl, rfl, rfl, rfl, rfl, rfl, rfl, rfl, rfl, rfl, rfl, rfl, rfl, trivial⟩ rfl rfl (Nat.le_refl _))
            ·
              refine OpE.buildSlice (zc := #[.int .i64 0, .int .i64 0, .int .i64 0]) rfl hB rfl Tryz.underlying22 Tryz.sizeOf3 Tryz.zeroValue3 (by decide) (by decide) (by kernel_rfl) rfl rfl ?_
              have hh := hS56 
              rw [hF] at hh
              exact VA.to hh (by decide +kernel) (Le.mk hB [0, 1, 2] ⟨rfl, rfl, rfl, rfl, rfl, rfl, rfl, rfl, rfl, rfl, rfl, rfl, rfl, rfl, rfl, rfl, rfl, rfl, rfl, rfl, rfl, rfl, rfl, rfl, trivial⟩ rfl rfl (Nat.le_refl _))
          have hS61 : F 24 (lstB 70 [0, 1, 2, 3, 4, 5, 6, 7, 8, 9, 10, 11, 12, 13, 16, 17, 18, 19, 20, 21, 22, 23, 24, 27, 28, 29, 30, 31, 32, 33, 34, 37, 38, 39, 40, 41, 42, 43, 44, 45, 48, 49, 50, 51, 52, 53]) ⟨[(0, sp p), (2, (pA g2 (0))), (3, (pA g3 (0))), (65, sp p), (76, sp p), (87, sp p), (97, sp p), (108, sp p), (60, (pA gr (0 + m * 5))), (69, avS (xA l m).name), (73, avS (xA l m).name), (80, avS (xA l m).part), (84, avS (xA l m).part), (91, avI (xA l m).x), (94, avI (r9 + 1)), (101, avI (xA l m).y), (105, avI (xA l m).y), (112, avI (xA l m).quarter), (61, (pA gr (0 + m * 5))), (62, (pA gr (0 + m * 5))), (63, (pA gr (0 + m * 5))), (64, (pA gr (0 + m * 5))), (113, (iA 3 [avI (xA l m).quarter, avI 4, avI (-1)]))], [(bA g2), .box g3 ⟨[avS ⟨#[112]⟩, avI r9, avI r12, .v (.slice (some ⟨gr, 0, none⟩) l.length c)], 65, 4⟩, .box gr ⟨rowL l, 128, c * 5⟩], k + 3 + 5 * q + 1 + 1 + 1⟩ := by
            rw [hF]
            refine VA.all (rs := [14, 25, 35, 46]) (by decide +kernel) (by decide) ?_
            refine ⟨⟨_, rfl, .inl rfl, ?_⟩, ⟨_, rfl, .inl rfl, ?_⟩, ⟨_, rfl, .inl rfl, ?_⟩, ⟨_, rfl, .inl rfl, ?_⟩, trivial⟩
            ·
              refine OpE.buildSlice (zc := #[.string ⟨#[]⟩, .string ⟨#[]⟩, .string ⟨#[]⟩, .string ⟨#[]⟩]) rfl hB rfl Tryz.underlying29 Tryz.sizeOf9 Tryz.zeroValue9 (by decide) (by decide) (by kernel_rfl) rfl rfl ?_
              have hh := hS50 
              rw [hF] at hh
              exact VA.to hh (by decide +kernel) (Le.mk hB [0, 1, 2] ⟨rfl, rfl, rfl, rfl, rfl, rfl, rfl, rfl, rfl, rfl, rfl, rfl, rfl, rfl, rfl, rfl, rfl, rfl, rfl, rfl, rfl, rfl, rfl, rfl, trivial⟩ rfl rfl (Nat.le_refl _))
            ·
              refine OpE.buildSlice (zc := #[.string ⟨#[]⟩, .string ⟨#[]⟩, .string ⟨#[]⟩]) rfl hB rfl Tryz.underlying29 Tryz.sizeOf9 Tryz.zeroValue9 (by decide) (by decide) (by kernel_rfl) rfl rfl ?_
              have hh := hS53 
              rw [hF] at hh
              exact VA.to hh (by decide +kernel) (Le.mk hB [0, 1, 2] ⟨rfl, rfl, rfl, rfl, rfl, rfl, rfl, rfl, rfl, rfl, rfl, rfl, rfl, rfl, rfl, rfl, rfl, rfl, rfl, rfl, rfl, rfl, rfl, rfl, trivial⟩ rfl rfl (Nat.le_refl _))
            ·
              refine OpE.buildSlice (zc := #[.int .i64 0, .int .i64 0, .int .i64 0]) rfl hB rfl Tryz.underlying22 Tryz.sizeOf3 Tryz.zeroValue3 (by decide) (by decide) (by kernel_rfl) rfl rfl ?_
              have hh := hS55 
              rw [hF] at hh
              exact VA.to hh (by decide +kernel) (Le.mk hB [0, 1, 2] ⟨rfl, rfl, rfl, rfl, rfl, rfl, rfl, rfl, rfl, rfl, rfl, rfl, rfl, rfl, rfl, rfl, rfl, rfl, rfl, rfl, rfl, rfl, rfl, rfl, trivial⟩ rfl rfl (Nat.le_refl _))
            ·
              refine OpE.buildSlice (zc := #[.int .i64 0, .int .i64 0, .int .i64 0, .int .i64 0]) rfl hB rfl Tryz.underlying22 Tryz.sizeOf3 Tryz.zeroValue3 (by decide) (by decide) (by kernel_rfl) rfl rfl ?_
              have hh := hS56 
              rw [hF] at hh
              exact VA.to hh (by decide +kernel) (Le.mk hB [0, 1, 2] ⟨rfl, rfl, rfl, rfl, rfl, rfl, rfl, rfl, rfl, rfl, rfl, rfl, rfl, rfl, rfl, rfl, rfl, rfl, rfl, rfl, rfl, rfl, rfl, rfl, trivial⟩ rfl rfl (Nat.le_refl _))
          have hS62 : F 25 (lstB 70 [0, 1, 2, 3, 4, 5, 6, 7, 8, 9, 10, 11, 12, 13, 16, 17, 18, 19, 20, 21, 22, 23, 24, 27, 28, 29, 30, 31, 32, 33, 34, 37, 38, 39, 40, 41, 42, 43, 44, 45, 48, 49, 50, 51, 52]) ⟨[(0, sp p), (2, (pA g2 (0))), (3, (pA g3 (0))), (65, sp p), (76, sp p), (87, sp p), (97, sp p), (108, sp p), (60, (pA gr (0 + m * 5))), (69, avS (xA l m).name), (73, avS (xA l m).name), (80, avS (xA l m).part), (84, avS (xA l m).part), (91, avI (xA l m).x), (94, avI (r9 + 1)), (101, avI (xA l m).y), (105, avI (xA l m).y), (112, avI (xA l m).quarter), (61, (pA gr (0 + m * 5))), (62, (pA gr (0 + m * 5))), (63, (pA gr (0 + m * 5))), (64, (pA gr (0 + m * 5)))], [(bA g2), .box g3 ⟨[avS ⟨#[112]⟩, avI r9, avI r12, .v (.slice (some ⟨gr, 0, none⟩) l.length c)], 65, 4⟩, .box gr ⟨rowL l, 128, c * 5⟩], k + 3 + 5 * q + 1 + 1 + 1⟩ := by
            rw [hF]
            refine VA.all (rs := [14, 25, 35, 46, 53]) (by decide +kernel) (by decide) ?_
            refine ⟨⟨_, rfl, .inl rfl, ?_⟩, ⟨_, rfl, .inl rfl, ?_⟩, ⟨_, rfl, .inl rfl, ?_⟩, ⟨_, rfl, .inl rfl, ?_⟩, ⟨_, rfl, .inl rfl, ?_⟩, trivial⟩
            ·
              refine OpE.buildSlice (zc := #[.string ⟨#[]⟩, .string ⟨#[]⟩, .string ⟨#[]⟩, .string ⟨#[]⟩]) rfl hB rfl Tryz.underlying29 Tryz.sizeOf9 Tryz.zeroValue9 (by decide) (by decide) (by kernel_rfl) rfl rfl ?_
              have hh := hS57 
              rw [hF] at hh
              exact VA.to hh (by decide +kernel) (Le.mk hB [0, 1, 2] ⟨rfl, rfl, rfl, rfl, rfl, rfl, rfl, rfl, rfl, rfl, rfl, rfl, rfl, rfl, rfl, rfl, rfl, rfl, rfl, rfl, rfl, rfl, rfl, trivial⟩ rfl rfl (Nat.le_refl _))
            ·
              refine OpE.buildSlice (zc := #[.string ⟨#[]⟩, .string ⟨#[]⟩, .string ⟨#[]⟩]) rfl hB rfl Tryz.underlying29 Tryz.sizeOf9 Tryz.zeroValue9 (by decide) (by decide) (by kernel_rfl) rfl rfl ?_
              have hh := hS58 
              rw [hF] at hh
              exact VA.to hh (by decide +kernel) (Le.mk hB [0, 1, 2] ⟨rfl, rfl, rfl, rfl, rfl, rfl, rfl, rfl, rfl, rfl, rfl, rfl, rfl, rfl, rfl, rfl, rfl, rfl, rfl, rfl, rfl, rfl, rfl, trivial⟩ rfl rfl (Nat.le_refl _))
            ·
              refine OpE.buildSlice (zc := #[.int .i64 0, .int .i64 0, .int .i64 0]) rfl hB rfl Tryz.underlying22 Tryz.sizeOf3 Tryz.zeroValue3 (by decide) (by decide) (by kernel_rfl) rfl rfl ?_
              have hh := hS59 
              rw [hF] at hh
              exact VA.to hh (by decide +kernel) (Le.mk hB [0, 1, 2] ⟨rfl, rfl, rfl, rfl, rfl, rfl, rfl, rfl, rfl, rfl, rfl, rfl, rfl, rfl, rfl, rfl, rfl, rfl, rfl, rfl, rfl, rfl, rfl, trivial⟩ rfl rfl (Nat.le_refl _))
            ·
              refine OpE.buildSlice (zc := #[.int .i64 0, .int .i64 0, .int .i64 0, .int .i64 0]) rfl hB rfl Tryz.underlying22 Tryz.sizeOf3 Tryz.zeroValue3 (by decide) (by decide) (by kernel_rfl) rfl rfl ?_
              have hh := hS60 
              rw [hF] at hh
              exact VA.to hh (by decide +kernel) (Le.mk hB [0, 1, 2] ⟨rfl, rfl, rfl, rfl, rfl, rfl, rfl, rfl, rfl, rfl, rfl, rfl, rfl, rfl, rfl, rfl, rfl, rfl, rfl, rfl, rfl, rfl, rfl, trivial⟩ rfl rfl (Nat.le_refl _))
            ·
              refine OpE.buildSlice (zc := #[.int .i64 0, .int .i64 0, .int .i64 0]) rfl hB rfl Tryz.underlying22 Tryz.sizeOf3 Tryz.zeroValue3 (by decide) (by decide) (by kernel_rfl) rfl rfl ?_
              have hh := hS61 
              rw [hF] at hh
              exact VA.to hh (by decide +kernel) (Le.mk hB [0, 1, 2] ⟨rfl, rfl, rfl, rfl, rfl, rfl, rfl, rfl, rfl, rfl, rfl, rfl, rfl, rfl, rfl, rfl, rfl, rfl, rfl, rfl, rfl, rfl, rfl, trivial⟩ rfl rfl (Nat.le_refl _))
          rw [hF]
          have hh := hS62 
          rw [hF] at hh
          exact VA.to hh (by decide +kernel) (Le.mk hB [0, 1, 2] ⟨rfl, rfl, rfl, rfl, rfl, rfl, rfl, rfl, rfl, rfl, rfl, rfl, rfl, rfl, rfl, rfl, rfl, rfl, rfl, rfl, rfl, rfl, trivial⟩ rfl rfl (Nat.le_refl _))
        · have aH5 := aH5b
          try simp only [qqT, qqF, qqN, qqM, qqL, qqE] at aH5
          refine VC.skip ?_
          refine VC.seq ?_
          first | refine VC.le _ (Le.boxRow (i := 2) (n := l.length) (sz := 5) rfl (by simp only [rowL_len, List.length_set]; rfl) (by omega) (by omega)) ?_ | skip
          refine VC.region ?_
          refine VO.val rfl rfl (OpV.loadK_own (i := 1) rfl hB Tryz.isAgg65 Tryz.sizeOf65 rfl rfl rfl (fun h => h)) ?_
          refine VO.le _ (Le.aggRow (t := 143) (j := 3) (i := 2) (y := avL l) hB hnew rfl rfl rfl (fun w Z u h => Rep.rowL rfl h)) ?_
          refine VO.op rfl (OpE.store (i := 0) rfl hB rfl Tryz.sizeOf65 rfl rfl rfl rfl rfl rfl (Nle rfl) trivial ?_)
          refine VO.nil ?_
          refine VC.ret ?_
          exact Exists.intro _ (And.intro (RetV.one Tryz.results36 ((by first | exact ResV.cellK (i := 0) Tryz.isAgg65 Tryz.sizeOf65 rfl rfl rfl | exact ResV.cellK (i := 1) Tryz.isAgg65 Tryz.sizeOf65 rfl rfl rfl | exact ResV.cellK (i := 2) Tryz.isAgg65 Tryz.sizeOf65 rfl rfl rfl))) (And.intro (by first | exact ⟨⟨_, _, _, l⟩, ⟨POk.sm (by first | decide | assumption) (by omega) hok, by show l.length ≤ 5; omega⟩, rfl⟩ | exact ⟨⟨_, _, _, (((((l.set m ({l.getD m default with name := r75} : PlaceS)).set m ({l.getD m default with name := r75, part := r86} : PlaceS)).set m ({l.getD m default with name := r75, part := r86, x := r96} : PlaceS)).set m ({l.getD m default with name := r75, part := r86, x := r96, y := r107} : PlaceS)).set m ({l.getD m default with name := r75, part := r86, x := r96, y := r107, quarter := r114} : PlaceS))⟩, ⟨POk.sm (by decide) (by simp; omega) (by repeat (first | exact hok | refine POk.set ?_ _ ⟨by first | exact hr75 | exact (hok.getD m).1, by first | exact hr86 | exact (hok.getD m).2⟩)), by simp; omega⟩, rfl⟩) ((show k + 3 + 5 * q + 1 + 1 ≤ k + 50 by omega))))
    · have aH3 := aH3b
      try simp only [qqT, qqF, qqN, qqM, qqL, qqE] at aH3
      refine VC.skip ?_
      refine VC.seq ?_
      first | refine VC.le _ (Le.boxRow (i := 2) (n := l.length) (sz := 5) rfl (by simp only [rowL_len, List.length_set]; rfl) (by omega) (by omega)) ?_ | skip
      refine VC.region ?_
      refine VO.val rfl rfl (OpV.loadK_own (i := 1) rfl hB Tryz.isAgg65 Tryz.sizeOf65 rfl rfl rfl (fun h => h)) ?_
      refine VO.le _ (Le.aggRow (t := 143) (j := 3) (i := 2) (y := avL l) hB hnew rfl rfl rfl (fun w Z u h => Rep.rowL rfl h)) ?_
      refine VO.op rfl (OpE.store (i := 0) rfl hB rfl Tryz.sizeOf65 rfl rfl rfl rfl rfl rfl (Nle rfl) trivial ?_)
      refine VO.nil ?_
      refine VC.ret ?_
      exact Exists.intro _ (And.intro (RetV.one Tryz.results36 ((by first | exact ResV.cellK (i := 0) Tryz.isAgg65 Tryz.sizeOf65 rfl rfl rfl | exact ResV.cellK (i := 1) Tryz.isAgg65 Tryz.sizeOf65 rfl rfl rfl | exact ResV.cellK (i := 2) Tryz.isAgg65 Tryz.sizeOf65 rfl rfl rfl))) (And.intro (by first | exact ⟨⟨_, _, _, l⟩, ⟨POk.sm (by first | decide | assumption) (by omega) hok, by show l.length ≤ 5; omega⟩, rfl⟩ | exact ⟨⟨_, _, _, (((((l.set m ({l.getD m default with name := r75} : PlaceS)).set m ({l.getD m default with name := r75, part := r86} : PlaceS)).set m ({l.getD m default with name := r75, part := r86, x := r96} : PlaceS)).set m ({l.getD m default with name := r75, part := r86, x := r96, y := r107} : PlaceS)).set m ({l.getD m default with name := r75, part := r86, x := r96, y := r107, quarter := r114} : PlaceS))⟩, ⟨POk.sm (by decide) (by simp; omega) (by repeat (first | exact hok | refine POk.set ?_ _ ⟨by first | exact hr75 | exact (hok.getD m).1, by first | exact hr86 | exact (hok.getD m).2⟩)), by simp; omega⟩, rfl⟩) ((show k + 3 + 5 * q + 1 ≤ k + 50 by omega))))
end Go.Proofs.YtbbgjeiefmiblaaGreatDoor
namespace Go.Proofs.YtbbgjeiefmiblaaGreatDoor
open Go.RowKit
set_option linter.unusedVariables false
set_option linter.unusedSimpArgs false

inductive EqFs (P : Program) : Nat → List Field → List AV → List AV → Bool → Prop where
 | nil (off : Nat) : EqFs P off [] [] [] true
 | int {off : Nat} {f : Field} {fs : List Field} {k k' : IntKind} {a b : Int} {xs ys : List AV} {r : Bool} (hu : P.underlying f.type = some (.int k')) (hag : ∀ w, (isAgg f.type).run P w = .ok false w) (ho : f.offset = off) (hn : f.name ≠ "_") (h : EqFs P (off + 1) fs xs ys r) :
   EqFs P off (f :: fs) (.v (.int k a) :: xs) (.v (.int k b) :: ys) (decide (a = b) && r)
 | str {off : Nat} {f : Field} {fs : List Field} {a b : ByteArray} {xs ys : List AV} {r : Bool} (hu : P.underlying f.type = some .string) (hag : ∀ w, (isAgg f.type).run P w = .ok false w) (ho : f.offset = off) (hn : f.name ≠ "_") (h : EqFs P (off + 1) fs xs ys r) :
   EqFs P off (f :: fs) (.v (.string a) :: xs) (.v (.string b) :: ys) (sEq a b && r)
 | bool {off : Nat} {f : Field} {fs : List Field} {a b : Bool} {xs ys : List AV} {r : Bool} (hu : P.underlying f.type = some .bool) (hag : ∀ w, (isAgg f.type).run P w = .ok false w) (ho : f.offset = off) (hn : f.name ≠ "_") (h : EqFs P (off + 1) fs xs ys r) :
   EqFs P off (f :: fs) (.v (.bool a) :: xs) (.v (.bool b) :: ys) ((a == b) && r)

theorem EqFs.run {P : Program} {w : World} {Z : Nat → Prop} {us vs : Array Value} {d : Nat} : ∀ {off : Nat} {fs : List Field} {xs ys : List AV} {r : Bool}, EqFs P off fs xs ys r →
  (∀ j, (h : j < xs.length) → off + j < us.size ∧ Rep w Z xs[j] (us.getD (off + j) undef)) → (∀ j, (h : j < ys.length) → off + j < vs.size ∧ Rep w Z ys[j] (vs.getD (off + j) undef)) → ∀ w', (Op.eqFields (d + 1) us vs fs).run P w' = .ok r w' := by
 intro off fs xs ys r h
 have cellP : ∀ (t : TypeId) (us : Array Value) (off : Nat) (v : Value) (w' : World), (∀ w, (isAgg t).run P w = .ok false w) → off < us.size → us.getD off undef = v → (part t us off).run P w' = .ok v w' := fun t us off v w' hag hl hv => by
  have : us[off]? = some v := by rw [← hv, Array.getD_eq_getD_getElem?, Array.getElem?_eq_getElem hl]; rfl
  simp [part, hag, this]
 have sh : ∀ n j : Nat, n + (j + 1) = n + 1 + j := fun n j => by omega
 induction h with
 | nil off => intro _ _ w'; rfl
 | int hu hag ho hn h ih =>
  intro h1 h2 w'
  obtain ⟨k1, k2⟩ := h1 0 (by simp)
  obtain ⟨k3, k4⟩ := h2 0 (by simp)
  subst ho
  have e1 := cellP _ us _ _ w' hag k1 k2.eq_v
  have e2 := cellP _ vs _ _ w' hag k3 k4.eq_v
  have ih' := ih (fun j hj => by have := h1 (j + 1) (by simpa using hj); rw [sh] at this; exact this) (fun j hj => by have := h2 (j + 1) (by simpa using hj); rw [sh] at this; exact this) w'
  simp only [Nat.add_zero] at e1 e2
  rename_i a b _ _ _
  have e3 := fun k => run_equalIn_int (P := P) w' d _ k _ a b hu
  simp only [Op.eqFields, hn, ne_eq, not_false_eq_true, if_true, Sem.run_bind, e1, e2, e3, Result.andThen_ok]
  by_cases hab : a = b
  ·subst hab; simpa using ih'
  ·simp [hab]
 | str hu hag ho hn h ih =>
  intro h1 h2 w'
  obtain ⟨k1, k2⟩ := h1 0 (by simp)
  obtain ⟨k3, k4⟩ := h2 0 (by simp)
  subst ho
  have e1 := cellP _ us _ _ w' hag k1 k2.eq_v
  have e2 := cellP _ vs _ _ w' hag k3 k4.eq_v
  have ih' := ih (fun j hj => by have := h1 (j + 1) (by simpa using hj); rw [sh] at this; exact this) (fun j hj => by have := h2 (j + 1) (by simpa using hj); rw [sh] at this; exact this) w'
  simp only [Nat.add_zero] at e1 e2
  rename_i a b _ _ _
  have e3 := run_equalIn_string (P := P) w' d _ a b hu
  simp only [Op.eqFields, hn, ne_eq, not_false_eq_true, if_true, Sem.run_bind, e1, e2, e3, Result.andThen_ok]
  cases hab : sEq a b with
  | true => unfold sEq at hab; rw [hab]; simpa using ih'
  | false => unfold sEq at hab; rw [hab]; simp
 | bool hu hag ho hn h ih =>
  intro h1 h2 w'
  obtain ⟨k1, k2⟩ := h1 0 (by simp)
  obtain ⟨k3, k4⟩ := h2 0 (by simp)
  subst ho
  have e1 := cellP _ us _ _ w' hag k1 k2.eq_v
  have e2 := cellP _ vs _ _ w' hag k3 k4.eq_v
  have ih' := ih (fun j hj => by have := h1 (j + 1) (by simpa using hj); rw [sh] at this; exact this) (fun j hj => by have := h2 (j + 1) (by simpa using hj); rw [sh] at this; exact this) w'
  simp only [Nat.add_zero] at e1 e2
  rename_i a b _ _ _
  have e3 := run_equalIn_bool' (P := P) w' d _ a b hu
  simp only [Op.eqFields, hn, ne_eq, not_false_eq_true, if_true, Sem.run_bind, e1, e2, e3, Result.andThen_ok]
  cases hab : (a == b) with
  | true => simpa using ih'
  | false => simp

section
variable {P : Program} {B : Bs} {W : Nat → Prop} {s : St'} {o : Oper}
theorem agg_eq {w : World} {Z : Nat → Prop} {t : TypeId} {xs ys : List AV} {u v : Value} {r : Bool} (hu : P.underlying t = some (.struct (P.fieldsOf t))) (hs : P.stoodInHeld t = false) (h : EqFs P 0 (P.fieldsOf t).toList xs ys r) (hx : Rep w Z (.agg xs) u) (hy : Rep w Z (.agg ys) v) :
  ∃ us vs, u = .agg us ∧ v = .agg vs ∧ ∀ w', (Op.equalIn 10000 t u v).run P w' = .ok r w' := by
 cases hx with
 | agg _ us l1 r1 =>
  cases hy with
  | agg _ vs l2 r2 =>
   refine ⟨us, vs, rfl, rfl, fun w' => ?_⟩
   rw [run_equalIn_struct w' 9999 t us vs hu hs]
   exact h.run (w := w) (Z := Z) (fun j hj => ⟨by omega, by rw [Nat.zero_add]; exact r1 j hj⟩) (fun j hj => ⟨by omega, by rw [Nat.zero_add]; exact r2 j hj⟩) w'
theorem OpV.aneq {x y : Operand} {t u : TypeId} {xs ys : List AV} {r : Bool} (ho : o.op = .binOp .neq t x y u) (hu : P.underlying t = some (.struct (P.fieldsOf t))) (hs : P.stoodInHeld t = false) (hg : P.eqGuardType P.depth t = false)
  (hx : evO s x = some (.agg xs)) (hy : evO s y = some (.agg ys)) (h : EqFs P 0 (P.fieldsOf t).toList xs ys r) : OpV P B W s o (avB (!r)) := fun a w hr => by
 obtain ⟨us, vs, e1, e2, e3⟩ := agg_eq hu hs h (hr.ev hx) (hr.ev hy)
 rw [e1, e2] at e3
 refine ⟨_, fun w' _ => ?_, .v _⟩
 simp only [execOp, ho, e1, e2, Sem.run_bind, run_eqGuard_agg w' _ t x y us vs hg, run_neq_struct, e3, Result.andThen_ok, Sem.run_pure]
end
end Go.Proofs.YtbbgjeiefmiblaaGreatDoor
namespace Go.Proofs.YtbbgjeiefmiblaaGreatDoor
open Go.RowKit
set_option linter.unusedVariables false
set_option linter.unusedSimpArgs false
set_option maxRecDepth 100000 in
theorem panel_isSize {n : Int}  :
  SpecN Tryz.prog 138 [avI n] (fun y => y = avB (!outR n 1 500000)) := by
 refine SpecN.of_VCN Tryz.func138 rfl Tryz.ntmps138 (Nle rfl) fun w A hB => ?_
 have hnew : True := trivial
 refine VC.sr ?_
 refine VO.ma rfl rfl rfl rfl ?_
 refine VO.nil ?_
 refine VC.sr ?_
 refine VO.mv rfl rfl rfl rfl ?_
 refine VO.op rfl (OpE.call rfl hB rfl Tryz.call112 rfl (SpecN.spec (kit_Outside)) ?_)
 rintro _ rfl
 refine VO.val rfl rfl (OpV.not rfl rfl) ?_
 refine VO.ma rfl rfl rfl rfl ?_
 refine VO.nil ?_
 refine VC.ret ?_
 exact Exists.intro _ (And.intro (RetN.one Tryz.results138 (ResN.v rfl)) (rfl))
set_option maxRecDepth 100000 in
theorem panel_placementFault {p : ProdS} {i : Nat} (hs : SmP p) (hi : i < p.places.length) :
  SpecN Tryz.prog 139 [avProd p, avI (i : Int)] (fun y => y = avI (placeE p i)) := by
 refine SpecN.of_VCN Tryz.func139 rfl Tryz.ntmps139 (Nle rfl) fun w A hB => ?_
 have hnew : True := trivial
 refine VC.seq ?_
 have hl := hs.len
 refine VC.region ?_
 refine VO.op rfl (OpE.box rfl hB rfl rfl rfl ?_)
 intro g2
 refine VO.ma rfl rfl rfl rfl ?_
 refine VO.nil ?_
 refine VC.sr ?_
 refine VO.val rfl rfl (OpV.fieldAddrO 3 rfl Tryz.underlying65 rfl rfl Tryz.sizeOf63 rfl) ?_
 refine VO.val rfl rfl (OpV.load_own (i := 0) rfl hB Tryz.isAgg63 rfl rfl rfl (fun h => h)) ?_
 refine VO.mv rfl rfl rfl rfl ?_
 refine VO.val rfl rfl (OpV.indexAddr_E rfl Tryz.underlying63 Tryz.sizeOf128 rfl rfl rfl (by omega)) ?_
 refine VO.val rfl rfl (OpV.loadK_at rfl hB OutW.no Tryz.isAgg128 Tryz.sizeOf128 rfl rfl) ?_
 refine VO.op rfl (OpE.alloc rfl hB rfl Tryz.zeroValue128 rfl ?_)
 intro g5
 refine VO.op rfl (OpE.store (i := 1) rfl hB rfl Tryz.sizeOf128 rfl rfl rfl rfl rfl rfl (Nle rfl) trivial ?_)
 refine VO.nil ?_
 refine VC.seq ?_
 refine VC.block ?_
 refine VC.sr ?_
 refine VO.val rfl rfl (OpV.fieldAddrO 0 rfl Tryz.underlying128 rfl rfl Tryz.sizeOf9 rfl) ?_
 refine VO.val rfl rfl (OpV.load_own (i := 1) rfl hB Tryz.isAgg9 rfl rfl rfl (fun h => h)) ?_
 refine VO.op rfl (OpE.call rfl hB rfl Tryz.call113 rfl (SpecN.spec (kit_IsKey (by have := hs.name i; omega))) ?_)
 rintro _ rfl
 refine VO.val rfl rfl (OpV.not rfl rfl) ?_
 refine VO.mv rfl rfl rfl rfl ?_
 refine VO.opG rfl rfl rfl rfl (fun aK1b => ?_) (fun aK1b => ?_)
 ·replace aK1b : _ = false := aK1b
  have aK1 := aK1b
  try simp only [qqT, qqF, qqN, qqM, qqL, qqE] at aK1
  refine OpE.val (W := NoB) (OpV.fieldAddrO 1 rfl Tryz.underlying128 rfl rfl Tryz.sizeOf9 rfl) rfl ?_
  refine VO.opY rfl rfl rfl rfl aK1b ?_
  refine OpE.val (W := NoB) (OpV.load_own (i := 1) rfl hB Tryz.isAgg9 rfl rfl rfl (fun h => h)) rfl ?_
  refine VO.opY rfl rfl rfl rfl aK1b ?_
  refine OpE.call rfl hB rfl Tryz.call113 rfl (SpecN.spec (kit_IsKey (by have := hs.part i; omega))) ?_
  rintro _ rfl
  refine VO.opY rfl rfl rfl rfl aK1b ?_
  refine OpE.val (W := NoB) (OpV.not rfl rfl) rfl ?_
  refine VO.val rfl rfl (OpV.pickF rfl rfl rfl rfl aK1b) ?_
  refine VO.ma rfl rfl rfl rfl ?_
  refine VO.nil ?_
  refine VC.cond rfl (fun aH2b => ?_) (fun aH2b => ?_)
  ·have aH2 := aH2b
   try simp only [qqT, qqF, qqN, qqM, qqL, qqE] at aH2
   refine VC.sr ?_
   refine VO.ma rfl rfl rfl rfl ?_
   refine VO.nil ?_
   refine VC.ret ?_
   exact Exists.intro _ (And.intro (RetN.one Tryz.results139 (ResN.v rfl)) (by first | rw [placeE_5a (by assumption)] | rw [placeE_5b (by assumption)]))
  ·have aH2 := aH2b
   try simp only [qqT, qqF, qqN, qqM, qqL, qqE] at aH2
   refine VC.seq ?_
   refine VC.draw (fun _ => NoB) hB (by kernel_rfl) ?_
   refine VA.take (i := 0) rfl (by kernel_rfl) (by kernel_rfl) (by kernel_rfl) rfl rfl (OpV.move (.inl rfl) rfl) ?_
   refine VA.take (i := 1) rfl (by kernel_rfl) (by kernel_rfl) (by kernel_rfl) rfl rfl (OpV.gtr rfl rfl rfl) ?_
   refine VA.take (i := 2) rfl (by kernel_rfl) (by kernel_rfl) (by kernel_rfl) rfl rfl (OpV.move (.inl rfl) rfl) ?_
   refine VA.split (t := 25) rfl (fun aK3b => ?_) (fun aK3b => ?_)
   ·have aK3 := aK3b
    try simp only [qqT, qqF, qqN, qqM, qqL, qqE] at aK3
    refine VA.takeY (i := 3) rfl (by kernel_rfl) (by kernel_rfl) (by kernel_rfl) rfl rfl rfl rfl aK3b (OpV.fieldAddrO 0 rfl Tryz.underlying128 rfl rfl Tryz.sizeOf9 rfl) ?_
    refine VA.takeY (i := 4) rfl (by kernel_rfl) (by kernel_rfl) (by kernel_rfl) rfl rfl rfl rfl aK3b (OpV.load_own (i := 1) rfl hB Tryz.isAgg9 rfl rfl rfl Wi.not0) ?_
    refine VA.takeY (i := 5) rfl (by kernel_rfl) (by kernel_rfl) (by kernel_rfl) rfl rfl rfl rfl aK3b (OpV.fieldAddrO 3 rfl Tryz.underlying65 rfl rfl Tryz.sizeOf63 rfl) ?_
    refine VA.takeY (i := 6) rfl (by kernel_rfl) (by kernel_rfl) (by kernel_rfl) rfl rfl rfl rfl aK3b (OpV.load_own (i := 0) rfl hB Tryz.isAgg63 rfl rfl rfl Wi.not0) ?_
    refine VA.takeY (i := 7) rfl (by kernel_rfl) (by kernel_rfl) (by kernel_rfl) rfl rfl rfl rfl aK3b (OpV.move (.inl rfl) rfl) ?_
    refine VA.takeY (i := 8) rfl (by kernel_rfl) (by kernel_rfl) (by kernel_rfl) rfl rfl rfl rfl aK3b (OpV.sub rfl rfl rfl (by unfold fits; omega)) ?_
    refine VA.takeY (i := 9) rfl (by kernel_rfl) (by kernel_rfl) (by kernel_rfl) rfl rfl rfl rfl aK3b (OpV.indexAddr_E rfl Tryz.underlying63 Tryz.sizeOf128 rfl rfl (show ((i : Int) - 1) = ((i - 1 : Nat) : Int) by omega) (by omega)) ?_
    refine VA.takeY (i := 10) rfl (by kernel_rfl) (by kernel_rfl) (by kernel_rfl) rfl rfl rfl rfl aK3b (OpV.fieldAddr_atO 0 rfl Tryz.underlying128 rfl rfl Tryz.sizeOf9 rfl rfl) ?_
    refine VA.takeY (i := 11) rfl (by kernel_rfl) (by kernel_rfl) (by kernel_rfl) rfl rfl rfl rfl aK3b (OpV.load_at rfl hB OutW.wi0 Tryz.isAgg9 rfl rfl) ?_
    refine VA.takeY (i := 12) rfl (by kernel_rfl) (by kernel_rfl) (by kernel_rfl) rfl rfl rfl rfl aK3b (OpV.sleq rfl rfl rfl) ?_
    refine VA.take (i := 13) rfl (by kernel_rfl) (by kernel_rfl) (by kernel_rfl) rfl rfl (OpV.pickT rfl rfl rfl rfl aK3b) ?_
    refine VA.take (i := 14) rfl (by kernel_rfl) (by kernel_rfl) (by kernel_rfl) rfl rfl (OpV.move (.inr rfl) rfl) ?_
    refine VA.done (by kernel_rfl) ?_
    refine VC.cond rfl (fun aH4b => ?_) (fun aH4b => ?_)
    ·have aH4 := aH4b
     try simp only [qqT, qqF, qqN, qqM, qqL, qqE] at aH4
     refine VC.sr ?_
     refine VO.ma rfl rfl rfl rfl ?_
     refine VO.nil ?_
     refine VC.ret ?_
     exact Exists.intro _ (And.intro (RetN.one Tryz.results139 (ResN.v rfl)) (by rw [placeE_7 (by assumption) (by assumption) (by omega) (by assumption)]))
    ·have aH4 := aH4b
     try simp only [qqT, qqF, qqN, qqM, qqL, qqE] at aH4
     refine VC.sr ?_
     refine VO.val rfl rfl (OpV.fieldAddrO 2 rfl Tryz.underlying128 rfl rfl Tryz.sizeOf3 rfl) ?_
     refine VO.val rfl rfl (OpV.load_own (i := 1) rfl hB Tryz.isAgg3 rfl rfl rfl (fun h => h)) ?_
     refine VO.val rfl rfl (OpV.fieldAddrO 1 rfl Tryz.underlying65 rfl rfl Tryz.sizeOf3 rfl) ?_
     refine VO.val rfl rfl (OpV.load_own (i := 0) rfl hB Tryz.isAgg3 rfl rfl rfl (fun h => h)) ?_
     refine VO.op rfl (OpE.call rfl hB rfl Tryz.call112 rfl (SpecN.spec (kit_Outside)) ?_)
     rintro _ rfl
     refine VO.mv rfl rfl rfl rfl ?_
     refine VO.opG rfl rfl rfl rfl (fun aK5b => ?_) (fun aK5b => ?_)
     ·replace aK5b : _ = false := aK5b
      have aK5 := aK5b
      try simp only [qqT, qqF, qqN, qqM, qqL, qqE] at aK5
      refine OpE.val (W := NoB) (OpV.fieldAddrO 3 rfl Tryz.underlying128 rfl rfl Tryz.sizeOf3 rfl) rfl ?_
      refine VO.opY rfl rfl rfl rfl aK5b ?_
      refine OpE.val (W := NoB) (OpV.load_own (i := 1) rfl hB Tryz.isAgg3 rfl rfl rfl (fun h => h)) rfl ?_
      refine VO.opY rfl rfl rfl rfl aK5b ?_
      refine OpE.val (W := NoB) (OpV.fieldAddrO 2 rfl Tryz.underlying65 rfl rfl Tryz.sizeOf3 rfl) rfl ?_
      refine VO.opY rfl rfl rfl rfl aK5b ?_
      refine OpE.val (W := NoB) (OpV.load_own (i := 0) rfl hB Tryz.isAgg3 rfl rfl rfl (fun h => h)) rfl ?_
      refine VO.opY rfl rfl rfl rfl aK5b ?_
      refine OpE.call rfl hB rfl Tryz.call112 rfl (SpecN.spec (kit_Outside)) ?_
      rintro _ rfl
      refine VO.val rfl rfl (OpV.pickF rfl rfl rfl rfl aK5b) ?_
      refine VO.mv rfl rfl rfl rfl ?_
      refine VO.opG rfl rfl rfl rfl (fun aK6b => ?_) (fun aK6b => ?_)
      ·replace aK6b : _ = false := aK6b
       have aK6 := aK6b
       try simp only [qqT, qqF, qqN, qqM, qqL, qqE] at aK6
       refine OpE.val (W := NoB) (OpV.fieldAddrO 4 rfl Tryz.underlying128 rfl rfl Tryz.sizeOf3 rfl) rfl ?_
       refine VO.opY rfl rfl rfl rfl aK6b ?_
       refine OpE.val (W := NoB) (OpV.load_own (i := 1) rfl hB Tryz.isAgg3 rfl rfl rfl (fun h => h)) rfl ?_
       refine VO.opY rfl rfl rfl rfl aK6b ?_
       refine OpE.call rfl hB rfl Tryz.call112 rfl (SpecN.spec (kit_Outside)) ?_
       rintro _ rfl
       refine VO.val rfl rfl (OpV.pickF rfl rfl rfl rfl aK6b) ?_
       refine VO.ma rfl rfl rfl rfl ?_
       refine VO.nil ?_
       refine VC.cond rfl (fun aH7b => ?_) (fun aH7b => ?_)
       ·have aH7 := aH7b
        try simp only [qqT, qqF, qqN, qqM, qqL, qqE] at aH7
        refine VC.sr ?_
        refine VO.ma rfl rfl rfl rfl ?_
        refine VO.nil ?_
        refine VC.ret ?_
        exact Exists.intro _ (And.intro (RetN.one Tryz.results139 (ResN.v rfl)) (by first | rw [placeE_1 (by assumption) (by assumption) (by first | (left; omega) | (right; assumption)) (by first | exact or3a (by assumption) | exact or3b (by assumption) | exact or3c (by assumption))]))
       ·have aH7 := aH7b
        try simp only [qqT, qqF, qqN, qqM, qqL, qqE] at aH7
        refine VC.skip ?_
        refine VC.sr ?_
        refine VO.ma rfl rfl rfl rfl ?_
        refine VO.nil ?_
        refine VC.ret ?_
        exact Exists.intro _ (And.intro (RetN.one Tryz.results139 (ResN.v rfl)) (by rw [placeE_0 (by assumption) (by assumption) (by first | (left; omega) | (right; assumption)) (or3f (by assumption) (by assumption) (by assumption))]))
      ·replace aK6b : _ = true := aK6b
       have aK6 := aK6b
       try simp only [qqT, qqF, qqN, qqM, qqL, qqE] at aK6
       refine VO.opX rfl rfl rfl rfl aK6b ?_
       refine VO.opX rfl rfl rfl rfl aK6b ?_
       refine VO.val rfl rfl (OpV.pickT rfl rfl rfl rfl aK6b) ?_
       refine VO.ma rfl rfl rfl rfl ?_
       refine VO.nil ?_
       refine VC.condT rfl rfl ?_
       refine VC.sr ?_
       refine VO.ma rfl rfl rfl rfl ?_
       refine VO.nil ?_
       refine VC.ret ?_
       exact Exists.intro _ (And.intro (RetN.one Tryz.results139 (ResN.v rfl)) (by first | rw [placeE_1 (by assumption) (by assumption) (by first | (left; omega) | (right; assumption)) (by first | exact or3a (by assumption) | exact or3b (by assumption) | exact or3c (by assumption))]))
     ·replace aK5b : _ = true := aK5b
      have aK5 := aK5b
      try simp only [qqT, qqF, qqN, qqM, qqL, qqE] at aK5
      refine VO.opX rfl rfl rfl rfl aK5b ?_
      refine VO.opX rfl rfl rfl rfl aK5b ?_
      refine VO.opX rfl rfl rfl rfl aK5b ?_
      refine VO.opX rfl rfl rfl rfl aK5b ?_
      refine VO.val rfl rfl (OpV.pickT rfl rfl rfl rfl aK5b) ?_
      refine VO.mv rfl rfl rfl rfl ?_
      refine VO.opX rfl rfl rfl rfl rfl ?_
      refine VO.opX rfl rfl rfl rfl rfl ?_
      refine VO.opX rfl rfl rfl rfl rfl ?_
      refine VO.val rfl rfl (OpV.pickT rfl rfl rfl rfl rfl) ?_
      refine VO.ma rfl rfl rfl rfl ?_
      refine VO.nil ?_
      refine VC.condT rfl rfl ?_
      refine VC.sr ?_
      refine VO.ma rfl rfl rfl rfl ?_
      refine VO.nil ?_
      refine VC.ret ?_
      exact Exists.intro _ (And.intro (RetN.one Tryz.results139 (ResN.v rfl)) (by first | rw [placeE_1 (by assumption) (by assumption) (by first | (left; omega) | (right; assumption)) (by first | exact or3a (by assumption) | exact or3b (by assumption) | exact or3c (by assumption))]))
   ·have aK3 := aK3b
    try simp only [qqT, qqF, qqN, qqM, qqL, qqE] at aK3
    refine VA.takeX (i := 3) rfl (by kernel_rfl) (by kernel_rfl) (by kernel_rfl) rfl rfl rfl rfl aK3b ?_
    refine VA.takeX (i := 4) rfl (by kernel_rfl) (by kernel_rfl) (by kernel_rfl) rfl rfl rfl rfl aK3b ?_
    refine VA.takeX (i := 5) rfl (by kernel_rfl) (by kernel_rfl) (by kernel_rfl) rfl rfl rfl rfl aK3b ?_
    refine VA.takeX (i := 6) rfl (by kernel_rfl) (by kernel_rfl) (by kernel_rfl) rfl rfl rfl rfl aK3b ?_
    refine VA.takeX (i := 7) rfl (by kernel_rfl) (by kernel_rfl) (by kernel_rfl) rfl rfl rfl rfl aK3b ?_
    refine VA.takeX (i := 8) rfl (by kernel_rfl) (by kernel_rfl) (by kernel_rfl) rfl rfl rfl rfl aK3b ?_
    refine VA.takeX (i := 9) rfl (by kernel_rfl) (by kernel_rfl) (by kernel_rfl) rfl rfl rfl rfl aK3b ?_
    refine VA.takeX (i := 10) rfl (by kernel_rfl) (by kernel_rfl) (by kernel_rfl) rfl rfl rfl rfl aK3b ?_
    refine VA.takeX (i := 11) rfl (by kernel_rfl) (by kernel_rfl) (by kernel_rfl) rfl rfl rfl rfl aK3b ?_
    refine VA.takeX (i := 12) rfl (by kernel_rfl) (by kernel_rfl) (by kernel_rfl) rfl rfl rfl rfl aK3b ?_
    refine VA.take (i := 13) rfl (by kernel_rfl) (by kernel_rfl) (by kernel_rfl) rfl rfl (OpV.pickF rfl rfl rfl rfl aK3b) ?_
    refine VA.take (i := 14) rfl (by kernel_rfl) (by kernel_rfl) (by kernel_rfl) rfl rfl (OpV.move (.inr rfl) rfl) ?_
    refine VA.done (by kernel_rfl) ?_
    refine VC.condF rfl rfl ?_
    refine VC.sr ?_
    refine VO.val rfl rfl (OpV.fieldAddrO 2 rfl Tryz.underlying128 rfl rfl Tryz.sizeOf3 rfl) ?_
    refine VO.val rfl rfl (OpV.load_own (i := 1) rfl hB Tryz.isAgg3 rfl rfl rfl (fun h => h)) ?_
    refine VO.val rfl rfl (OpV.fieldAddrO 1 rfl Tryz.underlying65 rfl rfl Tryz.sizeOf3 rfl) ?_
    refine VO.val rfl rfl (OpV.load_own (i := 0) rfl hB Tryz.isAgg3 rfl rfl rfl (fun h => h)) ?_
    refine VO.op rfl (OpE.call rfl hB rfl Tryz.call112 rfl (SpecN.spec (kit_Outside)) ?_)
    rintro _ rfl
    refine VO.mv rfl rfl rfl rfl ?_
    refine VO.opG rfl rfl rfl rfl (fun aK8b => ?_) (fun aK8b => ?_)
    ·replace aK8b : _ = false := aK8b
     have aK8 := aK8b
     try simp only [qqT, qqF, qqN, qqM, qqL, qqE] at aK8
     refine OpE.val (W := NoB) (OpV.fieldAddrO 3 rfl Tryz.underlying128 rfl rfl Tryz.sizeOf3 rfl) rfl ?_
     refine VO.opY rfl rfl rfl rfl aK8b ?_
     refine OpE.val (W := NoB) (OpV.load_own (i := 1) rfl hB Tryz.isAgg3 rfl rfl rfl (fun h => h)) rfl ?_
     refine VO.opY rfl rfl rfl rfl aK8b ?_
     refine OpE.val (W := NoB) (OpV.fieldAddrO 2 rfl Tryz.underlying65 rfl rfl Tryz.sizeOf3 rfl) rfl ?_
     refine VO.opY rfl rfl rfl rfl aK8b ?_
     refine OpE.val (W := NoB) (OpV.load_own (i := 0) rfl hB Tryz.isAgg3 rfl rfl rfl (fun h => h)) rfl ?_
     refine VO.opY rfl rfl rfl rfl aK8b ?_
     refine OpE.call rfl hB rfl Tryz.call112 rfl (SpecN.spec (kit_Outside)) ?_
     rintro _ rfl
     refine VO.val rfl rfl (OpV.pickF rfl rfl rfl rfl aK8b) ?_
     refine VO.mv rfl rfl rfl rfl ?_
     refine VO.opG rfl rfl rfl rfl (fun aK9b => ?_) (fun aK9b => ?_)
     ·replace aK9b : _ = false := aK9b
      have aK9 := aK9b
      try simp only [qqT, qqF, qqN, qqM, qqL, qqE] at aK9
      refine OpE.val (W := NoB) (OpV.fieldAddrO 4 rfl Tryz.underlying128 rfl rfl Tryz.sizeOf3 rfl) rfl ?_
      refine VO.opY rfl rfl rfl rfl aK9b ?_
      refine OpE.val (W := NoB) (OpV.load_own (i := 1) rfl hB Tryz.isAgg3 rfl rfl rfl (fun h => h)) rfl ?_
      refine VO.opY rfl rfl rfl rfl aK9b ?_
      refine OpE.call rfl hB rfl Tryz.call112 rfl (SpecN.spec (kit_Outside)) ?_
      rintro _ rfl
      refine VO.val rfl rfl (OpV.pickF rfl rfl rfl rfl aK9b) ?_
      refine VO.ma rfl rfl rfl rfl ?_
      refine VO.nil ?_
      refine VC.cond rfl (fun aH10b => ?_) (fun aH10b => ?_)
      ·have aH10 := aH10b
       try simp only [qqT, qqF, qqN, qqM, qqL, qqE] at aH10
       refine VC.sr ?_
       refine VO.ma rfl rfl rfl rfl ?_
       refine VO.nil ?_
       refine VC.ret ?_
       exact Exists.intro _ (And.intro (RetN.one Tryz.results139 (ResN.v rfl)) (by first | rw [placeE_1 (by assumption) (by assumption) (by first | (left; omega) | (right; assumption)) (by first | exact or3a (by assumption) | exact or3b (by assumption) | exact or3c (by assumption))]))
      ·have aH10 := aH10b
       try simp only [qqT, qqF, qqN, qqM, qqL, qqE] at aH10
       refine VC.skip ?_
       refine VC.sr ?_
       refine VO.ma rfl rfl rfl rfl ?_
       refine VO.nil ?_
       refine VC.ret ?_
       exact Exists.intro _ (And.intro (RetN.one Tryz.results139 (ResN.v rfl)) (by rw [placeE_0 (by assumption) (by assumption) (by first | (left; omega) | (right; assumption)) (or3f (by assumption) (by assumption) (by assumption))]))
     ·replace aK9b : _ = true := aK9b
      have aK9 := aK9b
      try simp only [qqT, qqF, qqN, qqM, qqL, qqE] at aK9
      refine VO.opX rfl rfl rfl rfl aK9b ?_
      refine VO.opX rfl rfl rfl rfl aK9b ?_
      refine VO.val rfl rfl (OpV.pickT rfl rfl rfl rfl aK9b) ?_
      refine VO.ma rfl rfl rfl rfl ?_
      refine VO.nil ?_
      refine VC.condT rfl rfl ?_
      refine VC.sr ?_
      refine VO.ma rfl rfl rfl rfl ?_
      refine VO.nil ?_
      refine VC.ret ?_
      exact Exists.intro _ (And.intro (RetN.one Tryz.results139 (ResN.v rfl)) (by first | rw [placeE_1 (by assumption) (by assumption) (by first | (left; omega) | (right; assumption)) (by first | exact or3a (by assumption) | exact or3b (by assumption) | exact or3c (by assumption))]))
    ·replace aK8b : _ = true := aK8b
     have aK8 := aK8b
     try simp only [qqT, qqF, qqN, qqM, qqL, qqE] at aK8
     refine VO.opX rfl rfl rfl rfl aK8b ?_
     refine VO.opX rfl rfl rfl rfl aK8b ?_
     refine VO.opX rfl rfl rfl rfl aK8b ?_
     refine VO.opX rfl rfl rfl rfl aK8b ?_
     refine VO.val rfl rfl (OpV.pickT rfl rfl rfl rfl aK8b) ?_
     refine VO.mv rfl rfl rfl rfl ?_
     refine VO.opX rfl rfl rfl rfl rfl ?_
     refine VO.opX rfl rfl rfl rfl rfl ?_
     refine VO.opX rfl rfl rfl rfl rfl ?_
     refine VO.val rfl rfl (OpV.pickT rfl rfl rfl rfl rfl) ?_
     refine VO.ma rfl rfl rfl rfl ?_
     refine VO.nil ?_
     refine VC.condT rfl rfl ?_
     refine VC.sr ?_
     refine VO.ma rfl rfl rfl rfl ?_
     refine VO.nil ?_
     refine VC.ret ?_
     exact Exists.intro _ (And.intro (RetN.one Tryz.results139 (ResN.v rfl)) (by first | rw [placeE_1 (by assumption) (by assumption) (by first | (left; omega) | (right; assumption)) (by first | exact or3a (by assumption) | exact or3b (by assumption) | exact or3c (by assumption))]))
 ·replace aK1b : _ = true := aK1b
  have aK1 := aK1b
  try simp only [qqT, qqF, qqN, qqM, qqL, qqE] at aK1
  refine VO.opX rfl rfl rfl rfl aK1b ?_
  refine VO.opX rfl rfl rfl rfl aK1b ?_
  refine VO.opX rfl rfl rfl rfl aK1b ?_
  refine VO.val rfl rfl (OpV.pickT rfl rfl rfl rfl aK1b) ?_
  refine VO.ma rfl rfl rfl rfl ?_
  refine VO.nil ?_
  refine VC.condT rfl rfl ?_
  refine VC.sr ?_
  refine VO.ma rfl rfl rfl rfl ?_
  refine VO.nil ?_
  refine VC.ret ?_
  exact Exists.intro _ (And.intro (RetN.one Tryz.results139 (ResN.v rfl)) (by first | rw [placeE_5a (by assumption)] | rw [placeE_5b (by assumption)]))
set_option maxRecDepth 100000 in
theorem panel_CheckProduct {p : ProdS} (hs : SmP p) :
  SpecN Tryz.prog 95 [avProd p] (fun y => y = avI (prodF p)) := by
 refine SpecN.of_VCN Tryz.func95 rfl Tryz.ntmps95 (Nle rfl) fun w A hB => ?_
 have hnew : True := trivial
 refine VC.seq ?_
 have hl := hs.len
 refine VC.region ?_
 refine VO.op rfl (OpE.box rfl hB rfl rfl rfl ?_)
 intro g1
 refine VO.ma rfl rfl rfl rfl ?_
 refine VO.nil ?_
 refine VC.seq ?_
 refine VC.block ?_
 refine VC.sr ?_
 refine VO.val rfl rfl (OpV.fieldAddrO 0 rfl Tryz.underlying65 rfl rfl Tryz.sizeOf9 rfl) ?_
 refine VO.val rfl rfl (OpV.load_own (i := 0) rfl hB Tryz.isAgg9 rfl rfl rfl (fun h => h)) ?_
 refine VO.op rfl (OpE.call rfl hB rfl Tryz.call113 rfl (SpecN.spec (kit_IsKey (by have := hs.key; omega))) ?_)
 rintro _ rfl
 refine VO.val rfl rfl (OpV.not rfl rfl) ?_
 refine VO.ma rfl rfl rfl rfl ?_
 refine VO.nil ?_
 refine VC.cond rfl (fun k0b => ?_) (fun k0b => ?_)
 ·have k0 := k0b
  try simp only [qqT, qqF, qqN, qqM, qqL, qqE] at k0
  refine VC.sr ?_
  refine VO.ma rfl rfl rfl rfl ?_
  refine VO.nil ?_
  refine VC.ret ?_
  exact Exists.intro _ (And.intro (RetN.one Tryz.results95 (ResN.v rfl)) (by rw [prodF_5 (by assumption)]))
 ·have k0 := k0b
  try simp only [qqT, qqF, qqN, qqM, qqL, qqE] at k0
  refine VC.sr ?_
  refine VO.val rfl rfl (OpV.fieldAddrO 1 rfl Tryz.underlying65 rfl rfl Tryz.sizeOf3 rfl) ?_
  refine VO.val rfl rfl (OpV.load_own (i := 0) rfl hB Tryz.isAgg3 rfl rfl rfl (fun h => h)) ?_
  refine VO.op rfl (OpE.call rfl hB rfl Tryz.call138 rfl (SpecN.spec (panel_isSize)) ?_)
  rintro _ rfl
  refine VO.val rfl rfl (OpV.not rfl rfl) ?_
  refine VO.mv rfl rfl rfl rfl ?_
  refine VO.opG rfl rfl rfl rfl (fun aK1b => ?_) (fun aK1b => ?_)
  ·replace aK1b : _ = false := aK1b
   have aK1 := aK1b
   try simp only [qqT, qqF, qqN, qqM, qqL, qqE] at aK1
   refine OpE.val (W := NoB) (OpV.fieldAddrO 2 rfl Tryz.underlying65 rfl rfl Tryz.sizeOf3 rfl) rfl ?_
   refine VO.opY rfl rfl rfl rfl aK1b ?_
   refine OpE.val (W := NoB) (OpV.load_own (i := 0) rfl hB Tryz.isAgg3 rfl rfl rfl (fun h => h)) rfl ?_
   refine VO.opY rfl rfl rfl rfl aK1b ?_
   refine OpE.call rfl hB rfl Tryz.call138 rfl (SpecN.spec (panel_isSize)) ?_
   rintro _ rfl
   refine VO.opY rfl rfl rfl rfl aK1b ?_
   refine OpE.val (W := NoB) (OpV.not rfl rfl) rfl ?_
   refine VO.val rfl rfl (OpV.pickF rfl rfl rfl rfl aK1b) ?_
   refine VO.ma rfl rfl rfl rfl ?_
   refine VO.nil ?_
   refine VC.cond rfl (fun k1b => ?_) (fun k1b => ?_)
   ·have k1 := k1b
    try simp only [qqT, qqF, qqN, qqM, qqL, qqE] at k1
    refine VC.sr ?_
    refine VO.ma rfl rfl rfl rfl ?_
    refine VO.nil ?_
    refine VC.ret ?_
    exact Exists.intro _ (And.intro (RetN.one Tryz.results95 (ResN.v rfl)) (by first | rw [prodF_1 k0 (or2a (by assumption))] | rw [prodF_1 k0 (or2b (by assumption))]))
   ·have k1 := k1b
    try simp only [qqT, qqF, qqN, qqM, qqL, qqE] at k1
    refine VC.sr ?_
    refine VO.val rfl rfl (OpV.fieldAddrO 3 rfl Tryz.underlying65 rfl rfl Tryz.sizeOf63 rfl) ?_
    refine VO.val rfl rfl (OpV.load_own (i := 0) rfl hB Tryz.isAgg63 rfl rfl rfl (fun h => h)) ?_
    refine VO.val rfl rfl (OpV.len_im rfl Tryz.underlying63 rfl) ?_
    refine VO.val rfl rfl (OpV.gtr rfl rfl rfl) ?_
    refine VO.ma rfl rfl rfl rfl ?_
    refine VO.nil ?_
    refine VC.cond rfl (fun k2b => ?_) (fun k2b => ?_)
    ·have k2 := k2b
     try simp only [qqT, qqF, qqN, qqM, qqL, qqE] at k2
     refine VC.sr ?_
     refine VO.ma rfl rfl rfl rfl ?_
     refine VO.nil ?_
     refine VC.ret ?_
     exact Exists.intro _ (And.intro (RetN.one Tryz.results95 (ResN.v rfl)) (by rw [prodF_2 k0 (or2f (by assumption) (by assumption)) (by omega)]))
    ·have k2 := k2b
     try simp only [qqT, qqF, qqN, qqM, qqL, qqE] at k2
     refine VC.skip ?_
     refine VC.seq ?_
     refine VC.sr ?_
     refine VO.val rfl rfl (OpV.fieldAddrO 3 rfl Tryz.underlying65 rfl rfl Tryz.sizeOf63 rfl) ?_
     refine VO.val rfl rfl (OpV.load_own (i := 0) rfl hB Tryz.isAgg63 rfl rfl rfl (fun h => h)) ?_
     refine VO.val rfl rfl (OpV.len_im rfl Tryz.underlying63 rfl) ?_
     refine VO.mv rfl rfl rfl rfl ?_
     refine VO.nil ?_
     refine VC.block ?_
     refine VC.loopK [(1, _), (28, _)] ⟨rfl, rfl, trivial⟩ ({q : Nat // q ≤ p.places.length ∧ ∀ j, j < q → placeE p j = 0}) (fun (iZ : {q : Nat // q ≤ p.places.length ∧ ∀ j, j < q → placeE p j = 0}) => match iZ with | ⟨q, hq, hn⟩ => [(29, avI (q : Int))]) (fun (iZ : {q : Nat // q ≤ p.places.length ∧ ∀ j, j < q → placeE p j = 0}) => match iZ with | ⟨q, hq, hn⟩ => [boxProd g1 p 65]) (fun (iZ : {q : Nat // q ≤ p.places.length ∧ ∀ j, j < q → placeE p j = 0}) => match iZ with | ⟨q, hq, hn⟩ => 0) (fun (iZ : {q : Nat // q ≤ p.places.length ∧ ∀ j, j < q → placeE p j = 0}) => match iZ with | ⟨q, hq, hn⟩ => p.places.length - q) ⟨0, Nat.zero_le _, fun j hj => absurd hj (Nat.not_lt_zero j)⟩ (Le.mk hB [0] ⟨rfl, rfl, rfl, trivial⟩ rfl rfl (Nat.le_refl _)) ?_
     rintro ⟨q, hq, hn⟩
     show VC _ _ _ _ ⟨[(29, avI (q : Int))] ++ [(1, _), (28, _)], [boxProd g1 p 65], 0⟩
     refine VC.sr ?_
     refine VO.val rfl rfl (OpV.lss rfl rfl rfl) ?_
     refine VO.nil ?_
     refine VC.seq ?_
     refine VC.cond rfl (fun aH2b => ?_) (fun aH2b => ?_)
     ·have aH2 := aH2b
      try simp only [qqT, qqF, qqN, qqM, qqL, qqE] at aH2
      refine VC.skip ?_
      refine VC.seq ?_
      refine VC.block ?_
      refine VC.sr ?_
      refine VO.mv rfl rfl rfl rfl ?_
      refine VO.ma rfl rfl rfl rfl ?_
      refine VO.nil ?_
      refine VC.sr ?_
      refine VO.val rfl rfl (OpV.loadK_own (i := 0) rfl hB Tryz.isAgg65 Tryz.sizeOf65 rfl rfl rfl (fun h => h)) ?_
      refine VO.mv rfl rfl rfl rfl ?_
      refine VO.op rfl (OpE.call rfl hB rfl Tryz.call139 rfl (SpecN.spec (panel_placementFault hs (by omega))) ?_)
      rintro _ rfl
      refine VO.ma rfl rfl rfl rfl ?_
      refine VO.nil ?_
      refine VC.sr ?_
      refine VO.mv rfl rfl rfl rfl ?_
      refine VO.val rfl rfl (OpV.neq rfl rfl rfl) ?_
      refine VO.nil ?_
      refine VC.cond rfl (fun k4b => ?_) (fun k4b => ?_)
      ·have k4 := k4b
       try simp only [qqT, qqF, qqN, qqM, qqL, qqE] at k4
       refine VC.sr ?_
       refine VO.mv rfl rfl rfl rfl ?_
       refine VO.ma rfl rfl rfl rfl ?_
       refine VO.nil ?_
       refine VC.ret ?_
       exact Exists.intro _ (And.intro (RetN.one Tryz.results95 (ResN.v rfl)) (by rw [prodF_at k0 (or2f (by assumption) (by assumption)) (by omega) (by omega) hn rfl k4]))
      ·have k4 := k4b
       try simp only [qqT, qqF, qqN, qqM, qqL, qqE] at k4
       refine VC.skip ?_
       refine VC.region ?_
       refine VO.val rfl rfl (OpV.add rfl rfl rfl (by unfold fits; omega)) ?_
       refine VO.mv rfl rfl rfl rfl ?_
       refine VO.nil ?_
       exact Exists.intro (⟨q + 1, by omega, lt_succ_cases hn ((by omega))⟩) (And.intro (Le.mk hB [0] ⟨rfl, rfl, rfl, trivial⟩ rfl rfl (Nat.le_refl _)) (by first | omega | (show _ < _; omega) | (simp only []; omega)))
     ·have aH2 := aH2b
      try simp only [qqT, qqF, qqN, qqM, qqL, qqE] at aH2
      refine VC.exit ?_
      refine VC.sr ?_
      refine VO.ma rfl rfl rfl rfl ?_
      refine VO.nil ?_
      refine VC.ret ?_
      exact Exists.intro _ (And.intro (RetN.one Tryz.results95 (ResN.v rfl)) (by rw [prodF_ok k0 (or2f (by assumption) (by assumption)) (by omega) (fun j hj => hn j (by omega))]))
  ·replace aK1b : _ = true := aK1b
   have aK1 := aK1b
   try simp only [qqT, qqF, qqN, qqM, qqL, qqE] at aK1
   refine VO.opX rfl rfl rfl rfl aK1b ?_
   refine VO.opX rfl rfl rfl rfl aK1b ?_
   refine VO.opX rfl rfl rfl rfl aK1b ?_
   refine VO.val rfl rfl (OpV.pickT rfl rfl rfl rfl aK1b) ?_
   refine VO.ma rfl rfl rfl rfl ?_
   refine VO.nil ?_
   refine VC.condT rfl rfl ?_
   refine VC.sr ?_
   refine VO.ma rfl rfl rfl rfl ?_
   refine VO.nil ?_
   refine VC.ret ?_
   exact Exists.intro _ (And.intro (RetN.one Tryz.results95 (ResN.v rfl)) (by first | rw [prodF_1 k0 (or2a (by assumption))] | rw [prodF_1 k0 (or2b (by assumption))]))
end Go.Proofs.YtbbgjeiefmiblaaGreatDoor
