/- The generators of bodies and gaps. -/
import Derived.Test.YtgikefjbdhnffaaDoorBodyS
import Derived.Test.YtgikefjbdhnffaaDoorStreamS
namespace Go.Proofs.YtgikefjbdhnffaaDoor
open Go.RowKit
set_option linter.unusedVariables false
set_option linter.unusedSimpArgs false
def keysBd : List ByteArray := [⟨#[99, 97, 112]⟩, ⟨#[105, 99]⟩, ⟨#[114, 101, 115]⟩]
theorem keysBd_size (q : Nat) : (keysBd.getD q ByteArray.empty).size ≤ 1000 := by
  match q with
  | 0 => decide
  | 1 => decide
  | 2 => decide
  | q + 3 => simp [keysBd]
def BOk (l : List BodyS) : Prop := ∀ x ∈ l, x.part.size ≤ 1000
theorem BOk.snoc {l : List BodyS} (h : BOk l) {x : BodyS} (hx : x.part.size ≤ 1000) : BOk (l ++ [x]) := fun y hy => by
  rcases List.mem_append.1 hy with hy | hy
  · exact h y hy
  · simp at hy; subst hy; exact hx
theorem BOk.set {l : List BodyS} (h : BOk l) (q : Nat) {x : BodyS} (hx : x.part.size ≤ 1000) : BOk (l.set q x) := fun y hy => by
  rcases List.mem_or_eq_of_mem_set hy with h' | rfl
  · exact h y h'
  · exact hx
theorem BOk.getD {l : List BodyS} (h : BOk l) (i : Nat) : (l.getD i default).part.size ≤ 1000 := by
  rw [List.getD_eq_getElem?_getD]
  cases hi : l[i]? with
  | none => decide
  | some x => exact h x (List.mem_of_getElem? hi)
theorem BOk.sm {l : List BodyS} (hl : l.length ≤ 3) (ho : BOk l) : SmB l := ⟨by omega, fun i => by have := ho.getD i; omega⟩
theorem getD_setB {α : Type} {xs : List α} {q : Nat} {x d : α} (h : q < xs.length) : (xs.set q x).getD q d = x := by simp [h]
theorem bd_upd {a b : BodyS} {k : Nat} (h0 : k = 0 ∨ a.part = b.part) (h1 : k = 1 ∨ a.wide = b.wide) (h2 : k = 2 ∨ a.high = b.high) : ∀ i, i < 3 → i ≠ k → Sxc.cell a i = Sxc.cell b i := fun i hi hn => by
  match i, hi with
  | 0, _ => show avS a.part = avS b.part; rw [h0.resolve_left fun h => hn h.symm]
  | 1, _ => show avI a.wide = avI b.wide; rw [h1.resolve_left fun h => hn h.symm]
  | 2, _ => show avI a.high = avI b.high; rw [h2.resolve_left fun h => hn h.symm]
set_option maxRecDepth 100000 in
set_option maxHeartbeats 8000000 in
theorem bodies_T {p : Nat} {L : List Int}  :
    SpecT Tryd.prog (TT p L) (fun b => b = p) 25 [sp p] 30 (fun y => ∃ l : List BodyS, (SmB l ∧ l.length ≤ 3) ∧ y = avL l) := by
  refine SpecT.of_VC Tryd.func25 rfl Tryd.ntmps25 (Nat.le_of_ble_eq_true rfl) (low := (fun b => b ≤ p)) (fun w A k h => h.ok) fun w A k hk hB => ?_
  have hnew : True := trivial
  refine VC.seq ?_
  refine VC.region ?_
  refine VO.val rfl rfl (OpV.move (.inr rfl) rfl) ?_
  refine VO.nil ?_
  show VC _ _ _ _ _
  refine VC.seq ?_
  refine VC.region ?_
  refine VO.val rfl rfl (OpV.move (.inr rfl) rfl) ?_
  refine VO.nil ?_
  show VC _ _ _ _ _
  refine VC.seq ?_
  refine VC.seq ?_
  refine VC.region ?_
  refine VO.op rfl (OpE.buildSlice (zc := #[.string ⟨#[]⟩, .string ⟨#[]⟩, .string ⟨#[]⟩]) rfl hB rfl Tryd.underlying70 Tryd.sizeOf9 Tryd.zeroValue9 (by decide) (by decide) (by kernel_rfl) rfl rfl ?_)
  refine VO.le _ (Le.recast (t := 7) (y := avStrs keysBd) rfl (fun w Z u h => Rep.strs (xs := keysBd) rfl h)) ?_
  first
    | refine VO.val rfl rfl (OpV.len_im rfl Tryd.underlying70 rfl) ?_
    | refine VO.val rfl rfl (OpV.len_v rfl Tryd.underlying70 rfl) ?_
  refine VO.val rfl rfl (OpV.move (.inl rfl) rfl) ?_
  refine VO.nil ?_
  show VC _ _ _ _ _
  refine VC.block ?_
  refine VC.le _ (Le.nilRow 3 117) ?_
  refine VC.loopK [(0, _), (7, _)] ⟨rfl, rfl, trivial⟩ ({t : Option Addr × Nat × List BodyS × Nat // t.2.2.2 ≤ 3 ∧ t.2.2.1.length ≤ t.2.2.2 ∧ BOk t.2.2.1}) (fun (i : {t : Option Addr × Nat × List BodyS × Nat // t.2.2.2 ≤ 3 ∧ t.2.2.1.length ≤ t.2.2.2 ∧ BOk t.2.2.1}) => match i with | ⟨⟨b, c, l, q⟩, hq, hl, hok⟩ => [(3, .v (.slice b l.length c)), (8, avI 3), (9, avI (q : Int))]) (fun (i : {t : Option Addr × Nat × List BodyS × Nat // t.2.2.2 ≤ 3 ∧ t.2.2.1.length ≤ t.2.2.2 ∧ BOk t.2.2.1}) => match i with | ⟨⟨b, c, l, q⟩, hq, hl, hok⟩ => [.row (.slice b l.length c) l.length 3 (rowL l) 117]) (fun (i : {t : Option Addr × Nat × List BodyS × Nat // t.2.2.2 ≤ 3 ∧ t.2.2.1.length ≤ t.2.2.2 ∧ BOk t.2.2.1}) => match i with | ⟨⟨b, c, l, q⟩, hq, hl, hok⟩ => k + 3 * q) (fun (i : {t : Option Addr × Nat × List BodyS × Nat // t.2.2.2 ≤ 3 ∧ t.2.2.1.length ≤ t.2.2.2 ∧ BOk t.2.2.1}) => match i with | ⟨⟨b, c, l, q⟩, hq, hl, hok⟩ => 3 - q) ⟨(none, 0, [], 0), by decide, by decide, fun x h => by simp at h⟩ (Le.mk hB [0] ⟨rfl, rfl, rfl, rfl, rfl, trivial⟩ rfl rfl (show k ≤ k + 3 * 0 by omega)) ?_
  rintro ⟨⟨b, c, l, q⟩, hq, hl, hok⟩
  show VC _ _ _ _ ⟨[(3, .v (.slice b l.length c)), (8, avI 3), (9, avI (q : Int))] ++ [(0, _), (7, _)], [.row (.slice b l.length c) l.length 3 (rowL l) 117], k + 3 * q⟩
  simp only at hq hl hok
  refine VC.seq ?_
  refine VC.region ?_
  refine VO.val rfl rfl (OpV.lss rfl rfl rfl) ?_
  refine VO.nil ?_
  show VC _ _ _ _ _
  refine VC.seq ?_
  refine VC.cond rfl (fun aH1b => ?_) (fun aH1b => ?_)
  · have aH1 := aH1b
    try simp only [decide_eq_true_eq, decide_eq_false_iff_not, Bool.not_eq_true', Bool.not_eq_false', Int.not_lt, Int.not_le] at aH1
    refine VC.skip ?_
    show VC _ _ _ _ _
    refine VC.seq ?_
    refine VC.block ?_
    refine VC.seq ?_
    refine VC.region ?_
    first
      | refine VO.val rfl rfl (OpV.indexAddr_1 rfl Tryd.underlying70 Tryd.sizeOf9 rfl rfl rfl (by show _ < 3; omega)) ?_
      | refine VO.val rfl rfl (OpV.indexAddr_1 rfl Tryd.underlying70 Tryd.sizeOf9 rfl rfl (Int.toNat_of_nonneg (by omega)).symm (by show _ < 3; omega)) ?_
      | refine VO.val rfl rfl (OpV.indexAddr_o rfl Tryd.underlying70 Tryd.sizeOf9 rfl rfl rfl (by show _ < 3; omega)) ?_
      | refine VO.val rfl rfl (OpV.indexAddr_o rfl Tryd.underlying70 Tryd.sizeOf9 rfl rfl (Int.toNat_of_nonneg (by omega)).symm (by show _ < 3; omega)) ?_
      | refine VO.val rfl rfl (OpV.indexAddr_q rfl Tryd.underlying70 Tryd.sizeOf9 rfl rfl rfl (by show _ < 3; omega)) ?_
      | refine VO.val rfl rfl (OpV.indexAddr_q rfl Tryd.underlying70 Tryd.sizeOf9 rfl rfl (Int.toNat_of_nonneg (by omega)).symm (by show _ < 3; omega)) ?_
      | refine VO.val rfl rfl (OpV.indexAddr_im rfl Tryd.underlying70 Tryd.sizeOf9 rfl rfl (by omega) (by show _ < 3; omega)) ?_
    first
      | refine VO.val rfl rfl (OpV.load_at rfl hB OutW.no Tryd.isAgg9 rfl rfl) ?_
      | refine VO.val rfl rfl (OpV.load_own (i := 0) rfl hB Tryd.isAgg9 rfl rfl rfl (fun h => h)) ?_
    refine VO.val rfl rfl (OpV.move (.inr rfl) rfl) ?_
    refine VO.nil ?_
    show VC _ _ _ _ _
    refine VC.seq ?_
    refine VC.region ?_
    refine VO.val rfl rfl (OpV.move (.inl rfl) rfl) ?_
    refine VO.op rfl (OpE.callT' (k + 3 * q) rfl rfl hB rfl Tryd.call38 rfl ((flip_T (by omega))) (by omega) ?_)
    rintro _ ⟨r14, rfl⟩
    refine VO.val rfl rfl (OpV.not rfl rfl) ?_
    refine VO.nil ?_
    show VC _ _ _ _ _
    refine VC.cond rfl (fun aH2b => ?_) (fun aH2b => ?_)
    · have aH2 := aH2b
      try simp only [decide_eq_true_eq, decide_eq_false_iff_not, Bool.not_eq_true', Bool.not_eq_false', Int.not_lt, Int.not_le] at aH2
      refine VC.region ?_
      refine VO.val rfl rfl (OpV.move (.inl rfl) rfl) ?_
      refine VO.val rfl rfl (OpV.move (.inl rfl) rfl) ?_
      refine VO.val rfl rfl (OpV.move (.inl rfl) rfl) ?_
      refine VO.op rfl (OpE.buildSlice (zc := #[.int .i64 0, .int .i64 0, .int .i64 0, .int .i64 0]) rfl hB rfl Tryd.underlying22 Tryd.sizeOf3 Tryd.zeroValue3 (by decide) (by decide) (by kernel_rfl) rfl rfl ?_)
      refine VO.op rfl (OpE.callT' (k + 3 * q + 1) rfl rfl hB rfl Tryd.call37 rfl ((pick_T (-100000000) 100000000 (by rfl) (by decide) (by decide) (by repeat (first | exact AllI.nil | refine AllI.cons (by omega) ?_)))) (by omega) ?_)
      rintro _ ⟨r20, hr20, rfl⟩
      refine VO.val rfl rfl (OpV.move (.inl rfl) rfl) ?_
      refine VO.op rfl (OpE.buildSlice (zc := #[.int .i64 0, .int .i64 0, .int .i64 0]) rfl hB rfl Tryd.underlying22 Tryd.sizeOf3 Tryd.zeroValue3 (by decide) (by decide) (by kernel_rfl) rfl rfl ?_)
      refine VO.op rfl (OpE.callT' (k + 3 * q + 1 + 1) rfl rfl hB rfl Tryd.call37 rfl ((pick_T (-100000000) 100000000 (by rfl) (by decide) (by decide) (by repeat (first | exact AllI.nil | refine AllI.cons (by omega) ?_)))) (by omega) ?_)
      rintro _ ⟨r23, hr23, rfl⟩
      refine VO.val rfl rfl (OpV.build (pls := #[(0, 1), (1, 1), (2, 1)]) rfl Tryd.zeroValue117 Tryd.underlying117 (fun w => by kernel_rfl) rfl rfl) ?_
      refine VO.op rfl (OpE.buildSlice (zc := #[.string ⟨#[]⟩, .int .i64 0, .int .i64 0]) rfl hB rfl Tryd.underlying64 Tryd.sizeOf117 Tryd.zeroValue117 (by decide) (by decide) (by kernel_rfl) rfl rfl ?_)
      refine VO.op rfl (OpE.append1S (i := 0) rfl hB rfl Tryd.underlying64 (infoOf Tryd.t117 3 (by kernel_rfl) rfl rfl) rfl (by decide) (by decide) rfl rfl rfl rfl (rowL_snoc l (⟨keysBd.getD q ByteArray.empty, r20, r23⟩ : BodyS)) (by omega) (fun _ _ => trivial) ?_)
      intro b2 c2
      refine VO.val rfl rfl (OpV.move (.inr rfl) rfl) ?_
      refine VO.nil ?_
      show VC _ _ _ _ _
      refine VC.region ?_
      refine VO.val rfl rfl (OpV.add rfl rfl rfl (by unfold fits; omega)) ?_
      refine VO.val rfl rfl (OpV.move (.inl rfl) rfl) ?_
      refine VO.nil ?_
      first
        | exact Exists.intro (⟨(b2, c2, l ++ [⟨keysBd.getD q ByteArray.empty, r20, r23⟩], q + 1), by show q + 1 ≤ 3; omega, by show (l ++ [_]).length ≤ q + 1; simp; omega, hok.snoc (keysBd_size q)⟩) (And.intro (Le.mk hB [0] ⟨(by first | rfl | (dsimp only; rw [List.length_append]; rfl)), rfl, rfl, rfl, rfl, trivial⟩ rfl (by first | rfl | (dsimp only; rw [List.length_append]; rfl)) (show k + 3 * q + 1 + 1 + 1 ≤ k + 3 * (q + 1) by omega)) (by first | omega | (show _ < _; omega) | (simp only []; omega)))
        | exact Exists.intro (⟨(b, c, l, q + 1), by show q + 1 ≤ 3; omega, by show l.length ≤ q + 1; omega, hok⟩) (And.intro (Le.mk hB [0] ⟨(by first | rfl | (dsimp only; rw [List.length_append]; rfl)), rfl, rfl, rfl, rfl, trivial⟩ rfl (by first | rfl | (dsimp only; rw [List.length_append]; rfl)) (show k + 3 * q + 1 + 1 + 1 ≤ k + 3 * (q + 1) by omega)) (by first | omega | (show _ < _; omega) | (simp only []; omega)))
    · have aH2 := aH2b
      try simp only [decide_eq_true_eq, decide_eq_false_iff_not, Bool.not_eq_true', Bool.not_eq_false', Int.not_lt, Int.not_le] at aH2
      refine VC.skip ?_
      show VC _ _ _ _ _
      refine VC.region ?_
      refine VO.val rfl rfl (OpV.add rfl rfl rfl (by unfold fits; omega)) ?_
      refine VO.val rfl rfl (OpV.move (.inl rfl) rfl) ?_
      refine VO.nil ?_
      first
        | exact Exists.intro (⟨(b2, c2, l ++ [⟨keysBd.getD q ByteArray.empty, r20, r23⟩], q + 1), by show q + 1 ≤ 3; omega, by show (l ++ [_]).length ≤ q + 1; simp; omega, hok.snoc (keysBd_size q)⟩) (And.intro (Le.mk hB [0] ⟨(by first | rfl | (dsimp only; rw [List.length_append]; rfl)), rfl, rfl, rfl, rfl, trivial⟩ rfl (by first | rfl | (dsimp only; rw [List.length_append]; rfl)) (show k + 3 * q + 1 ≤ k + 3 * (q + 1) by omega)) (by first | omega | (show _ < _; omega) | (simp only []; omega)))
        | exact Exists.intro (⟨(b, c, l, q + 1), by show q + 1 ≤ 3; omega, by show l.length ≤ q + 1; omega, hok⟩) (And.intro (Le.mk hB [0] ⟨(by first | rfl | (dsimp only; rw [List.length_append]; rfl)), rfl, rfl, rfl, rfl, trivial⟩ rfl (by first | rfl | (dsimp only; rw [List.length_append]; rfl)) (show k + 3 * q + 1 ≤ k + 3 * (q + 1) by omega)) (by first | omega | (show _ < _; omega) | (simp only []; omega)))
  · have aH1 := aH1b
    try simp only [decide_eq_true_eq, decide_eq_false_iff_not, Bool.not_eq_true', Bool.not_eq_false', Int.not_lt, Int.not_le] at aH1
    refine VC.exit ?_
    show VC _ _ _ _ _
    refine VC.seq ?_
    refine VC.seq ?_
    refine VC.region ?_
    refine VO.val rfl rfl (OpV.move (.inl rfl) rfl) ?_
    first
      | refine VO.val rfl rfl (OpV.len_im rfl Tryd.underlying64 rfl) ?_
      | refine VO.val rfl rfl (OpV.len_v rfl Tryd.underlying64 rfl) ?_
      | refine VO.val rfl rfl (OpV.len_row (i := 0) rfl Tryd.underlying64 rfl rfl) ?_
    refine VO.val rfl rfl (OpV.gtr rfl rfl rfl) ?_
    refine VO.val rfl rfl (OpV.move (.inl rfl) rfl) ?_
    refine VO.opG rfl rfl rfl rfl (fun aK3b => ?_) (fun aK3b => ?_)
    · replace aK3b : _ = true := aK3b
      have aK3 := aK3b
      try simp only [decide_eq_true_eq, decide_eq_false_iff_not, Bool.not_eq_true', Bool.not_eq_false', Int.not_lt, Int.not_le] at aK3
      refine OpE.val (W := NoB) (OpV.move (.inl rfl) rfl) rfl ?_
      refine VO.opY rfl rfl rfl rfl aK3b ?_
      refine OpE.callT' (k + 3 * q) rfl rfl hB rfl Tryd.call38 rfl ((flip_T (by omega))) (by omega) ?_
      rintro _ ⟨r33, rfl⟩
      refine VO.val rfl rfl (OpV.pickT rfl rfl rfl rfl aK3b) ?_
      refine VO.nil ?_
      show VC _ _ _ _ _
      refine VC.cond rfl (fun aH4b => ?_) (fun aH4b => ?_)
      · have aH4 := aH4b
        try simp only [decide_eq_true_eq, decide_eq_false_iff_not, Bool.not_eq_true', Bool.not_eq_false', Int.not_lt, Int.not_le] at aH4
        refine VC.seq ?_
        refine VC.asBox (i := 0) rfl (by omega) (fun gr cap hu hcap hmx => ?_)
        obtain ⟨hb, hc⟩ : b = some ⟨gr, 0, none⟩ ∧ c = cap := by injection hu with h1 h2 h3; exact ⟨h1, h3⟩
        subst hb
        subst hc
        refine VC.region ?_
        refine VO.val rfl rfl (OpV.move (.inl rfl) rfl) ?_
        refine VO.val rfl rfl (OpV.move (.inl rfl) rfl) ?_
        refine VO.val rfl rfl (OpV.move (.inl rfl) rfl) ?_
        first
          | refine VO.val rfl rfl (OpV.len_im rfl Tryd.underlying64 rfl) ?_
          | refine VO.val rfl rfl (OpV.len_v rfl Tryd.underlying64 rfl) ?_
          | refine VO.val rfl rfl (OpV.len_row (i := 0) rfl Tryd.underlying64 rfl rfl) ?_
        refine VO.op rfl (OpE.callT' (k + 3 * q + 1) rfl rfl hB rfl Tryd.call53 rfl (next_T (by omega)) (by omega) ?_)
        rintro _ ⟨r39, hr39, rfl⟩
        obtain ⟨m, rfl⟩ : ∃ m : Nat, r39 = m := ⟨r39.toNat, by omega⟩
        first
          | refine VO.val rfl rfl (OpV.indexAddr_E rfl Tryd.underlying64 Tryd.sizeOf117 rfl rfl rfl (by omega)) ?_
          | refine VO.val rfl rfl (OpV.indexAddr_E rfl Tryd.underlying64 Tryd.sizeOf117 rfl rfl (Int.toNat_of_nonneg (by omega)).symm (by omega)) ?_
          | refine VO.val rfl rfl (OpV.indexAddr_q rfl Tryd.underlying64 Tryd.sizeOf117 rfl rfl rfl (by omega)) ?_
          | refine VO.val rfl rfl (OpV.indexAddr_q rfl Tryd.underlying64 Tryd.sizeOf117 rfl rfl (Int.toNat_of_nonneg (by omega)).symm (by omega)) ?_
          | refine VO.val rfl rfl (OpV.indexAddr_im rfl Tryd.underlying64 Tryd.sizeOf117 rfl rfl (by omega) (by omega)) ?_
        refine VO.val rfl rfl (OpV.move (.inr rfl) rfl) ?_
        refine VO.nil ?_
        show VC _ _ _ _ _
        refine VC.draw (fun j b => j ∈ [30, 33, 36] ∧ b = gr) hB (by kernel_rfl) ?_
        refine VA.take (i := 0) rfl (by decide +kernel) (by decide +kernel) (by decide +kernel) rfl rfl (OpV.move (.inl rfl) rfl) ?_
        refine VA.take (i := 1) rfl (by decide +kernel) (by decide +kernel) (by decide +kernel) rfl rfl (OpV.move (.inl rfl) rfl) ?_
        refine VA.take (i := 2) rfl (by decide +kernel) (by decide +kernel) (by decide +kernel) rfl rfl (OpV.move (.inl rfl) rfl) ?_
        refine VA.take (i := 3) rfl (by decide +kernel) (by decide +kernel) (by decide +kernel) rfl rfl (OpV.move (.inl rfl) rfl) ?_
        refine VA.take (i := 4) rfl (by decide +kernel) (by decide +kernel) (by decide +kernel) rfl rfl (OpV.move (.inl rfl) rfl) ?_
        first
          | refine VA.take (i := 5) rfl (by decide +kernel) (by decide +kernel) (by decide +kernel) rfl rfl (OpV.nilCheck_at rfl rfl) ?_
          | refine VA.take (i := 5) rfl (by decide +kernel) (by decide +kernel) (by decide +kernel) rfl rfl (OpV.nilCheck rfl rfl) ?_
        first
          | refine VA.take (i := 6) rfl (by decide +kernel) (by decide +kernel) (by decide +kernel) rfl rfl (OpV.fieldAddr_atO 0 rfl Tryd.underlying117 rfl rfl Tryd.sizeOf9 rfl rfl) ?_
          | refine VA.take (i := 6) rfl (by decide +kernel) (by decide +kernel) (by decide +kernel) rfl rfl (OpV.fieldAddrO 0 rfl Tryd.underlying117 rfl rfl Tryd.sizeOf9 rfl) ?_
        first
          | refine VA.take (i := 7) rfl (by decide +kernel) (by decide +kernel) (by decide +kernel) rfl rfl (OpV.load_at rfl hB (by first | exact OutW.wi1 (k := 0) rfl rfl) Tryd.isAgg9 rfl rfl) ?_
          | refine VA.take (i := 7) rfl (by decide +kernel) (by decide +kernel) (by decide +kernel) rfl rfl (OpV.load_own (i := 0) rfl hB Tryd.isAgg9 rfl rfl (rowL_at rfl (by omega) (by decide)) (Wi.notD (by decide +kernel))) ?_
        refine VA.take (i := 10) rfl (by decide +kernel) (by decide +kernel) (by decide +kernel) rfl rfl (OpV.move (.inl rfl) rfl) ?_
        refine VA.take (i := 11) rfl (by decide +kernel) (by decide +kernel) (by decide +kernel) rfl rfl (OpV.move (.inl rfl) rfl) ?_
        first
          | refine VA.take (i := 12) rfl (by decide +kernel) (by decide +kernel) (by decide +kernel) rfl rfl (OpV.nilCheck_at rfl rfl) ?_
          | refine VA.take (i := 12) rfl (by decide +kernel) (by decide +kernel) (by decide +kernel) rfl rfl (OpV.nilCheck rfl rfl) ?_
        first
          | refine VA.take (i := 13) rfl (by decide +kernel) (by decide +kernel) (by decide +kernel) rfl rfl (OpV.fieldAddr_atO 1 rfl Tryd.underlying117 rfl rfl Tryd.sizeOf3 rfl rfl) ?_
          | refine VA.take (i := 13) rfl (by decide +kernel) (by decide +kernel) (by decide +kernel) rfl rfl (OpV.fieldAddrO 1 rfl Tryd.underlying117 rfl rfl Tryd.sizeOf3 rfl) ?_
        first
          | refine VA.take (i := 14) rfl (by decide +kernel) (by decide +kernel) (by decide +kernel) rfl rfl (OpV.load_at rfl hB (by first | exact OutW.wi1 (k := 0) rfl rfl) Tryd.isAgg3 rfl rfl) ?_
          | refine VA.take (i := 14) rfl (by decide +kernel) (by decide +kernel) (by decide +kernel) rfl rfl (OpV.load_own (i := 0) rfl hB Tryd.isAgg3 rfl rfl (rowL_at rfl (by omega) (by decide)) (Wi.notD (by decide +kernel))) ?_
        refine VA.take (i := 17) rfl (by decide +kernel) (by decide +kernel) (by decide +kernel) rfl rfl (OpV.move (.inl rfl) rfl) ?_
        refine VA.take (i := 18) rfl (by decide +kernel) (by decide +kernel) (by decide +kernel) rfl rfl (OpV.move (.inl rfl) rfl) ?_
        first
          | refine VA.take (i := 19) rfl (by decide +kernel) (by decide +kernel) (by decide +kernel) rfl rfl (OpV.nilCheck_at rfl rfl) ?_
          | refine VA.take (i := 19) rfl (by decide +kernel) (by decide +kernel) (by decide +kernel) rfl rfl (OpV.nilCheck rfl rfl) ?_
        first
          | refine VA.take (i := 20) rfl (by decide +kernel) (by decide +kernel) (by decide +kernel) rfl rfl (OpV.fieldAddr_atO 2 rfl Tryd.underlying117 rfl rfl Tryd.sizeOf3 rfl rfl) ?_
          | refine VA.take (i := 20) rfl (by decide +kernel) (by decide +kernel) (by decide +kernel) rfl rfl (OpV.fieldAddrO 2 rfl Tryd.underlying117 rfl rfl Tryd.sizeOf3 rfl) ?_
        first
          | refine VA.take (i := 21) rfl (by decide +kernel) (by decide +kernel) (by decide +kernel) rfl rfl (OpV.load_at rfl hB (by first | exact OutW.wi1 (k := 0) rfl rfl) Tryd.isAgg3 rfl rfl) ?_
          | refine VA.take (i := 21) rfl (by decide +kernel) (by decide +kernel) (by decide +kernel) rfl rfl (OpV.load_own (i := 0) rfl hB Tryd.isAgg3 rfl rfl (rowL_at rfl (by omega) (by decide)) (Wi.notD (by decide +kernel))) ?_
        refine VA.take (i := 22) rfl (by decide +kernel) (by decide +kernel) (by decide +kernel) rfl rfl (OpV.move (.inl rfl) rfl) ?_
        first
          | refine VA.take (i := 23) rfl (by decide +kernel) (by decide +kernel) (by decide +kernel) rfl rfl (OpV.nilCheck_at rfl rfl) ?_
          | refine VA.take (i := 23) rfl (by decide +kernel) (by decide +kernel) (by decide +kernel) rfl rfl (OpV.nilCheck rfl rfl) ?_
        first
          | refine VA.take (i := 24) rfl (by decide +kernel) (by decide +kernel) (by decide +kernel) rfl rfl (OpV.fieldAddr_atO 2 rfl Tryd.underlying117 rfl rfl Tryd.sizeOf3 rfl rfl) ?_
          | refine VA.take (i := 24) rfl (by decide +kernel) (by decide +kernel) (by decide +kernel) rfl rfl (OpV.fieldAddrO 2 rfl Tryd.underlying117 rfl rfl Tryd.sizeOf3 rfl) ?_
        first
          | refine VA.take (i := 25) rfl (by decide +kernel) (by decide +kernel) (by decide +kernel) rfl rfl (OpV.load_at rfl hB (by first | exact OutW.wi1 (k := 0) rfl rfl) Tryd.isAgg3 rfl rfl) ?_
          | refine VA.take (i := 25) rfl (by decide +kernel) (by decide +kernel) (by decide +kernel) rfl rfl (OpV.load_own (i := 0) rfl hB Tryd.isAgg3 rfl rfl (rowL_at rfl (by omega) (by decide)) (Wi.notD (by decide +kernel))) ?_
        refine VA.bind (fun F hF => ?_)
        have hS0 : ∀ (r50 : ByteArray) (hr50 : r50.size ≤ 1000) (r57 : Int) (r68 : Int), F 7 (lstB 37 [0, 1, 2, 3, 4, 5, 6, 7, 8, 9, 10, 11, 12, 13, 14, 15, 16, 17, 18, 19, 20, 21, 22, 23, 24, 25, 26, 27, 28, 29]) ⟨[(3, .v (.slice (some ⟨gr, 0, none⟩) l.length c)), (41, .v (.pointer (some ⟨gr, 0 + m * 3, none⟩))), (42, .v (.pointer (some ⟨gr, 0 + m * 3, none⟩))), (43, .v (.pointer (some ⟨gr, 0 + m * 3, none⟩))), (44, sp p), (51, sp p), (58, sp p), (48, avS (l.getD m default).part), (55, avI (l.getD m default).wide), (62, avI (l.getD m default).high), (66, avI (l.getD m default).high), (49, .im 3 1 (fun j => ([avS (l.getD m default).part, avS ⟨#[]⟩, avS ⟨#[99, 97, 112]⟩] : List AV).getD j .any)), (50, avS r50), (56, .im 3 1 (fun j => ([avI (l.getD m default).wide, avI 0, avI 500001] : List AV).getD j .any)), (57, avI r57), (67, .im 3 1 (fun j => ([avI (l.getD m default).high, avI (l.getD m default).high, avI (-1)] : List AV).getD j .any)), (68, avI r68), (70, .v (.pointer (some ⟨gr, 0 + m * 3 + 0, none⟩)))], [.box gr ⟨rowL l, 117, c * 3⟩], k + 3 * q + 1 + 1 + 1 + 1 + 1⟩ := by
          intro r50 hr50 r57 r68
          rw [hF]
          refine VA.all (rs := [30]) (by decide +kernel) (by decide) ?_
          refine ⟨⟨_, rfl, .inl rfl, ?_⟩, trivial⟩
          refine OpE.store1 (i := 0) rfl hB rfl Tryd.sizeOf9 rfl rfl rfl rfl rfl rfl (rowL_in rfl (by omega) (by decide)) (rowL_set (x := ({l.getD m default with part := r50} : BodyS)) rfl (by omega) (by decide) rfl (fun i hi hn => bd_upd (by simp) (by simp) (by simp) i hi hn)) (by first | exact ⟨rfl, rfl⟩ | exact .inl ⟨rfl, rfl⟩ | exact .inr ⟨rfl, rfl⟩ | exact ⟨rfl, trivial⟩ | exact .inl ⟨rfl, trivial⟩ | exact .inr ⟨rfl, trivial⟩ | exact ⟨by decide, rfl⟩) ?_
          first
            | refine VA.take (i := 31) rfl (by decide +kernel) (by decide +kernel) (by decide +kernel) rfl rfl (OpV.nilCheck_at rfl rfl) ?_
            | refine VA.take (i := 31) rfl (by decide +kernel) (by decide +kernel) (by decide +kernel) rfl rfl (OpV.nilCheck rfl rfl) ?_
          first
            | refine VA.take (i := 32) rfl (by decide +kernel) (by decide +kernel) (by decide +kernel) rfl rfl (OpV.fieldAddr_atO 1 rfl Tryd.underlying117 rfl rfl Tryd.sizeOf3 rfl rfl) ?_
            | refine VA.take (i := 32) rfl (by decide +kernel) (by decide +kernel) (by decide +kernel) rfl rfl (OpV.fieldAddrO 1 rfl Tryd.underlying117 rfl rfl Tryd.sizeOf3 rfl) ?_
          refine VA.all (rs := [33]) (by decide +kernel) (by decide) ?_
          refine ⟨⟨_, rfl, .inl rfl, ?_⟩, trivial⟩
          refine OpE.store1 (i := 0) rfl hB rfl Tryd.sizeOf3 rfl rfl rfl rfl rfl rfl (rowL_in rfl (by first | omega | (simp only [List.length_set]; omega) | (simp; omega)) (by decide)) (rowL_set (x := ({l.getD m default with part := r50, wide := r57} : BodyS)) rfl (by first | omega | (simp only [List.length_set]; omega) | (simp; omega)) (by decide) rfl (fun i hi hn => by rw [getD_setB (by omega)]; exact bd_upd (by simp) (by simp) (by simp) i hi hn)) (by first | exact ⟨rfl, rfl⟩ | exact .inl ⟨rfl, rfl⟩ | exact .inr ⟨rfl, rfl⟩ | exact ⟨rfl, trivial⟩ | exact .inl ⟨rfl, trivial⟩ | exact .inr ⟨rfl, trivial⟩ | exact ⟨by decide, rfl⟩) ?_
          first
            | refine VA.take (i := 34) rfl (by decide +kernel) (by decide +kernel) (by decide +kernel) rfl rfl (OpV.nilCheck_at rfl rfl) ?_
            | refine VA.take (i := 34) rfl (by decide +kernel) (by decide +kernel) (by decide +kernel) rfl rfl (OpV.nilCheck rfl rfl) ?_
          first
            | refine VA.take (i := 35) rfl (by decide +kernel) (by decide +kernel) (by decide +kernel) rfl rfl (OpV.fieldAddr_atO 2 rfl Tryd.underlying117 rfl rfl Tryd.sizeOf3 rfl rfl) ?_
            | refine VA.take (i := 35) rfl (by decide +kernel) (by decide +kernel) (by decide +kernel) rfl rfl (OpV.fieldAddrO 2 rfl Tryd.underlying117 rfl rfl Tryd.sizeOf3 rfl) ?_
          refine VA.all (rs := [36]) (by decide +kernel) (by decide) ?_
          refine ⟨⟨_, rfl, .inl rfl, ?_⟩, trivial⟩
          refine OpE.store1 (i := 0) rfl hB rfl Tryd.sizeOf3 rfl rfl rfl rfl rfl rfl (rowL_in rfl (by first | omega | (simp only [List.length_set]; omega) | (simp; omega)) (by decide)) (rowL_set (x := ({l.getD m default with part := r50, wide := r57, high := r68} : BodyS)) rfl (by first | omega | (simp only [List.length_set]; omega) | (simp; omega)) (by decide) rfl (fun i hi hn => by rw [getD_setB (by first | omega | (simp only [List.length_set]; omega))]; exact bd_upd (by simp) (by simp) (by simp) i hi hn)) (by first | exact ⟨rfl, rfl⟩ | exact .inl ⟨rfl, rfl⟩ | exact .inr ⟨rfl, rfl⟩ | exact ⟨rfl, trivial⟩ | exact .inl ⟨rfl, trivial⟩ | exact .inr ⟨rfl, trivial⟩ | exact ⟨by decide, rfl⟩) ?_
          refine VA.done (by decide +kernel) ?_
          show VC _ _ _ _ _
          refine VC.seq ?_
          refine VC.region ?_
          refine VO.val rfl rfl (OpV.move (.inl rfl) rfl) ?_
          refine VO.val rfl rfl (OpV.move (.inr rfl) rfl) ?_
          refine VO.nil ?_
          show VC _ _ _ _ _
          first
            | refine VC.le _ (Le.rowT (t := 2) (i := 0) (xs := l) hB hnew rfl rfl rfl) ?_
            | refine VC.le _ (Le.boxT (t := 2) (i := 0) (n := l.length) (xs := ((l.set m ({l.getD m default with part := r50} : BodyS)).set m ({l.getD m default with part := r50, wide := r57} : BodyS)).set m ({l.getD m default with part := r50, wide := r57, high := r68} : BodyS)) hB hnew rfl rfl (by simp) hcap hmx) ?_
          refine VC.ret ?_
          exact Exists.intro _ (And.intro (RetV.one Tryd.results25 (ResV.tmp rfl)) (And.intro (by first | exact ⟨l, ⟨BOk.sm (by omega) hok, by omega⟩, rfl⟩ | exact ⟨_, ⟨BOk.sm (by simp; omega) (BOk.set (BOk.set (BOk.set hok _ hr50) _ hr50) _ hr50), by simp; omega⟩, rfl⟩) ((show k + 3 * q + 1 + 1 + 1 + 1 + 1 ≤ k + 30 by omega))))
        have hS1 : ∀ (r50 : ByteArray) (hr50 : r50.size ≤ 1000) (r57 : Int), F 10 (lstB 37 [0, 1, 2, 3, 4, 5, 6, 7, 8, 9, 10, 11, 12, 13, 14, 15, 16, 17, 18, 19, 20, 21, 22, 23, 24, 25, 26]) ⟨[(3, .v (.slice (some ⟨gr, 0, none⟩) l.length c)), (41, .v (.pointer (some ⟨gr, 0 + m * 3, none⟩))), (42, .v (.pointer (some ⟨gr, 0 + m * 3, none⟩))), (43, .v (.pointer (some ⟨gr, 0 + m * 3, none⟩))), (44, sp p), (51, sp p), (58, sp p), (48, avS (l.getD m default).part), (55, avI (l.getD m default).wide), (62, avI (l.getD m default).high), (66, avI (l.getD m default).high), (49, .im 3 1 (fun j => ([avS (l.getD m default).part, avS ⟨#[]⟩, avS ⟨#[99, 97, 112]⟩] : List AV).getD j .any)), (50, avS r50), (56, .im 3 1 (fun j => ([avI (l.getD m default).wide, avI 0, avI 500001] : List AV).getD j .any)), (57, avI r57), (67, .im 3 1 (fun j => ([avI (l.getD m default).high, avI (l.getD m default).high, avI (-1)] : List AV).getD j .any))], [.box gr ⟨rowL l, 117, c * 3⟩], k + 3 * q + 1 + 1 + 1 + 1⟩ := by
          intro r50 hr50 r57
          rw [hF]
          refine VA.all (rs := [27]) (by decide +kernel) (by decide) ?_
          refine ⟨⟨_, rfl, .inl rfl, ?_⟩, trivial⟩
          refine OpE.callT' (k + 3 * q + 1 + 1 + 1 + 1) rfl rfl hB rfl Tryd.call37 rfl (pick_X (by rfl) (by decide) (by decide) (by repeat (first | exact AllX.nil | refine AllX.cons ?_))) (by omega) ?_
          rintro _ ⟨r68, rfl⟩
          first
            | refine VA.take (i := 28) rfl (by decide +kernel) (by decide +kernel) (by decide +kernel) rfl rfl (OpV.nilCheck_at rfl rfl) ?_
            | refine VA.take (i := 28) rfl (by decide +kernel) (by decide +kernel) (by decide +kernel) rfl rfl (OpV.nilCheck rfl rfl) ?_
          first
            | refine VA.take (i := 29) rfl (by decide +kernel) (by decide +kernel) (by decide +kernel) rfl rfl (OpV.fieldAddr_atO 0 rfl Tryd.underlying117 rfl rfl Tryd.sizeOf9 rfl rfl) ?_
            | refine VA.take (i := 29) rfl (by decide +kernel) (by decide +kernel) (by decide +kernel) rfl rfl (OpV.fieldAddrO 0 rfl Tryd.underlying117 rfl rfl Tryd.sizeOf9 rfl) ?_
          have hh := hS0 r50 hr50 r57 r68
          rw [hF] at hh
          exact VA.to hh (by decide +kernel) (Le.mk hB [0] ⟨rfl, rfl, rfl, rfl, rfl, rfl, rfl, rfl, rfl, rfl, rfl, rfl, rfl, rfl, rfl, rfl, rfl, rfl, trivial⟩ rfl rfl (Nat.le_refl _))
        have hS2 : ∀ (r50 : ByteArray) (hr50 : r50.size ≤ 1000) (r57 : Int), F 11 (lstB 37 [0, 1, 2, 3, 4, 5, 6, 7, 8, 9, 10, 11, 12, 13, 14, 15, 16, 17, 18, 19, 20, 21, 22, 23, 24, 25]) ⟨[(3, .v (.slice (some ⟨gr, 0, none⟩) l.length c)), (41, .v (.pointer (some ⟨gr, 0 + m * 3, none⟩))), (42, .v (.pointer (some ⟨gr, 0 + m * 3, none⟩))), (43, .v (.pointer (some ⟨gr, 0 + m * 3, none⟩))), (44, sp p), (51, sp p), (58, sp p), (48, avS (l.getD m default).part), (55, avI (l.getD m default).wide), (62, avI (l.getD m default).high), (66, avI (l.getD m default).high), (49, .im 3 1 (fun j => ([avS (l.getD m default).part, avS ⟨#[]⟩, avS ⟨#[99, 97, 112]⟩] : List AV).getD j .any)), (50, avS r50), (56, .im 3 1 (fun j => ([avI (l.getD m default).wide, avI 0, avI 500001] : List AV).getD j .any)), (57, avI r57)], [.box gr ⟨rowL l, 117, c * 3⟩], k + 3 * q + 1 + 1 + 1 + 1⟩ := by
          intro r50 hr50 r57
          rw [hF]
          refine VA.all (rs := [26]) (by decide +kernel) (by decide) ?_
          refine ⟨⟨_, rfl, .inl rfl, ?_⟩, trivial⟩
          refine OpE.buildSlice (zc := #[.int .i64 0, .int .i64 0, .int .i64 0]) rfl hB rfl Tryd.underlying22 Tryd.sizeOf3 Tryd.zeroValue3 (by decide) (by decide) (by kernel_rfl) rfl rfl ?_
          have hh := hS1 r50 hr50 r57
          rw [hF] at hh
          exact VA.to hh (by decide +kernel) (Le.mk hB [0] ⟨rfl, rfl, rfl, rfl, rfl, rfl, rfl, rfl, rfl, rfl, rfl, rfl, rfl, rfl, rfl, rfl, trivial⟩ rfl rfl (Nat.le_refl _))
        have hS3 : ∀ (r50 : ByteArray) (hr50 : r50.size ≤ 1000), F 11 (lstB 37 [0, 1, 2, 3, 4, 5, 6, 7, 8, 9, 10, 11, 12, 13, 14, 15, 17, 18, 19, 20, 21, 22, 23, 24, 25, 26]) ⟨[(3, .v (.slice (some ⟨gr, 0, none⟩) l.length c)), (41, .v (.pointer (some ⟨gr, 0 + m * 3, none⟩))), (42, .v (.pointer (some ⟨gr, 0 + m * 3, none⟩))), (43, .v (.pointer (some ⟨gr, 0 + m * 3, none⟩))), (44, sp p), (51, sp p), (58, sp p), (48, avS (l.getD m default).part), (55, avI (l.getD m default).wide), (62, avI (l.getD m default).high), (66, avI (l.getD m default).high), (49, .im 3 1 (fun j => ([avS (l.getD m default).part, avS ⟨#[]⟩, avS ⟨#[99, 97, 112]⟩] : List AV).getD j .any)), (50, avS r50), (56, .im 3 1 (fun j => ([avI (l.getD m default).wide, avI 0, avI 500001] : List AV).getD j .any)), (67, .im 3 1 (fun j => ([avI (l.getD m default).high, avI (l.getD m default).high, avI (-1)] : List AV).getD j .any))], [.box gr ⟨rowL l, 117, c * 3⟩], k + 3 * q + 1 + 1 + 1⟩ := by
          intro r50 hr50
          rw [hF]
          refine VA.all (rs := [16]) (by decide +kernel) (by decide) ?_
          refine ⟨⟨_, rfl, .inl rfl, ?_⟩, trivial⟩
          refine OpE.callT' (k + 3 * q + 1 + 1 + 1) rfl rfl hB rfl Tryd.call37 rfl (pick_X (by rfl) (by decide) (by decide) (by repeat (first | exact AllX.nil | refine AllX.cons ?_))) (by omega) ?_
          rintro _ ⟨r57, rfl⟩
          have hh := hS1 r50 hr50 r57
          rw [hF] at hh
          exact VA.to hh (by decide +kernel) (Le.mk hB [0] ⟨rfl, rfl, rfl, rfl, rfl, rfl, rfl, rfl, rfl, rfl, rfl, rfl, rfl, rfl, rfl, rfl, trivial⟩ rfl rfl (Nat.le_refl _))
        have hS4 : ∀ (r50 : ByteArray) (hr50 : r50.size ≤ 1000), F 12 (lstB 37 [0, 1, 2, 3, 4, 5, 6, 7, 8, 9, 10, 11, 12, 13, 14, 15, 17, 18, 19, 20, 21, 22, 23, 24, 25]) ⟨[(3, .v (.slice (some ⟨gr, 0, none⟩) l.length c)), (41, .v (.pointer (some ⟨gr, 0 + m * 3, none⟩))), (42, .v (.pointer (some ⟨gr, 0 + m * 3, none⟩))), (43, .v (.pointer (some ⟨gr, 0 + m * 3, none⟩))), (44, sp p), (51, sp p), (58, sp p), (48, avS (l.getD m default).part), (55, avI (l.getD m default).wide), (62, avI (l.getD m default).high), (66, avI (l.getD m default).high), (49, .im 3 1 (fun j => ([avS (l.getD m default).part, avS ⟨#[]⟩, avS ⟨#[99, 97, 112]⟩] : List AV).getD j .any)), (50, avS r50), (56, .im 3 1 (fun j => ([avI (l.getD m default).wide, avI 0, avI 500001] : List AV).getD j .any))], [.box gr ⟨rowL l, 117, c * 3⟩], k + 3 * q + 1 + 1 + 1⟩ := by
          intro r50 hr50
          rw [hF]
          refine VA.all (rs := [16, 26]) (by decide +kernel) (by decide) ?_
          refine ⟨⟨_, rfl, .inl rfl, ?_⟩, ⟨_, rfl, .inl rfl, ?_⟩, trivial⟩
          ·
            refine OpE.callT' (k + 3 * q + 1 + 1 + 1) rfl rfl hB rfl Tryd.call37 rfl (pick_X (by rfl) (by decide) (by decide) (by repeat (first | exact AllX.nil | refine AllX.cons ?_))) (by omega) ?_
            rintro _ ⟨r57, rfl⟩
            have hh := hS2 r50 hr50 r57
            rw [hF] at hh
            exact VA.to hh (by decide +kernel) (Le.mk hB [0] ⟨rfl, rfl, rfl, rfl, rfl, rfl, rfl, rfl, rfl, rfl, rfl, rfl, rfl, rfl, rfl, trivial⟩ rfl rfl (Nat.le_refl _))
          ·
            refine OpE.buildSlice (zc := #[.int .i64 0, .int .i64 0, .int .i64 0]) rfl hB rfl Tryd.underlying22 Tryd.sizeOf3 Tryd.zeroValue3 (by decide) (by decide) (by kernel_rfl) rfl rfl ?_
            have hh := hS3 r50 hr50
            rw [hF] at hh
            exact VA.to hh (by decide +kernel) (Le.mk hB [0] ⟨rfl, rfl, rfl, rfl, rfl, rfl, rfl, rfl, rfl, rfl, rfl, rfl, rfl, rfl, rfl, trivial⟩ rfl rfl (Nat.le_refl _))
        have hS5 : ∀ (r50 : ByteArray) (hr50 : r50.size ≤ 1000), F 12 (lstB 37 [0, 1, 2, 3, 4, 5, 6, 7, 8, 9, 10, 11, 12, 13, 14, 17, 18, 19, 20, 21, 22, 23, 24, 25, 26]) ⟨[(3, .v (.slice (some ⟨gr, 0, none⟩) l.length c)), (41, .v (.pointer (some ⟨gr, 0 + m * 3, none⟩))), (42, .v (.pointer (some ⟨gr, 0 + m * 3, none⟩))), (43, .v (.pointer (some ⟨gr, 0 + m * 3, none⟩))), (44, sp p), (51, sp p), (58, sp p), (48, avS (l.getD m default).part), (55, avI (l.getD m default).wide), (62, avI (l.getD m default).high), (66, avI (l.getD m default).high), (49, .im 3 1 (fun j => ([avS (l.getD m default).part, avS ⟨#[]⟩, avS ⟨#[99, 97, 112]⟩] : List AV).getD j .any)), (50, avS r50), (67, .im 3 1 (fun j => ([avI (l.getD m default).high, avI (l.getD m default).high, avI (-1)] : List AV).getD j .any))], [.box gr ⟨rowL l, 117, c * 3⟩], k + 3 * q + 1 + 1 + 1⟩ := by
          intro r50 hr50
          rw [hF]
          refine VA.all (rs := [15]) (by decide +kernel) (by decide) ?_
          refine ⟨⟨_, rfl, .inl rfl, ?_⟩, trivial⟩
          refine OpE.buildSlice (zc := #[.int .i64 0, .int .i64 0, .int .i64 0]) rfl hB rfl Tryd.underlying22 Tryd.sizeOf3 Tryd.zeroValue3 (by decide) (by decide) (by kernel_rfl) rfl rfl ?_
          have hh := hS3 r50 hr50
          rw [hF] at hh
          exact VA.to hh (by decide +kernel) (Le.mk hB [0] ⟨rfl, rfl, rfl, rfl, rfl, rfl, rfl, rfl, rfl, rfl, rfl, rfl, rfl, rfl, rfl, trivial⟩ rfl rfl (Nat.le_refl _))
        have hS6 : F 12 (lstB 37 [0, 1, 2, 3, 4, 5, 6, 7, 8, 10, 11, 12, 13, 14, 15, 17, 18, 19, 20, 21, 22, 23, 24, 25, 26]) ⟨[(3, .v (.slice (some ⟨gr, 0, none⟩) l.length c)), (41, .v (.pointer (some ⟨gr, 0 + m * 3, none⟩))), (42, .v (.pointer (some ⟨gr, 0 + m * 3, none⟩))), (43, .v (.pointer (some ⟨gr, 0 + m * 3, none⟩))), (44, sp p), (51, sp p), (58, sp p), (48, avS (l.getD m default).part), (55, avI (l.getD m default).wide), (62, avI (l.getD m default).high), (66, avI (l.getD m default).high), (49, .im 3 1 (fun j => ([avS (l.getD m default).part, avS ⟨#[]⟩, avS ⟨#[99, 97, 112]⟩] : List AV).getD j .any)), (56, .im 3 1 (fun j => ([avI (l.getD m default).wide, avI 0, avI 500001] : List AV).getD j .any)), (67, .im 3 1 (fun j => ([avI (l.getD m default).high, avI (l.getD m default).high, avI (-1)] : List AV).getD j .any))], [.box gr ⟨rowL l, 117, c * 3⟩], k + 3 * q + 1 + 1⟩ := by
          rw [hF]
          refine VA.all (rs := [9]) (by decide +kernel) (by decide) ?_
          refine ⟨⟨_, rfl, .inl rfl, ?_⟩, trivial⟩
          refine OpE.callT' (k + 3 * q + 1 + 1) rfl rfl hB rfl Tryd.call51 rfl (some_T 1000 (by rfl) (by decide) (by decide) (AllS.cons (hok.getD m) (AllS.cons (by decide) (AllS.cons (by decide) AllS.nil)))) (by omega) ?_
          rintro _ ⟨r50, hr50, rfl⟩
          have hh := hS3 r50 hr50
          rw [hF] at hh
          exact VA.to hh (by decide +kernel) (Le.mk hB [0] ⟨rfl, rfl, rfl, rfl, rfl, rfl, rfl, rfl, rfl, rfl, rfl, rfl, rfl, rfl, rfl, trivial⟩ rfl rfl (Nat.le_refl _))
        have hS7 : ∀ (r50 : ByteArray) (hr50 : r50.size ≤ 1000), F 13 (lstB 37 [0, 1, 2, 3, 4, 5, 6, 7, 8, 9, 10, 11, 12, 13, 14, 17, 18, 19, 20, 21, 22, 23, 24, 25]) ⟨[(3, .v (.slice (some ⟨gr, 0, none⟩) l.length c)), (41, .v (.pointer (some ⟨gr, 0 + m * 3, none⟩))), (42, .v (.pointer (some ⟨gr, 0 + m * 3, none⟩))), (43, .v (.pointer (some ⟨gr, 0 + m * 3, none⟩))), (44, sp p), (51, sp p), (58, sp p), (48, avS (l.getD m default).part), (55, avI (l.getD m default).wide), (62, avI (l.getD m default).high), (66, avI (l.getD m default).high), (49, .im 3 1 (fun j => ([avS (l.getD m default).part, avS ⟨#[]⟩, avS ⟨#[99, 97, 112]⟩] : List AV).getD j .any)), (50, avS r50)], [.box gr ⟨rowL l, 117, c * 3⟩], k + 3 * q + 1 + 1 + 1⟩ := by
          intro r50 hr50
          rw [hF]
          refine VA.all (rs := [15, 26]) (by decide +kernel) (by decide) ?_
          refine ⟨⟨_, rfl, .inl rfl, ?_⟩, ⟨_, rfl, .inl rfl, ?_⟩, trivial⟩
          ·
            refine OpE.buildSlice (zc := #[.int .i64 0, .int .i64 0, .int .i64 0]) rfl hB rfl Tryd.underlying22 Tryd.sizeOf3 Tryd.zeroValue3 (by decide) (by decide) (by kernel_rfl) rfl rfl ?_
            have hh := hS4 r50 hr50
            rw [hF] at hh
            exact VA.to hh (by decide +kernel) (Le.mk hB [0] ⟨rfl, rfl, rfl, rfl, rfl, rfl, rfl, rfl, rfl, rfl, rfl, rfl, rfl, rfl, trivial⟩ rfl rfl (Nat.le_refl _))
          ·
            refine OpE.buildSlice (zc := #[.int .i64 0, .int .i64 0, .int .i64 0]) rfl hB rfl Tryd.underlying22 Tryd.sizeOf3 Tryd.zeroValue3 (by decide) (by decide) (by kernel_rfl) rfl rfl ?_
            have hh := hS5 r50 hr50
            rw [hF] at hh
            exact VA.to hh (by decide +kernel) (Le.mk hB [0] ⟨rfl, rfl, rfl, rfl, rfl, rfl, rfl, rfl, rfl, rfl, rfl, rfl, rfl, rfl, trivial⟩ rfl rfl (Nat.le_refl _))
        have hS8 : F 13 (lstB 37 [0, 1, 2, 3, 4, 5, 6, 7, 8, 10, 11, 12, 13, 14, 15, 17, 18, 19, 20, 21, 22, 23, 24, 25]) ⟨[(3, .v (.slice (some ⟨gr, 0, none⟩) l.length c)), (41, .v (.pointer (some ⟨gr, 0 + m * 3, none⟩))), (42, .v (.pointer (some ⟨gr, 0 + m * 3, none⟩))), (43, .v (.pointer (some ⟨gr, 0 + m * 3, none⟩))), (44, sp p), (51, sp p), (58, sp p), (48, avS (l.getD m default).part), (55, avI (l.getD m default).wide), (62, avI (l.getD m default).high), (66, avI (l.getD m default).high), (49, .im 3 1 (fun j => ([avS (l.getD m default).part, avS ⟨#[]⟩, avS ⟨#[99, 97, 112]⟩] : List AV).getD j .any)), (56, .im 3 1 (fun j => ([avI (l.getD m default).wide, avI 0, avI 500001] : List AV).getD j .any))], [.box gr ⟨rowL l, 117, c * 3⟩], k + 3 * q + 1 + 1⟩ := by
          rw [hF]
          refine VA.all (rs := [9, 26]) (by decide +kernel) (by decide) ?_
          refine ⟨⟨_, rfl, .inl rfl, ?_⟩, ⟨_, rfl, .inl rfl, ?_⟩, trivial⟩
          ·
            refine OpE.callT' (k + 3 * q + 1 + 1) rfl rfl hB rfl Tryd.call51 rfl (some_T 1000 (by rfl) (by decide) (by decide) (AllS.cons (hok.getD m) (AllS.cons (by decide) (AllS.cons (by decide) AllS.nil)))) (by omega) ?_
            rintro _ ⟨r50, hr50, rfl⟩
            have hh := hS4 r50 hr50
            rw [hF] at hh
            exact VA.to hh (by decide +kernel) (Le.mk hB [0] ⟨rfl, rfl, rfl, rfl, rfl, rfl, rfl, rfl, rfl, rfl, rfl, rfl, rfl, rfl, trivial⟩ rfl rfl (Nat.le_refl _))
          ·
            refine OpE.buildSlice (zc := #[.int .i64 0, .int .i64 0, .int .i64 0]) rfl hB rfl Tryd.underlying22 Tryd.sizeOf3 Tryd.zeroValue3 (by decide) (by decide) (by kernel_rfl) rfl rfl ?_
            have hh := hS6 
            rw [hF] at hh
            exact VA.to hh (by decide +kernel) (Le.mk hB [0] ⟨rfl, rfl, rfl, rfl, rfl, rfl, rfl, rfl, rfl, rfl, rfl, rfl, rfl, rfl, trivial⟩ rfl rfl (Nat.le_refl _))
        have hS9 : F 13 (lstB 37 [0, 1, 2, 3, 4, 5, 6, 7, 8, 10, 11, 12, 13, 14, 17, 18, 19, 20, 21, 22, 23, 24, 25, 26]) ⟨[(3, .v (.slice (some ⟨gr, 0, none⟩) l.length c)), (41, .v (.pointer (some ⟨gr, 0 + m * 3, none⟩))), (42, .v (.pointer (some ⟨gr, 0 + m * 3, none⟩))), (43, .v (.pointer (some ⟨gr, 0 + m * 3, none⟩))), (44, sp p), (51, sp p), (58, sp p), (48, avS (l.getD m default).part), (55, avI (l.getD m default).wide), (62, avI (l.getD m default).high), (66, avI (l.getD m default).high), (49, .im 3 1 (fun j => ([avS (l.getD m default).part, avS ⟨#[]⟩, avS ⟨#[99, 97, 112]⟩] : List AV).getD j .any)), (67, .im 3 1 (fun j => ([avI (l.getD m default).high, avI (l.getD m default).high, avI (-1)] : List AV).getD j .any))], [.box gr ⟨rowL l, 117, c * 3⟩], k + 3 * q + 1 + 1⟩ := by
          rw [hF]
          refine VA.all (rs := [9, 15]) (by decide +kernel) (by decide) ?_
          refine ⟨⟨_, rfl, .inl rfl, ?_⟩, ⟨_, rfl, .inl rfl, ?_⟩, trivial⟩
          ·
            refine OpE.callT' (k + 3 * q + 1 + 1) rfl rfl hB rfl Tryd.call51 rfl (some_T 1000 (by rfl) (by decide) (by decide) (AllS.cons (hok.getD m) (AllS.cons (by decide) (AllS.cons (by decide) AllS.nil)))) (by omega) ?_
            rintro _ ⟨r50, hr50, rfl⟩
            have hh := hS5 r50 hr50
            rw [hF] at hh
            exact VA.to hh (by decide +kernel) (Le.mk hB [0] ⟨rfl, rfl, rfl, rfl, rfl, rfl, rfl, rfl, rfl, rfl, rfl, rfl, rfl, rfl, trivial⟩ rfl rfl (Nat.le_refl _))
          ·
            refine OpE.buildSlice (zc := #[.int .i64 0, .int .i64 0, .int .i64 0]) rfl hB rfl Tryd.underlying22 Tryd.sizeOf3 Tryd.zeroValue3 (by decide) (by decide) (by kernel_rfl) rfl rfl ?_
            have hh := hS6 
            rw [hF] at hh
            exact VA.to hh (by decide +kernel) (Le.mk hB [0] ⟨rfl, rfl, rfl, rfl, rfl, rfl, rfl, rfl, rfl, rfl, rfl, rfl, rfl, rfl, trivial⟩ rfl rfl (Nat.le_refl _))
        have hS10 : F 13 (lstB 37 [0, 1, 2, 3, 4, 5, 6, 7, 10, 11, 12, 13, 14, 15, 17, 18, 19, 20, 21, 22, 23, 24, 25, 26]) ⟨[(3, .v (.slice (some ⟨gr, 0, none⟩) l.length c)), (41, .v (.pointer (some ⟨gr, 0 + m * 3, none⟩))), (42, .v (.pointer (some ⟨gr, 0 + m * 3, none⟩))), (43, .v (.pointer (some ⟨gr, 0 + m * 3, none⟩))), (44, sp p), (51, sp p), (58, sp p), (48, avS (l.getD m default).part), (55, avI (l.getD m default).wide), (62, avI (l.getD m default).high), (66, avI (l.getD m default).high), (56, .im 3 1 (fun j => ([avI (l.getD m default).wide, avI 0, avI 500001] : List AV).getD j .any)), (67, .im 3 1 (fun j => ([avI (l.getD m default).high, avI (l.getD m default).high, avI (-1)] : List AV).getD j .any))], [.box gr ⟨rowL l, 117, c * 3⟩], k + 3 * q + 1 + 1⟩ := by
          rw [hF]
          refine VA.all (rs := [8]) (by decide +kernel) (by decide) ?_
          refine ⟨⟨_, rfl, .inl rfl, ?_⟩, trivial⟩
          refine OpE.buildSlice (zc := #[.string ⟨#[]⟩, .string ⟨#[]⟩, .string ⟨#[]⟩]) rfl hB rfl Tryd.underlying70 Tryd.sizeOf9 Tryd.zeroValue9 (by decide) (by decide) (by kernel_rfl) rfl rfl ?_
          have hh := hS6 
          rw [hF] at hh
          exact VA.to hh (by decide +kernel) (Le.mk hB [0] ⟨rfl, rfl, rfl, rfl, rfl, rfl, rfl, rfl, rfl, rfl, rfl, rfl, rfl, rfl, trivial⟩ rfl rfl (Nat.le_refl _))
        have hS11 : F 14 (lstB 37 [0, 1, 2, 3, 4, 5, 6, 7, 8, 10, 11, 12, 13, 14, 17, 18, 19, 20, 21, 22, 23, 24, 25]) ⟨[(3, .v (.slice (some ⟨gr, 0, none⟩) l.length c)), (41, .v (.pointer (some ⟨gr, 0 + m * 3, none⟩))), (42, .v (.pointer (some ⟨gr, 0 + m * 3, none⟩))), (43, .v (.pointer (some ⟨gr, 0 + m * 3, none⟩))), (44, sp p), (51, sp p), (58, sp p), (48, avS (l.getD m default).part), (55, avI (l.getD m default).wide), (62, avI (l.getD m default).high), (66, avI (l.getD m default).high), (49, .im 3 1 (fun j => ([avS (l.getD m default).part, avS ⟨#[]⟩, avS ⟨#[99, 97, 112]⟩] : List AV).getD j .any))], [.box gr ⟨rowL l, 117, c * 3⟩], k + 3 * q + 1 + 1⟩ := by
          rw [hF]
          refine VA.all (rs := [9, 15, 26]) (by decide +kernel) (by decide) ?_
          refine ⟨⟨_, rfl, .inl rfl, ?_⟩, ⟨_, rfl, .inl rfl, ?_⟩, ⟨_, rfl, .inl rfl, ?_⟩, trivial⟩
          ·
            refine OpE.callT' (k + 3 * q + 1 + 1) rfl rfl hB rfl Tryd.call51 rfl (some_T 1000 (by rfl) (by decide) (by decide) (AllS.cons (hok.getD m) (AllS.cons (by decide) (AllS.cons (by decide) AllS.nil)))) (by omega) ?_
            rintro _ ⟨r50, hr50, rfl⟩
            have hh := hS7 r50 hr50
            rw [hF] at hh
            exact VA.to hh (by decide +kernel) (Le.mk hB [0] ⟨rfl, rfl, rfl, rfl, rfl, rfl, rfl, rfl, rfl, rfl, rfl, rfl, rfl, trivial⟩ rfl rfl (Nat.le_refl _))
          ·
            refine OpE.buildSlice (zc := #[.int .i64 0, .int .i64 0, .int .i64 0]) rfl hB rfl Tryd.underlying22 Tryd.sizeOf3 Tryd.zeroValue3 (by decide) (by decide) (by kernel_rfl) rfl rfl ?_
            have hh := hS8 
            rw [hF] at hh
            exact VA.to hh (by decide +kernel) (Le.mk hB [0] ⟨rfl, rfl, rfl, rfl, rfl, rfl, rfl, rfl, rfl, rfl, rfl, rfl, rfl, trivial⟩ rfl rfl (Nat.le_refl _))
          ·
            refine OpE.buildSlice (zc := #[.int .i64 0, .int .i64 0, .int .i64 0]) rfl hB rfl Tryd.underlying22 Tryd.sizeOf3 Tryd.zeroValue3 (by decide) (by decide) (by kernel_rfl) rfl rfl ?_
            have hh := hS9 
            rw [hF] at hh
            exact VA.to hh (by decide +kernel) (Le.mk hB [0] ⟨rfl, rfl, rfl, rfl, rfl, rfl, rfl, rfl, rfl, rfl, rfl, rfl, rfl, trivial⟩ rfl rfl (Nat.le_refl _))
        have hS12 : F 14 (lstB 37 [0, 1, 2, 3, 4, 5, 6, 7, 10, 11, 12, 13, 14, 15, 17, 18, 19, 20, 21, 22, 23, 24, 25]) ⟨[(3, .v (.slice (some ⟨gr, 0, none⟩) l.length c)), (41, .v (.pointer (some ⟨gr, 0 + m * 3, none⟩))), (42, .v (.pointer (some ⟨gr, 0 + m * 3, none⟩))), (43, .v (.pointer (some ⟨gr, 0 + m * 3, none⟩))), (44, sp p), (51, sp p), (58, sp p), (48, avS (l.getD m default).part), (55, avI (l.getD m default).wide), (62, avI (l.getD m default).high), (66, avI (l.getD m default).high), (56, .im 3 1 (fun j => ([avI (l.getD m default).wide, avI 0, avI 500001] : List AV).getD j .any))], [.box gr ⟨rowL l, 117, c * 3⟩], k + 3 * q + 1 + 1⟩ := by
          rw [hF]
          refine VA.all (rs := [8, 26]) (by decide +kernel) (by decide) ?_
          refine ⟨⟨_, rfl, .inl rfl, ?_⟩, ⟨_, rfl, .inl rfl, ?_⟩, trivial⟩
          ·
            refine OpE.buildSlice (zc := #[.string ⟨#[]⟩, .string ⟨#[]⟩, .string ⟨#[]⟩]) rfl hB rfl Tryd.underlying70 Tryd.sizeOf9 Tryd.zeroValue9 (by decide) (by decide) (by kernel_rfl) rfl rfl ?_
            have hh := hS8 
            rw [hF] at hh
            exact VA.to hh (by decide +kernel) (Le.mk hB [0] ⟨rfl, rfl, rfl, rfl, rfl, rfl, rfl, rfl, rfl, rfl, rfl, rfl, rfl, trivial⟩ rfl rfl (Nat.le_refl _))
          ·
            refine OpE.buildSlice (zc := #[.int .i64 0, .int .i64 0, .int .i64 0]) rfl hB rfl Tryd.underlying22 Tryd.sizeOf3 Tryd.zeroValue3 (by decide) (by decide) (by kernel_rfl) rfl rfl ?_
            have hh := hS10 
            rw [hF] at hh
            exact VA.to hh (by decide +kernel) (Le.mk hB [0] ⟨rfl, rfl, rfl, rfl, rfl, rfl, rfl, rfl, rfl, rfl, rfl, rfl, rfl, trivial⟩ rfl rfl (Nat.le_refl _))
        have hS13 : F 14 (lstB 37 [0, 1, 2, 3, 4, 5, 6, 7, 10, 11, 12, 13, 14, 17, 18, 19, 20, 21, 22, 23, 24, 25, 26]) ⟨[(3, .v (.slice (some ⟨gr, 0, none⟩) l.length c)), (41, .v (.pointer (some ⟨gr, 0 + m * 3, none⟩))), (42, .v (.pointer (some ⟨gr, 0 + m * 3, none⟩))), (43, .v (.pointer (some ⟨gr, 0 + m * 3, none⟩))), (44, sp p), (51, sp p), (58, sp p), (48, avS (l.getD m default).part), (55, avI (l.getD m default).wide), (62, avI (l.getD m default).high), (66, avI (l.getD m default).high), (67, .im 3 1 (fun j => ([avI (l.getD m default).high, avI (l.getD m default).high, avI (-1)] : List AV).getD j .any))], [.box gr ⟨rowL l, 117, c * 3⟩], k + 3 * q + 1 + 1⟩ := by
          rw [hF]
          refine VA.all (rs := [8, 15]) (by decide +kernel) (by decide) ?_
          refine ⟨⟨_, rfl, .inl rfl, ?_⟩, ⟨_, rfl, .inl rfl, ?_⟩, trivial⟩
          ·
            refine OpE.buildSlice (zc := #[.string ⟨#[]⟩, .string ⟨#[]⟩, .string ⟨#[]⟩]) rfl hB rfl Tryd.underlying70 Tryd.sizeOf9 Tryd.zeroValue9 (by decide) (by decide) (by kernel_rfl) rfl rfl ?_
            have hh := hS9 
            rw [hF] at hh
            exact VA.to hh (by decide +kernel) (Le.mk hB [0] ⟨rfl, rfl, rfl, rfl, rfl, rfl, rfl, rfl, rfl, rfl, rfl, rfl, rfl, trivial⟩ rfl rfl (Nat.le_refl _))
          ·
            refine OpE.buildSlice (zc := #[.int .i64 0, .int .i64 0, .int .i64 0]) rfl hB rfl Tryd.underlying22 Tryd.sizeOf3 Tryd.zeroValue3 (by decide) (by decide) (by kernel_rfl) rfl rfl ?_
            have hh := hS10 
            rw [hF] at hh
            exact VA.to hh (by decide +kernel) (Le.mk hB [0] ⟨rfl, rfl, rfl, rfl, rfl, rfl, rfl, rfl, rfl, rfl, rfl, rfl, rfl, trivial⟩ rfl rfl (Nat.le_refl _))
        have hS14 : F 15 (lstB 37 [0, 1, 2, 3, 4, 5, 6, 7, 10, 11, 12, 13, 14, 17, 18, 19, 20, 21, 22, 23, 24, 25]) ⟨[(3, .v (.slice (some ⟨gr, 0, none⟩) l.length c)), (41, .v (.pointer (some ⟨gr, 0 + m * 3, none⟩))), (42, .v (.pointer (some ⟨gr, 0 + m * 3, none⟩))), (43, .v (.pointer (some ⟨gr, 0 + m * 3, none⟩))), (44, sp p), (51, sp p), (58, sp p), (48, avS (l.getD m default).part), (55, avI (l.getD m default).wide), (62, avI (l.getD m default).high), (66, avI (l.getD m default).high)], [.box gr ⟨rowL l, 117, c * 3⟩], k + 3 * q + 1 + 1⟩ := by
          rw [hF]
          refine VA.all (rs := [8, 15, 26]) (by decide +kernel) (by decide) ?_
          refine ⟨⟨_, rfl, .inl rfl, ?_⟩, ⟨_, rfl, .inl rfl, ?_⟩, ⟨_, rfl, .inl rfl, ?_⟩, trivial⟩
          ·
            refine OpE.buildSlice (zc := #[.string ⟨#[]⟩, .string ⟨#[]⟩, .string ⟨#[]⟩]) rfl hB rfl Tryd.underlying70 Tryd.sizeOf9 Tryd.zeroValue9 (by decide) (by decide) (by kernel_rfl) rfl rfl ?_
            have hh := hS11 
            rw [hF] at hh
            exact VA.to hh (by decide +kernel) (Le.mk hB [0] ⟨rfl, rfl, rfl, rfl, rfl, rfl, rfl, rfl, rfl, rfl, rfl, rfl, trivial⟩ rfl rfl (Nat.le_refl _))
          ·
            refine OpE.buildSlice (zc := #[.int .i64 0, .int .i64 0, .int .i64 0]) rfl hB rfl Tryd.underlying22 Tryd.sizeOf3 Tryd.zeroValue3 (by decide) (by decide) (by kernel_rfl) rfl rfl ?_
            have hh := hS12 
            rw [hF] at hh
            exact VA.to hh (by decide +kernel) (Le.mk hB [0] ⟨rfl, rfl, rfl, rfl, rfl, rfl, rfl, rfl, rfl, rfl, rfl, rfl, trivial⟩ rfl rfl (Nat.le_refl _))
          ·
            refine OpE.buildSlice (zc := #[.int .i64 0, .int .i64 0, .int .i64 0]) rfl hB rfl Tryd.underlying22 Tryd.sizeOf3 Tryd.zeroValue3 (by decide) (by decide) (by kernel_rfl) rfl rfl ?_
            have hh := hS13 
            rw [hF] at hh
            exact VA.to hh (by decide +kernel) (Le.mk hB [0] ⟨rfl, rfl, rfl, rfl, rfl, rfl, rfl, rfl, rfl, rfl, rfl, rfl, trivial⟩ rfl rfl (Nat.le_refl _))
        rw [hF]
        have hh := hS14 
        rw [hF] at hh
        exact VA.to hh (by decide +kernel) (Le.mk hB [0] ⟨rfl, rfl, rfl, rfl, rfl, rfl, rfl, rfl, rfl, rfl, rfl, trivial⟩ rfl rfl (Nat.le_refl _))
      · have aH4 := aH4b
        try simp only [decide_eq_true_eq, decide_eq_false_iff_not, Bool.not_eq_true', Bool.not_eq_false', Int.not_lt, Int.not_le] at aH4
        refine VC.skip ?_
        show VC _ _ _ _ _
        refine VC.seq ?_
        refine VC.region ?_
        refine VO.val rfl rfl (OpV.move (.inl rfl) rfl) ?_
        refine VO.val rfl rfl (OpV.move (.inr rfl) rfl) ?_
        refine VO.nil ?_
        show VC _ _ _ _ _
        first
          | refine VC.le _ (Le.rowT (t := 2) (i := 0) (xs := l) hB hnew rfl rfl rfl) ?_
          | refine VC.le _ (Le.boxT (t := 2) (i := 0) (n := l.length) (xs := ((l.set m ({l.getD m default with part := r50} : BodyS)).set m ({l.getD m default with part := r50, wide := r57} : BodyS)).set m ({l.getD m default with part := r50, wide := r57, high := r68} : BodyS)) hB hnew rfl rfl (by simp) hcap hmx) ?_
        refine VC.ret ?_
        exact Exists.intro _ (And.intro (RetV.one Tryd.results25 (ResV.tmp rfl)) (And.intro (by first | exact ⟨l, ⟨BOk.sm (by omega) hok, by omega⟩, rfl⟩ | exact ⟨_, ⟨BOk.sm (by simp; omega) (BOk.set (BOk.set (BOk.set hok _ hr50) _ hr50) _ hr50), by simp; omega⟩, rfl⟩) ((show k + 3 * q + 1 ≤ k + 30 by omega))))
    · replace aK3b : _ = false := aK3b
      have aK3 := aK3b
      try simp only [decide_eq_true_eq, decide_eq_false_iff_not, Bool.not_eq_true', Bool.not_eq_false', Int.not_lt, Int.not_le] at aK3
      refine VO.opX rfl rfl rfl rfl aK3b ?_
      refine VO.val rfl rfl (OpV.pickF rfl rfl rfl rfl aK3b) ?_
      refine VO.nil ?_
      show VC _ _ _ _ _
      refine VC.condF rfl rfl ?_
      refine VC.skip ?_
      show VC _ _ _ _ _
      refine VC.seq ?_
      refine VC.region ?_
      refine VO.val rfl rfl (OpV.move (.inl rfl) rfl) ?_
      refine VO.val rfl rfl (OpV.move (.inr rfl) rfl) ?_
      refine VO.nil ?_
      show VC _ _ _ _ _
      first
        | refine VC.le _ (Le.rowT (t := 2) (i := 0) (xs := l) hB hnew rfl rfl rfl) ?_
        | refine VC.le _ (Le.boxT (t := 2) (i := 0) (n := l.length) (xs := ((l.set m ({l.getD m default with part := r50} : BodyS)).set m ({l.getD m default with part := r50, wide := r57} : BodyS)).set m ({l.getD m default with part := r50, wide := r57, high := r68} : BodyS)) hB hnew rfl rfl (by simp) hcap hmx) ?_
      refine VC.ret ?_
      exact Exists.intro _ (And.intro (RetV.one Tryd.results25 (ResV.tmp rfl)) (And.intro (by first | exact ⟨l, ⟨BOk.sm (by omega) hok, by omega⟩, rfl⟩ | exact ⟨_, ⟨BOk.sm (by simp; omega) (BOk.set (BOk.set (BOk.set hok _ hr50) _ hr50) _ hr50), by simp; omega⟩, rfl⟩) ((show k + 3 * q ≤ k + 30 by omega))))
set_option maxRecDepth 100000 in
theorem aGap_T {p : Nat} {L : List Int}  :
    SpecT Tryd.prog (TT p L) (fun b => b = p) 26 [sp p] 1 (fun y => ∃ r : Int, (-100000000 ≤ r ∧ r ≤ 100000000) ∧ y = avI r) := by
  refine SpecT.of_VC Tryd.func26 rfl Tryd.ntmps26 (Nat.le_of_ble_eq_true rfl) (low := (fun b => b ≤ p)) (fun w A k h => h.ok) fun w A k hk hB => ?_
  have hnew : True := trivial
  refine VC.seq ?_
  refine VC.region ?_
  refine VO.val rfl rfl (OpV.move (.inr rfl) rfl) ?_
  refine VO.nil ?_
  show VC _ _ _ _ _
  refine VC.seq ?_
  refine VC.region ?_
  refine VO.val rfl rfl (OpV.move (.inl rfl) rfl) ?_
  refine VO.op rfl (OpE.buildSlice (zc := #[.int .i64 0, .int .i64 0, .int .i64 0, .int .i64 0, .int .i64 0, .int .i64 0, .int .i64 0, .int .i64 0, .int .i64 0]) rfl hB rfl Tryd.underlying22 Tryd.sizeOf3 Tryd.zeroValue3 (by decide) (by decide) (by kernel_rfl) rfl rfl ?_)
  refine VO.op rfl (OpE.callT' (k) rfl rfl hB rfl Tryd.call37 rfl ((pick_T (-100000000) 100000000 (by rfl) (by decide) (by decide) (by repeat (first | exact AllI.nil | refine AllI.cons (by omega) ?_)))) (by omega) ?_)
  rintro _ ⟨r5, hr5, rfl⟩
  refine VO.val rfl rfl (OpV.move (.inr rfl) rfl) ?_
  refine VO.nil ?_
  show VC _ _ _ _ _
  refine VC.ret ?_
  exact Exists.intro _ (And.intro (RetV.one Tryd.results26 (ResV.tmp rfl)) (And.intro (⟨_, hr5, rfl⟩) ((show k + 1 ≤ k + 1 by omega))))
end Go.Proofs.YtgikefjbdhnffaaDoor
