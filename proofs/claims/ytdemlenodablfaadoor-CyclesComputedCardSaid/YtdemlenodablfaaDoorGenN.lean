/- Walks: the generators of needs and plans. -/
import Derived.Test.YtdemlenodablfaaDoorBetS
import Derived.Test.YtdemlenodablfaaDoorStreamS
namespace Go.Proofs.YtdemlenodablfaaDoor
open Go.RowKit
set_option linter.unusedVariables false
set_option linter.unusedSimpArgs false

def keys5 : List ByteArray := [⟨#[97]⟩, ⟨#[98]⟩, ⟨#[99]⟩, ⟨#[100]⟩, ⟨#[101]⟩]
theorem keys5_size (q : Nat) : (keys5.getD q ByteArray.empty).size ≤ 1000 := by
  match q with
  | 0 => decide
  | 1 => decide
  | 2 => decide
  | 3 => decide
  | 4 => decide
  | q + 5 => simp [keys5]
def NOk (ns : List NeedS) : Prop := ns.length ≤ 10 ∧ ∀ x ∈ ns, x.key.size ≤ 1000
theorem NOk.small {ns : List NeedS} (h : NOk ns) : SmallN ns := ⟨by have := h.1; omega, fun i => by
  rw [List.getD_eq_getElem?_getD]
  cases hi : ns[i]? with
  | none => decide
  | some x => have := h.2 x (List.mem_of_getElem? hi); simp; omega⟩
theorem NOk.key {ns : List NeedS} (h : NOk ns) (i : Nat) : (ns.getD i default).key.size ≤ 1000 := by
  rw [List.getD_eq_getElem?_getD]
  cases hi : ns[i]? with
  | none => decide
  | some x => have := h.2 x (List.mem_of_getElem? hi); simpa using this
theorem NOk.set {ns : List NeedS} (h : NOk ns) (q : Nat) {x : NeedS} (hx : x.key.size ≤ 1000) : NOk (ns.set q x) :=
  ⟨by rw [List.length_set]; exact h.1, fun y hy => by rcases List.mem_or_eq_of_mem_set hy with h' | rfl; exact h.2 y h'; exact hx⟩
theorem getD_set_self {α : Type} {xs : List α} {q : Nat} {x d : α} (h : q < xs.length) : (xs.set q x).getD q d = x := by simp [h]
set_option maxRecDepth 100000 in
theorem needList_T {p : Nat} {L : List Int}  :
    SpecT Tryd.prog (TT p L) (fun b => b = p) 5 [sp p] 20 (fun y => ∃ ns, (SmallN ns ∧ ns.length ≤ 10) ∧ y = avL ns) := by
  refine SpecT.of_VC Tryd.func5 rfl Tryd.ntmps5 (Nat.le_of_ble_eq_true rfl) (low := (fun b => b ≤ p)) (fun w A k h => h.ok) fun w A k hk hB => ?_
  have hnew : ∀ b, (B1 w A 58 (fun b => b = p) (fun b => b ≤ p) (TT p L)).S b → (B1 w A 58 (fun b => b = p) (fun b => b ≤ p) (TT p L)).str b := fun _ h => h
  refine VC.seq ?_
  refine VC.region ?_
  refine VO.val rfl rfl (OpV.move (.inr rfl) rfl) ?_
  refine VO.nil ?_
  show VC _ _ _ _ _
  refine VC.seq ?_
  refine VC.region ?_
  refine VO.val rfl rfl (OpV.move (.inr rfl) rfl) ?_
  refine VO.nil ?_
  show VC _ _ _ _ _
  refine VC.seq ?_
  refine VC.seq ?_
  refine VC.region ?_
  refine VO.op rfl (OpE.buildSlice (zc := #[.string ⟨#[]⟩, .string ⟨#[]⟩, .string ⟨#[]⟩, .string ⟨#[]⟩, .string ⟨#[]⟩]) rfl hB rfl Tryd.underlying52 Tryd.sizeOf9 Tryd.zeroValue9 (by decide) (by decide) (by kernel_rfl) rfl rfl ?_)
  refine VO.le _ (Le.recast (t := 7) (y := avStrs keys5) rfl (fun w Z u h => Rep.strs (xs := keys5) rfl h)) ?_
  first
    | refine VO.val rfl rfl (OpV.len_im rfl Tryd.underlying52 rfl) ?_
    | refine VO.val rfl rfl (OpV.len_v rfl Tryd.underlying52 rfl) ?_
  refine VO.val rfl rfl (OpV.move (.inl rfl) rfl) ?_
  refine VO.nil ?_
  show VC _ _ _ _ _
  refine VC.block ?_
  refine VC.le _ (Le.nilRow 2 60) ?_
  refine VC.loop' ({p : Value × List NeedS × Nat // p.2.2 ≤ 5 ∧ p.2.1.length ≤ p.2.2 ∧ ∀ x ∈ p.2.1, x.key.size ≤ 1000}) (fun (i : {p : Value × List NeedS × Nat // p.2.2 ≤ 5 ∧ p.2.1.length ≤ p.2.2 ∧ ∀ x ∈ p.2.1, x.key.size ≤ 1000}) => match i with | ⟨⟨u, ns, q⟩, hq, hl, hk⟩ => ⟨[(0, sp p), (3, .v u), (7, avStrs keys5), (8, avI 5), (9, avI (q : Int))], [.row u ns.length 2 (rowL ns) 60], k + 2 * q⟩) (fun (i : {p : Value × List NeedS × Nat // p.2.2 ≤ 5 ∧ p.2.1.length ≤ p.2.2 ∧ ∀ x ∈ p.2.1, x.key.size ≤ 1000}) => match i with | ⟨⟨u, ns, q⟩, hq, hl, hk⟩ => 5 - q) ⟨(.slice none 0 0, [], 0), by decide, by decide, fun x h => by simp at h⟩ (Le.mk hB [0] ⟨rfl, rfl, rfl, rfl, rfl, trivial⟩ rfl rfl (show k ≤ k + 2 * 0 by omega)) ?_
  rintro ⟨⟨u, ns, q⟩, hq, hl, hk⟩
  show VC _ _ _ _ ⟨[(0, sp p), (3, .v u), (7, avStrs keys5), (8, avI 5), (9, avI (q : Int))], [.row u ns.length 2 (rowL ns) 60], k + 2 * q⟩
  simp only at hq hl hk
  refine VC.seq ?_
  refine VC.region ?_
  refine VO.val rfl rfl (OpV.lss rfl rfl rfl) ?_
  refine VO.nil ?_
  show VC _ _ _ _ _
  refine VC.seq ?_
  refine VC.cond rfl (fun aH1b => ?_) (fun aH1b => ?_)
  · have aH1 := aH1b
    try simp only [decide_eq_true_eq, decide_eq_false_iff_not, Bool.not_eq_true', Bool.not_eq_false', Int.not_lt, Int.not_le] at aH1
    refine VC.skip ?_
    show VC _ _ _ _ _
    refine VC.seq ?_
    refine VC.block ?_
    refine VC.seq ?_
    refine VC.region ?_
    first
      | refine VO.val rfl rfl (OpV.indexAddr_1 rfl Tryd.underlying52 Tryd.sizeOf9 rfl rfl rfl (by show _ < 5; omega)) ?_
      | refine VO.val rfl rfl (OpV.indexAddr_1 rfl Tryd.underlying52 Tryd.sizeOf9 rfl rfl (Int.toNat_of_nonneg (by omega)).symm (by show _ < 5; omega)) ?_
      | refine VO.val rfl rfl (OpV.indexAddr_o rfl Tryd.underlying52 Tryd.sizeOf9 rfl rfl rfl (by show _ < 5; omega)) ?_
      | refine VO.val rfl rfl (OpV.indexAddr_o rfl Tryd.underlying52 Tryd.sizeOf9 rfl rfl (Int.toNat_of_nonneg (by omega)).symm (by show _ < 5; omega)) ?_
      | refine VO.val rfl rfl (OpV.indexAddr_q rfl Tryd.underlying52 Tryd.sizeOf9 rfl rfl rfl (by show _ < 5; omega)) ?_
      | refine VO.val rfl rfl (OpV.indexAddr_q rfl Tryd.underlying52 Tryd.sizeOf9 rfl rfl (Int.toNat_of_nonneg (by omega)).symm (by show _ < 5; omega)) ?_
      | refine VO.val rfl rfl (OpV.indexAddr_im rfl Tryd.underlying52 Tryd.sizeOf9 rfl rfl (by omega) (by show _ < 5; omega)) ?_
    first
      | refine VO.val rfl rfl (OpV.load_at rfl hB OutW.no Tryd.isAgg9 rfl rfl) ?_
      | refine VO.val rfl rfl (OpV.load_own (i := 0) rfl hB Tryd.isAgg9 rfl rfl rfl (fun h => h)) ?_
    refine VO.val rfl rfl (OpV.move (.inr rfl) rfl) ?_
    refine VO.nil ?_
    show VC _ _ _ _ _
    refine VC.seq ?_
    refine VC.region ?_
    refine VO.val rfl rfl (OpV.move (.inl rfl) rfl) ?_
    refine VO.op rfl (OpE.callT' (k + 2 * q) rfl rfl hB rfl Tryd.call23 rfl ((flip_T (by omega))) (by omega) ?_)
    rintro _ ⟨r14, rfl⟩
    refine VO.nil ?_
    show VC _ _ _ _ _
    refine VC.cond rfl (fun aH2b => ?_) (fun aH2b => ?_)
    · have aH2 := aH2b
      try simp only [decide_eq_true_eq, decide_eq_false_iff_not, Bool.not_eq_true', Bool.not_eq_false', Int.not_lt, Int.not_le] at aH2
      refine VC.region ?_
      refine VO.val rfl rfl (OpV.move (.inl rfl) rfl) ?_
      refine VO.val rfl rfl (OpV.move (.inl rfl) rfl) ?_
      refine VO.val rfl rfl (OpV.move (.inl rfl) rfl) ?_
      refine VO.op rfl (OpE.buildSlice (zc := #[.int .i64 0, .int .i64 0, .int .i64 0, .int .i64 0, .int .i64 0]) rfl hB rfl Tryd.underlying22 Tryd.sizeOf3 Tryd.zeroValue3 (by decide) (by decide) (by kernel_rfl) rfl rfl ?_)
      refine VO.op rfl (OpE.callT' (k + 2 * q + 1) rfl rfl hB rfl Tryd.call22 rfl ((pick_T (-100000000) 100000000 (by rfl) (by decide) (by decide) (by repeat (first | exact AllI.nil | refine AllI.cons (by omega) ?_)))) (by omega) ?_)
      rintro _ ⟨r19, hr19, rfl⟩
      refine VO.val rfl rfl (OpV.build (pls := #[(0, 1), (1, 1)]) rfl Tryd.zeroValue60 Tryd.underlying60 (fun w => by kernel_rfl) rfl rfl) ?_
      refine VO.op rfl (OpE.buildSlice (zc := #[.string ⟨#[]⟩, .int .i64 0]) rfl hB rfl Tryd.underlying28 Tryd.sizeOf60 Tryd.zeroValue60 (by decide) (by decide) (by kernel_rfl) rfl rfl ?_)
      refine VO.op rfl (OpE.append1 (i := 0) rfl hB rfl Tryd.underlying28 (infoOf Tryd.t60 2 (by kernel_rfl) rfl rfl) rfl (by decide) (by decide) rfl rfl rfl rfl (rowL_snoc ns (⟨keys5.getD q ByteArray.empty, r19⟩ : NeedS)) (by omega) (fun _ _ => trivial) ?_)
      intro u2
      refine VO.val rfl rfl (OpV.move (.inr rfl) rfl) ?_
      refine VO.nil ?_
      show VC _ _ _ _ _
      refine VC.region ?_
      refine VO.val rfl rfl (OpV.add rfl rfl rfl (by unfold fits; omega)) ?_
      refine VO.val rfl rfl (OpV.move (.inl rfl) rfl) ?_
      refine VO.nil ?_
      first
        | exact Exists.intro (⟨(u2, ns ++ [⟨keys5.getD q ByteArray.empty, r19⟩], q + 1), by show q + 1 ≤ 5; omega, by show (ns ++ [_]).length ≤ q + 1; simp; omega, fun x hx => by rcases List.mem_append.1 hx with hx | hx; exact hk x hx; (simp at hx; subst hx; exact keys5_size _)⟩) (And.intro (Le.mk hB [0] ⟨rfl, rfl, rfl, rfl, rfl, trivial⟩ rfl (by first | rfl | (rw [List.length_append]; rfl)) (show k + 2 * q + 1 + 1 ≤ k + 2 * (q + 1) by omega)) (by first | omega | (show _ < _; omega) | (simp only []; omega)))
        | exact Exists.intro (⟨(u, ns, q + 1), by show q + 1 ≤ 5; omega, by show ns.length ≤ q + 1; omega, hk⟩) (And.intro (Le.mk hB [0] ⟨rfl, rfl, rfl, rfl, rfl, trivial⟩ rfl (by first | rfl | (rw [List.length_append]; rfl)) (show k + 2 * q + 1 + 1 ≤ k + 2 * (q + 1) by omega)) (by first | omega | (show _ < _; omega) | (simp only []; omega)))
    · have aH2 := aH2b
      try simp only [decide_eq_true_eq, decide_eq_false_iff_not, Bool.not_eq_true', Bool.not_eq_false', Int.not_lt, Int.not_le] at aH2
      refine VC.skip ?_
      show VC _ _ _ _ _
      refine VC.region ?_
      refine VO.val rfl rfl (OpV.add rfl rfl rfl (by unfold fits; omega)) ?_
      refine VO.val rfl rfl (OpV.move (.inl rfl) rfl) ?_
      refine VO.nil ?_
      first
        | exact Exists.intro (⟨(u2, ns ++ [⟨keys5.getD q ByteArray.empty, r19⟩], q + 1), by show q + 1 ≤ 5; omega, by show (ns ++ [_]).length ≤ q + 1; simp; omega, fun x hx => by rcases List.mem_append.1 hx with hx | hx; exact hk x hx; (simp at hx; subst hx; exact keys5_size _)⟩) (And.intro (Le.mk hB [0] ⟨rfl, rfl, rfl, rfl, rfl, trivial⟩ rfl (by first | rfl | (rw [List.length_append]; rfl)) (show k + 2 * q + 1 ≤ k + 2 * (q + 1) by omega)) (by first | omega | (show _ < _; omega) | (simp only []; omega)))
        | exact Exists.intro (⟨(u, ns, q + 1), by show q + 1 ≤ 5; omega, by show ns.length ≤ q + 1; omega, hk⟩) (And.intro (Le.mk hB [0] ⟨rfl, rfl, rfl, rfl, rfl, trivial⟩ rfl (by first | rfl | (rw [List.length_append]; rfl)) (show k + 2 * q + 1 ≤ k + 2 * (q + 1) by omega)) (by first | omega | (show _ < _; omega) | (simp only []; omega)))
  · have aH1 := aH1b
    try simp only [decide_eq_true_eq, decide_eq_false_iff_not, Bool.not_eq_true', Bool.not_eq_false', Int.not_lt, Int.not_le] at aH1
    refine VC.exit ?_
    show VC _ _ _ _ _
    refine VC.seq ?_
    refine VC.seq ?_
    have hok : NOk ns := ⟨by omega, hk⟩
    refine VC.region ?_
    refine VO.val rfl rfl (OpV.move (.inl rfl) rfl) ?_
    first
      | refine VO.val rfl rfl (OpV.len_im rfl Tryd.underlying28 rfl) ?_
      | refine VO.val rfl rfl (OpV.len_v rfl Tryd.underlying28 rfl) ?_
      | refine VO.val rfl rfl (OpV.len_row (i := 0) rfl Tryd.underlying28 rfl rfl) ?_
    refine VO.val rfl rfl (OpV.gtr rfl rfl rfl) ?_
    refine VO.val rfl rfl (OpV.move (.inl rfl) rfl) ?_
    refine VO.opG rfl rfl rfl rfl (fun aK3b => ?_) (fun aK3b => ?_)
    · replace aK3b : _ = true := aK3b
      have aK3 := aK3b
      try simp only [decide_eq_true_eq, decide_eq_false_iff_not, Bool.not_eq_true', Bool.not_eq_false', Int.not_lt, Int.not_le] at aK3
      refine OpE.val (W := NoB) (OpV.move (.inl rfl) rfl) rfl ?_
      refine VO.opY rfl rfl rfl rfl aK3b ?_
      refine OpE.callT' (k + 2 * q) rfl rfl hB rfl Tryd.call23 rfl ((flip_T (by omega))) (by omega) ?_
      rintro _ ⟨r29, rfl⟩
      refine VO.val rfl rfl (OpV.pickT rfl rfl rfl rfl aK3b) ?_
      refine VO.nil ?_
      show VC _ _ _ _ _
      refine VC.cond rfl (fun aH4b => ?_) (fun aH4b => ?_)
      · have aH4 := aH4b
        try simp only [decide_eq_true_eq, decide_eq_false_iff_not, Bool.not_eq_true', Bool.not_eq_false', Int.not_lt, Int.not_le] at aH4
        refine VC.seq ?_
        refine VC.asBox (i := 0) rfl (by omega) (fun g cap hu hcap hmx => ?_)
        subst hu
        refine VC.region ?_
        refine VO.val rfl rfl (OpV.move (.inl rfl) rfl) ?_
        refine VO.val rfl rfl (OpV.move (.inl rfl) rfl) ?_
        refine VO.val rfl rfl (OpV.move (.inl rfl) rfl) ?_
        first
          | refine VO.val rfl rfl (OpV.len_im rfl Tryd.underlying28 rfl) ?_
          | refine VO.val rfl rfl (OpV.len_v rfl Tryd.underlying28 rfl) ?_
          | refine VO.val rfl rfl (OpV.len_row (i := 0) rfl Tryd.underlying28 rfl rfl) ?_
        refine VO.op rfl (OpE.callT' (k + 2 * q + 1) rfl rfl hB rfl Tryd.call24 rfl ((next_T (by omega))) (by omega) ?_)
        rintro _ ⟨r35, hr35, rfl⟩
        obtain ⟨m, rfl⟩ : ∃ m : Nat, r35 = m := ⟨r35.toNat, by omega⟩
        first
          | refine VO.val rfl rfl (OpV.indexAddr_E rfl Tryd.underlying28 Tryd.sizeOf60 rfl rfl rfl (by omega)) ?_
          | refine VO.val rfl rfl (OpV.indexAddr_E rfl Tryd.underlying28 Tryd.sizeOf60 rfl rfl (Int.toNat_of_nonneg (by omega)).symm (by omega)) ?_
          | refine VO.val rfl rfl (OpV.indexAddr_q rfl Tryd.underlying28 Tryd.sizeOf60 rfl rfl rfl (by omega)) ?_
          | refine VO.val rfl rfl (OpV.indexAddr_q rfl Tryd.underlying28 Tryd.sizeOf60 rfl rfl (Int.toNat_of_nonneg (by omega)).symm (by omega)) ?_
          | refine VO.val rfl rfl (OpV.indexAddr_im rfl Tryd.underlying28 Tryd.sizeOf60 rfl rfl (by omega) (by omega)) ?_
        refine VO.val rfl rfl (OpV.move (.inr rfl) rfl) ?_
        refine VO.nil ?_
        show VC _ _ _ _ _
        refine VC.draw (fun j b => (j = 18 ∧ b = g) ∨ (j = 21 ∧ b = g)) hB (by kernel_rfl) ?_
        refine VA.take (i := 0) rfl (by kernel_rfl) (by kernel_rfl) (by kernel_rfl) rfl rfl (OpV.move (.inl rfl) rfl) ?_
        refine VA.take (i := 1) rfl (by kernel_rfl) (by kernel_rfl) (by kernel_rfl) rfl rfl (OpV.move (.inl rfl) rfl) ?_
        refine VA.take (i := 2) rfl (by kernel_rfl) (by kernel_rfl) (by kernel_rfl) rfl rfl (OpV.move (.inl rfl) rfl) ?_
        refine VA.take (i := 3) rfl (by kernel_rfl) (by kernel_rfl) (by kernel_rfl) rfl rfl (OpV.move (.inl rfl) rfl) ?_
        first
          | refine VA.take (i := 4) rfl (by kernel_rfl) (by kernel_rfl) (by kernel_rfl) rfl rfl (OpV.nilCheck_at rfl rfl) ?_
          | refine VA.take (i := 4) rfl (by kernel_rfl) (by kernel_rfl) (by kernel_rfl) rfl rfl (OpV.nilCheck rfl rfl) ?_
        first
          | refine VA.take (i := 5) rfl (by kernel_rfl) (by kernel_rfl) (by kernel_rfl) rfl rfl (OpV.fieldAddr_atO 0 rfl Tryd.underlying60 rfl rfl Tryd.sizeOf9 rfl rfl) ?_
          | refine VA.take (i := 5) rfl (by kernel_rfl) (by kernel_rfl) (by kernel_rfl) rfl rfl (OpV.fieldAddrO 0 rfl Tryd.underlying60 rfl rfl Tryd.sizeOf9 rfl) ?_
        first
          | refine VA.take (i := 6) rfl (by kernel_rfl) (by kernel_rfl) (by kernel_rfl) rfl rfl (OpV.load_at rfl hB (OutW.wi (by rintro j b (⟨-, rfl⟩ | ⟨-, rfl⟩) <;> first | exact ⟨_, List.mem_of_getElem? (i := 0) rfl, rfl⟩)) Tryd.isAgg9 rfl rfl) ?_
          | refine VA.take (i := 6) rfl (by kernel_rfl) (by kernel_rfl) (by kernel_rfl) rfl rfl (OpV.load_own (i := 0) rfl hB Tryd.isAgg9 rfl rfl (rowL_at rfl (by omega) (by decide)) (by first | exact Wi.not1 (by kernel_rfl) | exact Wi.not2 (by kernel_rfl) (by kernel_rfl))) ?_
        refine VA.take (i := 9) rfl (by kernel_rfl) (by kernel_rfl) (by kernel_rfl) rfl rfl (OpV.move (.inl rfl) rfl) ?_
        refine VA.take (i := 10) rfl (by kernel_rfl) (by kernel_rfl) (by kernel_rfl) rfl rfl (OpV.move (.inl rfl) rfl) ?_
        first
          | refine VA.take (i := 11) rfl (by kernel_rfl) (by kernel_rfl) (by kernel_rfl) rfl rfl (OpV.nilCheck_at rfl rfl) ?_
          | refine VA.take (i := 11) rfl (by kernel_rfl) (by kernel_rfl) (by kernel_rfl) rfl rfl (OpV.nilCheck rfl rfl) ?_
        first
          | refine VA.take (i := 12) rfl (by kernel_rfl) (by kernel_rfl) (by kernel_rfl) rfl rfl (OpV.fieldAddr_atO 1 rfl Tryd.underlying60 rfl rfl Tryd.sizeOf3 rfl rfl) ?_
          | refine VA.take (i := 12) rfl (by kernel_rfl) (by kernel_rfl) (by kernel_rfl) rfl rfl (OpV.fieldAddrO 1 rfl Tryd.underlying60 rfl rfl Tryd.sizeOf3 rfl) ?_
        first
          | refine VA.take (i := 13) rfl (by kernel_rfl) (by kernel_rfl) (by kernel_rfl) rfl rfl (OpV.load_at rfl hB (OutW.wi (by rintro j b (⟨-, rfl⟩ | ⟨-, rfl⟩) <;> first | exact ⟨_, List.mem_of_getElem? (i := 0) rfl, rfl⟩)) Tryd.isAgg3 rfl rfl) ?_
          | refine VA.take (i := 13) rfl (by kernel_rfl) (by kernel_rfl) (by kernel_rfl) rfl rfl (OpV.load_own (i := 0) rfl hB Tryd.isAgg3 rfl rfl (rowL_at rfl (by omega) (by decide)) (by first | exact Wi.not1 (by kernel_rfl) | exact Wi.not2 (by kernel_rfl) (by kernel_rfl))) ?_
        refine VA.all (rs := [7, 14]) (by kernel_rfl) (by decide) ?_
        refine ⟨⟨_, rfl, .inl rfl, ?_⟩, ⟨_, rfl, .inl rfl, ?_⟩, trivial⟩
        ·
          refine OpE.buildSlice (zc := #[.string ⟨#[]⟩, .string ⟨#[]⟩, .string ⟨#[]⟩, .string ⟨#[]⟩]) rfl hB rfl Tryd.underlying52 Tryd.sizeOf9 Tryd.zeroValue9 (by decide) (by decide) (by kernel_rfl) rfl rfl ?_
          refine VA.all (rs := [8, 14]) (by kernel_rfl) (by decide) ?_
          refine ⟨⟨_, rfl, .inl rfl, ?_⟩, ⟨_, rfl, .inl rfl, ?_⟩, trivial⟩
          ·
            refine OpE.callT' (k + 2 * q + 1 + 1) rfl rfl hB rfl Tryd.call25 rfl (some_T 1000 (by rfl) (by decide) (by decide) (AllS.cons (hok.key m) (AllS.cons (by decide) (AllS.cons (by decide) (AllS.cons (by decide) AllS.nil))))) (by omega) ?_
            rintro _ ⟨r45, hr45, rfl⟩
            refine VA.all (rs := [14]) (by kernel_rfl) (by decide) ?_
            refine ⟨⟨_, rfl, .inl rfl, ?_⟩, trivial⟩
            refine OpE.buildSlice (zc := #[.int .i64 0, .int .i64 0, .int .i64 0, .int .i64 0]) rfl hB rfl Tryd.underlying22 Tryd.sizeOf3 Tryd.zeroValue3 (by decide) (by decide) (by kernel_rfl) rfl rfl ?_
            refine VA.all (rs := [15]) (by kernel_rfl) (by decide) ?_
            refine ⟨⟨_, rfl, .inl rfl, ?_⟩, trivial⟩
            refine OpE.callT' (k + 2 * q + 1 + 1 + 1) rfl rfl hB rfl Tryd.call22 rfl (pick_X (by rfl) (by decide) (by decide) (by repeat (first | exact AllX.nil | refine AllX.cons ?_))) (by omega) ?_
            rintro _ ⟨r52, rfl⟩
            first
              | refine VA.take (i := 16) rfl (by kernel_rfl) (by kernel_rfl) (by kernel_rfl) rfl rfl (OpV.nilCheck_at rfl rfl) ?_
              | refine VA.take (i := 16) rfl (by kernel_rfl) (by kernel_rfl) (by kernel_rfl) rfl rfl (OpV.nilCheck rfl rfl) ?_
            first
              | refine VA.take (i := 17) rfl (by kernel_rfl) (by kernel_rfl) (by kernel_rfl) rfl rfl (OpV.fieldAddr_atO 0 rfl Tryd.underlying60 rfl rfl Tryd.sizeOf9 rfl rfl) ?_
              | refine VA.take (i := 17) rfl (by kernel_rfl) (by kernel_rfl) (by kernel_rfl) rfl rfl (OpV.fieldAddrO 0 rfl Tryd.underlying60 rfl rfl Tryd.sizeOf9 rfl) ?_
            refine VA.all (rs := [18]) (by kernel_rfl) (by decide) ?_
            refine ⟨⟨_, rfl, .inl rfl, ?_⟩, trivial⟩
            refine OpE.store1 (i := 0) rfl hB rfl Tryd.sizeOf9 rfl rfl rfl rfl rfl rfl (rowL_in rfl (by omega) (by decide)) (rowL_set (x := (⟨r45, (ns.getD m default).count⟩ : NeedS)) rfl (by omega) (by decide) rfl (ne2_0 rfl)) (by first | exact ⟨rfl, rfl⟩ | exact .inl ⟨rfl, rfl⟩ | exact .inr ⟨rfl, rfl⟩) ?_
            first
              | refine VA.take (i := 19) rfl (by kernel_rfl) (by kernel_rfl) (by kernel_rfl) rfl rfl (OpV.nilCheck_at rfl rfl) ?_
              | refine VA.take (i := 19) rfl (by kernel_rfl) (by kernel_rfl) (by kernel_rfl) rfl rfl (OpV.nilCheck rfl rfl) ?_
            first
              | refine VA.take (i := 20) rfl (by kernel_rfl) (by kernel_rfl) (by kernel_rfl) rfl rfl (OpV.fieldAddr_atO 1 rfl Tryd.underlying60 rfl rfl Tryd.sizeOf3 rfl rfl) ?_
              | refine VA.take (i := 20) rfl (by kernel_rfl) (by kernel_rfl) (by kernel_rfl) rfl rfl (OpV.fieldAddrO 1 rfl Tryd.underlying60 rfl rfl Tryd.sizeOf3 rfl) ?_
            refine VA.all (rs := [21]) (by kernel_rfl) (by decide) ?_
            refine ⟨⟨_, rfl, .inl rfl, ?_⟩, trivial⟩
            refine OpE.store1 (i := 0) rfl hB rfl Tryd.sizeOf3 rfl rfl rfl rfl rfl rfl (rowL_in rfl (by rw [List.length_set]; omega) (by decide)) (rowL_set (x := (⟨r45, r52⟩ : NeedS)) rfl (by rw [List.length_set]; omega) (by decide) rfl (ne2_1 (by rw [getD_set_self (by omega)]; rfl))) (by first | exact ⟨rfl, rfl⟩ | exact .inl ⟨rfl, rfl⟩ | exact .inr ⟨rfl, rfl⟩) ?_
            refine VA.done (by kernel_rfl) ?_
            show VC _ _ _ _ _
            refine VC.seq ?_
            refine VC.region ?_
            refine VO.val rfl rfl (OpV.move (.inl rfl) rfl) ?_
            refine VO.val rfl rfl (OpV.move (.inr rfl) rfl) ?_
            refine VO.nil ?_
            show VC _ _ _ _ _
            first
              | refine VC.le _ (Le.rowT (t := 2) (i := 0) (n := ns.length) (xs := ns) hB hnew rfl rfl rfl) ?_
              | refine VC.le _ (Le.boxT (t := 2) (i := 0) (n := ns.length) hB hnew rfl rfl (by simp) hcap hmx) ?_
            refine VC.ret ?_
            exact Exists.intro _ (And.intro (RetV.one Tryd.results5 (ResV.tmp rfl)) (And.intro (by first | exact ⟨_, ⟨hok.small, hok.1⟩, rfl⟩ | exact ⟨_, ⟨((hok.set m (x := ⟨r45, (ns.getD m default).count⟩) hr45).set m (x := ⟨r45, r52⟩) hr45).small, ((hok.set m (x := ⟨r45, (ns.getD m default).count⟩) hr45).set m (x := ⟨r45, r52⟩) hr45).1⟩, rfl⟩) ((show k + 2 * q + 1 + 1 + 1 + 1 ≤ k + 20 by omega))))
          ·
            refine OpE.buildSlice (zc := #[.int .i64 0, .int .i64 0, .int .i64 0, .int .i64 0]) rfl hB rfl Tryd.underlying22 Tryd.sizeOf3 Tryd.zeroValue3 (by decide) (by decide) (by kernel_rfl) rfl rfl ?_
            refine VA.all (rs := [8]) (by kernel_rfl) (by decide) ?_
            refine ⟨⟨_, rfl, .inl rfl, ?_⟩, trivial⟩
            refine OpE.callT' (k + 2 * q + 1 + 1) rfl rfl hB rfl Tryd.call25 rfl (some_T 1000 (by rfl) (by decide) (by decide) (AllS.cons (hok.key m) (AllS.cons (by decide) (AllS.cons (by decide) (AllS.cons (by decide) AllS.nil))))) (by omega) ?_
            rintro _ ⟨r45, hr45, rfl⟩
            refine VA.all (rs := [15]) (by kernel_rfl) (by decide) ?_
            refine ⟨⟨_, rfl, .inl rfl, ?_⟩, trivial⟩
            refine OpE.callT' (k + 2 * q + 1 + 1 + 1) rfl rfl hB rfl Tryd.call22 rfl (pick_X (by rfl) (by decide) (by decide) (by repeat (first | exact AllX.nil | refine AllX.cons ?_))) (by omega) ?_
            rintro _ ⟨r52, rfl⟩
            first
              | refine VA.take (i := 16) rfl (by kernel_rfl) (by kernel_rfl) (by kernel_rfl) rfl rfl (OpV.nilCheck_at rfl rfl) ?_
              | refine VA.take (i := 16) rfl (by kernel_rfl) (by kernel_rfl) (by kernel_rfl) rfl rfl (OpV.nilCheck rfl rfl) ?_
            first
              | refine VA.take (i := 17) rfl (by kernel_rfl) (by kernel_rfl) (by kernel_rfl) rfl rfl (OpV.fieldAddr_atO 0 rfl Tryd.underlying60 rfl rfl Tryd.sizeOf9 rfl rfl) ?_
              | refine VA.take (i := 17) rfl (by kernel_rfl) (by kernel_rfl) (by kernel_rfl) rfl rfl (OpV.fieldAddrO 0 rfl Tryd.underlying60 rfl rfl Tryd.sizeOf9 rfl) ?_
            refine VA.all (rs := [18]) (by kernel_rfl) (by decide) ?_
            refine ⟨⟨_, rfl, .inl rfl, ?_⟩, trivial⟩
            refine OpE.store1 (i := 0) rfl hB rfl Tryd.sizeOf9 rfl rfl rfl rfl rfl rfl (rowL_in rfl (by omega) (by decide)) (rowL_set (x := (⟨r45, (ns.getD m default).count⟩ : NeedS)) rfl (by omega) (by decide) rfl (ne2_0 rfl)) (by first | exact ⟨rfl, rfl⟩ | exact .inl ⟨rfl, rfl⟩ | exact .inr ⟨rfl, rfl⟩) ?_
            first
              | refine VA.take (i := 19) rfl (by kernel_rfl) (by kernel_rfl) (by kernel_rfl) rfl rfl (OpV.nilCheck_at rfl rfl) ?_
              | refine VA.take (i := 19) rfl (by kernel_rfl) (by kernel_rfl) (by kernel_rfl) rfl rfl (OpV.nilCheck rfl rfl) ?_
            first
              | refine VA.take (i := 20) rfl (by kernel_rfl) (by kernel_rfl) (by kernel_rfl) rfl rfl (OpV.fieldAddr_atO 1 rfl Tryd.underlying60 rfl rfl Tryd.sizeOf3 rfl rfl) ?_
              | refine VA.take (i := 20) rfl (by kernel_rfl) (by kernel_rfl) (by kernel_rfl) rfl rfl (OpV.fieldAddrO 1 rfl Tryd.underlying60 rfl rfl Tryd.sizeOf3 rfl) ?_
            refine VA.all (rs := [21]) (by kernel_rfl) (by decide) ?_
            refine ⟨⟨_, rfl, .inl rfl, ?_⟩, trivial⟩
            refine OpE.store1 (i := 0) rfl hB rfl Tryd.sizeOf3 rfl rfl rfl rfl rfl rfl (rowL_in rfl (by rw [List.length_set]; omega) (by decide)) (rowL_set (x := (⟨r45, r52⟩ : NeedS)) rfl (by rw [List.length_set]; omega) (by decide) rfl (ne2_1 (by rw [getD_set_self (by omega)]; rfl))) (by first | exact ⟨rfl, rfl⟩ | exact .inl ⟨rfl, rfl⟩ | exact .inr ⟨rfl, rfl⟩) ?_
            refine VA.done (by kernel_rfl) ?_
            show VC _ _ _ _ _
            refine VC.seq ?_
            refine VC.region ?_
            refine VO.val rfl rfl (OpV.move (.inl rfl) rfl) ?_
            refine VO.val rfl rfl (OpV.move (.inr rfl) rfl) ?_
            refine VO.nil ?_
            show VC _ _ _ _ _
            first
              | refine VC.le _ (Le.rowT (t := 2) (i := 0) (n := ns.length) (xs := ns) hB hnew rfl rfl rfl) ?_
              | refine VC.le _ (Le.boxT (t := 2) (i := 0) (n := ns.length) hB hnew rfl rfl (by simp) hcap hmx) ?_
            refine VC.ret ?_
            exact Exists.intro _ (And.intro (RetV.one Tryd.results5 (ResV.tmp rfl)) (And.intro (by first | exact ⟨_, ⟨hok.small, hok.1⟩, rfl⟩ | exact ⟨_, ⟨((hok.set m (x := ⟨r45, (ns.getD m default).count⟩) hr45).set m (x := ⟨r45, r52⟩) hr45).small, ((hok.set m (x := ⟨r45, (ns.getD m default).count⟩) hr45).set m (x := ⟨r45, r52⟩) hr45).1⟩, rfl⟩) ((show k + 2 * q + 1 + 1 + 1 + 1 ≤ k + 20 by omega))))
        ·
          refine OpE.buildSlice (zc := #[.int .i64 0, .int .i64 0, .int .i64 0, .int .i64 0]) rfl hB rfl Tryd.underlying22 Tryd.sizeOf3 Tryd.zeroValue3 (by decide) (by decide) (by kernel_rfl) rfl rfl ?_
          refine VA.all (rs := [7]) (by kernel_rfl) (by decide) ?_
          refine ⟨⟨_, rfl, .inl rfl, ?_⟩, trivial⟩
          refine OpE.buildSlice (zc := #[.string ⟨#[]⟩, .string ⟨#[]⟩, .string ⟨#[]⟩, .string ⟨#[]⟩]) rfl hB rfl Tryd.underlying52 Tryd.sizeOf9 Tryd.zeroValue9 (by decide) (by decide) (by kernel_rfl) rfl rfl ?_
          refine VA.all (rs := [8]) (by kernel_rfl) (by decide) ?_
          refine ⟨⟨_, rfl, .inl rfl, ?_⟩, trivial⟩
          refine OpE.callT' (k + 2 * q + 1 + 1) rfl rfl hB rfl Tryd.call25 rfl (some_T 1000 (by rfl) (by decide) (by decide) (AllS.cons (hok.key m) (AllS.cons (by decide) (AllS.cons (by decide) (AllS.cons (by decide) AllS.nil))))) (by omega) ?_
          rintro _ ⟨r45, hr45, rfl⟩
          refine VA.all (rs := [15]) (by kernel_rfl) (by decide) ?_
          refine ⟨⟨_, rfl, .inl rfl, ?_⟩, trivial⟩
          refine OpE.callT' (k + 2 * q + 1 + 1 + 1) rfl rfl hB rfl Tryd.call22 rfl (pick_X (by rfl) (by decide) (by decide) (by repeat (first | exact AllX.nil | refine AllX.cons ?_))) (by omega) ?_
          rintro _ ⟨r52, rfl⟩
          first
            | refine VA.take (i := 16) rfl (by kernel_rfl) (by kernel_rfl) (by kernel_rfl) rfl rfl (OpV.nilCheck_at rfl rfl) ?_
            | refine VA.take (i := 16) rfl (by kernel_rfl) (by kernel_rfl) (by kernel_rfl) rfl rfl (OpV.nilCheck rfl rfl) ?_
          first
            | refine VA.take (i := 17) rfl (by kernel_rfl) (by kernel_rfl) (by kernel_rfl) rfl rfl (OpV.fieldAddr_atO 0 rfl Tryd.underlying60 rfl rfl Tryd.sizeOf9 rfl rfl) ?_
            | refine VA.take (i := 17) rfl (by kernel_rfl) (by kernel_rfl) (by kernel_rfl) rfl rfl (OpV.fieldAddrO 0 rfl Tryd.underlying60 rfl rfl Tryd.sizeOf9 rfl) ?_
          refine VA.all (rs := [18]) (by kernel_rfl) (by decide) ?_
          refine ⟨⟨_, rfl, .inl rfl, ?_⟩, trivial⟩
          refine OpE.store1 (i := 0) rfl hB rfl Tryd.sizeOf9 rfl rfl rfl rfl rfl rfl (rowL_in rfl (by omega) (by decide)) (rowL_set (x := (⟨r45, (ns.getD m default).count⟩ : NeedS)) rfl (by omega) (by decide) rfl (ne2_0 rfl)) (by first | exact ⟨rfl, rfl⟩ | exact .inl ⟨rfl, rfl⟩ | exact .inr ⟨rfl, rfl⟩) ?_
          first
            | refine VA.take (i := 19) rfl (by kernel_rfl) (by kernel_rfl) (by kernel_rfl) rfl rfl (OpV.nilCheck_at rfl rfl) ?_
            | refine VA.take (i := 19) rfl (by kernel_rfl) (by kernel_rfl) (by kernel_rfl) rfl rfl (OpV.nilCheck rfl rfl) ?_
          first
            | refine VA.take (i := 20) rfl (by kernel_rfl) (by kernel_rfl) (by kernel_rfl) rfl rfl (OpV.fieldAddr_atO 1 rfl Tryd.underlying60 rfl rfl Tryd.sizeOf3 rfl rfl) ?_
            | refine VA.take (i := 20) rfl (by kernel_rfl) (by kernel_rfl) (by kernel_rfl) rfl rfl (OpV.fieldAddrO 1 rfl Tryd.underlying60 rfl rfl Tryd.sizeOf3 rfl) ?_
          refine VA.all (rs := [21]) (by kernel_rfl) (by decide) ?_
          refine ⟨⟨_, rfl, .inl rfl, ?_⟩, trivial⟩
          refine OpE.store1 (i := 0) rfl hB rfl Tryd.sizeOf3 rfl rfl rfl rfl rfl rfl (rowL_in rfl (by rw [List.length_set]; omega) (by decide)) (rowL_set (x := (⟨r45, r52⟩ : NeedS)) rfl (by rw [List.length_set]; omega) (by decide) rfl (ne2_1 (by rw [getD_set_self (by omega)]; rfl))) (by first | exact ⟨rfl, rfl⟩ | exact .inl ⟨rfl, rfl⟩ | exact .inr ⟨rfl, rfl⟩) ?_
          refine VA.done (by kernel_rfl) ?_
          show VC _ _ _ _ _
          refine VC.seq ?_
          refine VC.region ?_
          refine VO.val rfl rfl (OpV.move (.inl rfl) rfl) ?_
          refine VO.val rfl rfl (OpV.move (.inr rfl) rfl) ?_
          refine VO.nil ?_
          show VC _ _ _ _ _
          first
            | refine VC.le _ (Le.rowT (t := 2) (i := 0) (n := ns.length) (xs := ns) hB hnew rfl rfl rfl) ?_
            | refine VC.le _ (Le.boxT (t := 2) (i := 0) (n := ns.length) hB hnew rfl rfl (by simp) hcap hmx) ?_
          refine VC.ret ?_
          exact Exists.intro _ (And.intro (RetV.one Tryd.results5 (ResV.tmp rfl)) (And.intro (by first | exact ⟨_, ⟨hok.small, hok.1⟩, rfl⟩ | exact ⟨_, ⟨((hok.set m (x := ⟨r45, (ns.getD m default).count⟩) hr45).set m (x := ⟨r45, r52⟩) hr45).small, ((hok.set m (x := ⟨r45, (ns.getD m default).count⟩) hr45).set m (x := ⟨r45, r52⟩) hr45).1⟩, rfl⟩) ((show k + 2 * q + 1 + 1 + 1 + 1 ≤ k + 20 by omega))))
      · have aH4 := aH4b
        try simp only [decide_eq_true_eq, decide_eq_false_iff_not, Bool.not_eq_true', Bool.not_eq_false', Int.not_lt, Int.not_le] at aH4
        refine VC.skip ?_
        show VC _ _ _ _ _
        refine VC.seq ?_
        refine VC.region ?_
        refine VO.val rfl rfl (OpV.move (.inl rfl) rfl) ?_
        refine VO.val rfl rfl (OpV.move (.inr rfl) rfl) ?_
        refine VO.nil ?_
        show VC _ _ _ _ _
        first
          | refine VC.le _ (Le.rowT (t := 2) (i := 0) (n := ns.length) (xs := ns) hB hnew rfl rfl rfl) ?_
          | refine VC.le _ (Le.boxT (t := 2) (i := 0) (n := ns.length) hB hnew rfl rfl (by simp) hcap hmx) ?_
        refine VC.ret ?_
        exact Exists.intro _ (And.intro (RetV.one Tryd.results5 (ResV.tmp rfl)) (And.intro (by first | exact ⟨_, ⟨hok.small, hok.1⟩, rfl⟩ | exact ⟨_, ⟨((hok.set m (x := ⟨r45, (ns.getD m default).count⟩) hr45).set m (x := ⟨r45, r52⟩) hr45).small, ((hok.set m (x := ⟨r45, (ns.getD m default).count⟩) hr45).set m (x := ⟨r45, r52⟩) hr45).1⟩, rfl⟩) ((show k + 2 * q + 1 ≤ k + 20 by omega))))
    · replace aK3b : _ = false := aK3b
      have aK3 := aK3b
      try simp only [decide_eq_true_eq, decide_eq_false_iff_not, Bool.not_eq_true', Bool.not_eq_false', Int.not_lt, Int.not_le] at aK3
      refine VO.opX rfl rfl rfl rfl aK3b ?_
      refine VO.val rfl rfl (OpV.pickF rfl rfl rfl rfl aK3b) ?_
      refine VO.nil ?_
      show VC _ _ _ _ _
      refine VC.condF rfl rfl ?_
      refine VC.skip ?_
      show VC _ _ _ _ _
      refine VC.seq ?_
      refine VC.region ?_
      refine VO.val rfl rfl (OpV.move (.inl rfl) rfl) ?_
      refine VO.val rfl rfl (OpV.move (.inr rfl) rfl) ?_
      refine VO.nil ?_
      show VC _ _ _ _ _
      first
        | refine VC.le _ (Le.rowT (t := 2) (i := 0) (n := ns.length) (xs := ns) hB hnew rfl rfl rfl) ?_
        | refine VC.le _ (Le.boxT (t := 2) (i := 0) (n := ns.length) hB hnew rfl rfl (by simp) hcap hmx) ?_
      refine VC.ret ?_
      exact Exists.intro _ (And.intro (RetV.one Tryd.results5 (ResV.tmp rfl)) (And.intro (by first | exact ⟨_, ⟨hok.small, hok.1⟩, rfl⟩ | exact ⟨_, ⟨((hok.set m (x := ⟨r45, (ns.getD m default).count⟩) hr45).set m (x := ⟨r45, r52⟩) hr45).small, ((hok.set m (x := ⟨r45, (ns.getD m default).count⟩) hr45).set m (x := ⟨r45, r52⟩) hr45).1⟩, rfl⟩) ((show k + 2 * q ≤ k + 20 by omega))))
set_option maxRecDepth 100000 in
theorem linePlan_T {p : Nat} {L : List Int} {ms : List Mach} {ns : List NeedS} (hm : SmallM ms) (h0 : 0 < ms.length) (hm6 : ms.length ≤ 100) (hn : ns.length ≤ 100000) :
    SpecT Tryd.prog (TT p L) (fun b => b = p) 6 [sp p, avL ms, avL ns] 100020 (fun y => ∃ plan : List Int, plan.length ≤ 1000000 ∧ y = avInts plan) := by
  refine SpecT.of_VC Tryd.func6 rfl Tryd.ntmps6 (Nat.le_of_ble_eq_true rfl) (low := (fun b => b ≤ p)) (fun w A k h => h.ok) fun w A k hk hB => ?_
  have hnew : ∀ b, (B1 w A 61 (fun b => b = p) (fun b => b ≤ p) (TT p L)).S b → (B1 w A 61 (fun b => b = p) (fun b => b ≤ p) (TT p L)).str b := fun _ h => h
  refine VC.seq ?_
  refine VC.region ?_
  refine VO.val rfl rfl (OpV.move (.inr rfl) rfl) ?_
  refine VO.nil ?_
  show VC _ _ _ _ _
  refine VC.seq ?_
  refine VC.region ?_
  refine VO.val rfl rfl (OpV.move (.inr rfl) rfl) ?_
  refine VO.nil ?_
  show VC _ _ _ _ _
  refine VC.seq ?_
  refine VC.seq ?_
  refine VC.region ?_
  refine VO.val rfl rfl (OpV.move (.inl rfl) rfl) ?_
  first
    | refine VO.val rfl rfl (OpV.len_im rfl Tryd.underlying28 rfl) ?_
    | refine VO.val rfl rfl (OpV.len_v rfl Tryd.underlying28 rfl) ?_
  refine VO.val rfl rfl (OpV.move (.inl rfl) rfl) ?_
  refine VO.nil ?_
  show VC _ _ _ _ _
  refine VC.block ?_
  refine VC.le _ (Le.nilRow 1 3) ?_
  refine VC.loop' ({t : Value × List Int × Nat // t.2.2 ≤ ns.length ∧ t.2.1.length = t.2.2}) (fun (i : {t : Value × List Int × Nat // t.2.2 ≤ ns.length ∧ t.2.1.length = t.2.2}) => match i with | ⟨⟨u, xs, q⟩, hq, hl⟩ => ⟨[(0, sp p), (1, avL ms), (7, .v u), (13, avL ns), (14, avI ns.length), (15, avI (q : Int))], [.row u xs.length 1 (intsL xs) 3], k + q⟩) (fun (i : {t : Value × List Int × Nat // t.2.2 ≤ ns.length ∧ t.2.1.length = t.2.2}) => match i with | ⟨⟨u, xs, q⟩, hq, hl⟩ => ns.length - q) ⟨(.slice none 0 0, [], 0), Nat.zero_le _, rfl⟩ (Le.mk hB [0] ⟨rfl, rfl, rfl, rfl, rfl, rfl, trivial⟩ rfl rfl (show k ≤ k + 0 by omega)) ?_
  rintro ⟨⟨u, xs, q⟩, hq, hl⟩
  show VC _ _ _ _ ⟨[(0, sp p), (1, avL ms), (7, .v u), (13, avL ns), (14, avI ns.length), (15, avI (q : Int))], [.row u xs.length 1 (intsL xs) 3], k + q⟩
  simp only at hq hl
  refine VC.seq ?_
  refine VC.region ?_
  refine VO.val rfl rfl (OpV.lss rfl rfl rfl) ?_
  refine VO.nil ?_
  show VC _ _ _ _ _
  refine VC.seq ?_
  refine VC.cond rfl (fun aH1b => ?_) (fun aH1b => ?_)
  · have aH1 := aH1b
    try simp only [decide_eq_true_eq, decide_eq_false_iff_not, Bool.not_eq_true', Bool.not_eq_false', Int.not_lt, Int.not_le] at aH1
    refine VC.skip ?_
    show VC _ _ _ _ _
    refine VC.seq ?_
    refine VC.block ?_
    refine VC.seq ?_
    refine VC.region ?_
    first
      | refine VO.val rfl rfl (OpV.indexAddr_E rfl Tryd.underlying28 Tryd.sizeOf60 rfl rfl rfl (by omega)) ?_
      | refine VO.val rfl rfl (OpV.indexAddr_E rfl Tryd.underlying28 Tryd.sizeOf60 rfl rfl (Int.toNat_of_nonneg (by omega)).symm (by omega)) ?_
      | refine VO.val rfl rfl (OpV.indexAddr_q rfl Tryd.underlying28 Tryd.sizeOf60 rfl rfl rfl (by omega)) ?_
      | refine VO.val rfl rfl (OpV.indexAddr_q rfl Tryd.underlying28 Tryd.sizeOf60 rfl rfl (Int.toNat_of_nonneg (by omega)).symm (by omega)) ?_
      | refine VO.val rfl rfl (OpV.indexAddr_im rfl Tryd.underlying28 Tryd.sizeOf60 rfl rfl (by omega) (by omega)) ?_
    first
      | refine VO.val rfl rfl (OpV.loadK_at rfl hB OutW.no Tryd.isAgg60 Tryd.sizeOf60 rfl rfl) ?_
      | refine VO.val rfl rfl (OpV.loadK_own (i := 0) rfl hB Tryd.isAgg60 Tryd.sizeOf60 rfl rfl rfl (fun h => h)) ?_
    refine VO.op rfl (OpE.alloc rfl hB rfl Tryd.zeroValue60 rfl ?_)
    intro g9
    first
      | refine VO.op rfl (OpE.store (i := 0) rfl hB rfl Tryd.sizeOf60 rfl rfl rfl rfl rfl rfl (Nat.le_of_ble_eq_true rfl) trivial ?_)
      | refine VO.op rfl (OpE.store (i := 1) rfl hB rfl Tryd.sizeOf60 rfl rfl rfl rfl rfl rfl (Nat.le_of_ble_eq_true rfl) trivial ?_)
    refine VO.nil ?_
    show VC _ _ _ _ _
    refine VC.seq ?_
    refine VC.region ?_
    refine VO.val rfl rfl (OpV.move (.inl rfl) rfl) ?_
    refine VO.val rfl rfl (OpV.move (.inl rfl) rfl) ?_
    first
      | refine VO.val rfl rfl (OpV.len_im rfl Tryd.underlying26 rfl) ?_
      | refine VO.val rfl rfl (OpV.len_v rfl Tryd.underlying26 rfl) ?_
      | refine VO.val rfl rfl (OpV.len_row (i := 0) rfl Tryd.underlying26 rfl rfl) ?_
      | refine VO.val rfl rfl (OpV.len_row (i := 1) rfl Tryd.underlying26 rfl rfl) ?_
    refine VO.val rfl rfl (OpV.max2 rfl rfl rfl) ?_
    refine VO.op rfl (OpE.callT' (k + q) rfl rfl hB rfl Tryd.call24 rfl ((next_T (by omega))) (by omega) ?_)
    rintro _ ⟨r23, hr23, rfl⟩
    obtain ⟨d, rfl⟩ : ∃ m : Nat, r23 = m := ⟨r23.toNat, by omega⟩
    have hd : d < ms.length := by omega
    refine VO.val rfl rfl (OpV.move (.inr rfl) rfl) ?_
    refine VO.nil ?_
    show VC _ _ _ _ _
    refine VC.seq ?_
    refine VC.seq ?_
    refine VC.region ?_
    refine VO.val rfl rfl (OpV.move (.inl rfl) rfl) ?_
    first
      | refine VO.val rfl rfl (OpV.len_im rfl Tryd.underlying26 rfl) ?_
      | refine VO.val rfl rfl (OpV.len_v rfl Tryd.underlying26 rfl) ?_
      | refine VO.val rfl rfl (OpV.len_row (i := 0) rfl Tryd.underlying26 rfl rfl) ?_
      | refine VO.val rfl rfl (OpV.len_row (i := 1) rfl Tryd.underlying26 rfl rfl) ?_
    refine VO.val rfl rfl (OpV.move (.inl rfl) rfl) ?_
    refine VO.nil ?_
    show VC _ _ _ _ _
    refine VC.block ?_
    refine VC.loop' ({t : Nat × Nat // t.1 ≤ ms.length ∧ t.2 < ms.length}) (fun (i : {t : Nat × Nat // t.1 ≤ ms.length ∧ t.2 < ms.length}) => match i with | ⟨⟨r, c⟩, hr, hc⟩ => ⟨[(0, sp p), (1, avL ms), (7, .v u), (9, .v (.pointer (some ⟨g9, 0, none⟩))), (10, avI (c : Int)), (13, avL ns), (14, avI ns.length), (15, avI (q : Int)), (25, avI ms.length), (26, avI (r : Int))], [.row u xs.length 1 (intsL xs) 3, .box g9 ⟨tab 2 (Sxc.cell (ns.getD q default)), 60, 2⟩], k + q + 1⟩) (fun (i : {t : Nat × Nat // t.1 ≤ ms.length ∧ t.2 < ms.length}) => match i with | ⟨⟨r, c⟩, hr, hc⟩ => ms.length - r) ⟨(0, d), Nat.zero_le _, hd⟩ (Le.mk hB [0, 1] ⟨rfl, rfl, rfl, rfl, rfl, rfl, rfl, rfl, rfl, rfl, trivial⟩ rfl rfl (show k + q + 1 ≤ k + q + 1 by omega)) ?_
    rintro ⟨⟨r, c⟩, hr, hc⟩
    show VC _ _ _ _ ⟨[(0, sp p), (1, avL ms), (7, .v u), (9, .v (.pointer (some ⟨g9, 0, none⟩))), (10, avI (c : Int)), (13, avL ns), (14, avI ns.length), (15, avI (q : Int)), (25, avI ms.length), (26, avI (r : Int))], [.row u xs.length 1 (intsL xs) 3, .box g9 ⟨tab 2 (Sxc.cell (ns.getD q default)), 60, 2⟩], k + q + 1⟩
    simp only at hr hc
    refine VC.seq ?_
    refine VC.region ?_
    refine VO.val rfl rfl (OpV.lss rfl rfl rfl) ?_
    refine VO.nil ?_
    show VC _ _ _ _ _
    refine VC.seq ?_
    refine VC.cond rfl (fun aH2b => ?_) (fun aH2b => ?_)
    · have aH2 := aH2b
      try simp only [decide_eq_true_eq, decide_eq_false_iff_not, Bool.not_eq_true', Bool.not_eq_false', Int.not_lt, Int.not_le] at aH2
      refine VC.skip ?_
      show VC _ _ _ _ _
      refine VC.seq ?_
      refine VC.block ?_
      refine VC.seq ?_
      refine VC.region ?_
      refine VO.val rfl rfl (OpV.move (.inl rfl) rfl) ?_
      refine VO.val rfl rfl (OpV.move (.inr rfl) rfl) ?_
      refine VO.nil ?_
      show VC _ _ _ _ _
      refine VC.seq ?_
      refine VC.region ?_
      refine VO.val rfl rfl (OpV.move (.inl rfl) rfl) ?_
      refine VO.val rfl rfl (OpV.move (.inl rfl) rfl) ?_
      refine VO.val rfl rfl (OpV.add rfl rfl rfl (by unfold fits; omega)) ?_
      refine VO.val rfl rfl (OpV.move (.inl rfl) rfl) ?_
      first
        | refine VO.val rfl rfl (OpV.len_im rfl Tryd.underlying26 rfl) ?_
        | refine VO.val rfl rfl (OpV.len_v rfl Tryd.underlying26 rfl) ?_
        | refine VO.val rfl rfl (OpV.len_row (i := 0) rfl Tryd.underlying26 rfl rfl) ?_
        | refine VO.val rfl rfl (OpV.len_row (i := 1) rfl Tryd.underlying26 rfl rfl) ?_
      refine VO.val rfl rfl (OpV.rem rfl rfl rfl (by omega) ((by have := Int.tmod_eq_emod_of_nonneg (a := (c : Int) + r) (b := (ms.length : Int)) (by omega); rw [this]; have h1 := Int.emod_lt_of_pos ((c : Int) + r) (b := (ms.length : Int)) (by omega); have h2 := Int.emod_nonneg ((c : Int) + r) (b := (ms.length : Int)) (by omega); unfold fits; omega))) ?_
      refine VO.val rfl rfl (OpV.move (.inr rfl) rfl) ?_
      refine VO.nil ?_
      show VC _ _ _ _ _
      refine VC.seq ?_
      refine VC.draw (fun _ => NoB) hB (by kernel_rfl) ?_
      refine VA.take (i := 0) rfl (by kernel_rfl) (by kernel_rfl) (by kernel_rfl) rfl rfl (OpV.move (.inl rfl) rfl) ?_
      refine VA.take (i := 1) rfl (by kernel_rfl) (by kernel_rfl) (by kernel_rfl) rfl rfl (OpV.move (.inl rfl) rfl) ?_
      first
        | refine VA.take (i := 2) rfl (by kernel_rfl) (by kernel_rfl) (by kernel_rfl) rfl rfl (OpV.indexAddr_E rfl Tryd.underlying26 Tryd.sizeOf54 rfl rfl (rfl : ((c : Int) + r).tmod ms.length = (((c + r) % ms.length : Nat) : Int)) (Nat.mod_lt _ h0)) ?_
        | refine VA.take (i := 2) rfl (by kernel_rfl) (by kernel_rfl) (by kernel_rfl) rfl rfl (OpV.indexAddr_q rfl Tryd.underlying26 Tryd.sizeOf54 rfl rfl (rfl : ((c : Int) + r).tmod ms.length = (((c + r) % ms.length : Nat) : Int)) (Nat.mod_lt _ h0)) ?_
        | refine VA.take (i := 2) rfl (by kernel_rfl) (by kernel_rfl) (by kernel_rfl) rfl rfl (OpV.indexAddr_im rfl Tryd.underlying26 Tryd.sizeOf54 rfl rfl (by omega) (Nat.mod_lt _ h0)) ?_
      first
        | refine VA.take (i := 3) rfl (by kernel_rfl) (by kernel_rfl) (by kernel_rfl) rfl rfl (OpV.fieldAddr_atO 4 rfl Tryd.underlying54 rfl rfl Tryd.sizeOf52 rfl rfl) ?_
        | refine VA.take (i := 3) rfl (by kernel_rfl) (by kernel_rfl) (by kernel_rfl) rfl rfl (OpV.fieldAddrO 4 rfl Tryd.underlying54 rfl rfl Tryd.sizeOf52 rfl) ?_
      first
        | refine VA.take (i := 4) rfl (by kernel_rfl) (by kernel_rfl) (by kernel_rfl) rfl rfl (OpV.load_at rfl hB OutW.wi0 Tryd.isAgg52 rfl rfl) ?_
        | refine VA.take (i := 4) rfl (by kernel_rfl) (by kernel_rfl) (by kernel_rfl) rfl rfl (OpV.load_own (i := 0) rfl hB Tryd.isAgg52 rfl rfl rfl Wi.not0) ?_
        | refine VA.take (i := 4) rfl (by kernel_rfl) (by kernel_rfl) (by kernel_rfl) rfl rfl (OpV.load_own (i := 1) rfl hB Tryd.isAgg52 rfl rfl rfl Wi.not0) ?_
      first
        | refine VA.take (i := 5) rfl (by kernel_rfl) (by kernel_rfl) (by kernel_rfl) rfl rfl (OpV.fieldAddr_atO 0 rfl Tryd.underlying60 rfl rfl Tryd.sizeOf9 rfl rfl) ?_
        | refine VA.take (i := 5) rfl (by kernel_rfl) (by kernel_rfl) (by kernel_rfl) rfl rfl (OpV.fieldAddrO 0 rfl Tryd.underlying60 rfl rfl Tryd.sizeOf9 rfl) ?_
      first
        | refine VA.take (i := 6) rfl (by kernel_rfl) (by kernel_rfl) (by kernel_rfl) rfl rfl (OpV.load_at rfl hB OutW.wi0 Tryd.isAgg9 rfl rfl) ?_
        | refine VA.take (i := 6) rfl (by kernel_rfl) (by kernel_rfl) (by kernel_rfl) rfl rfl (OpV.load_own (i := 0) rfl hB Tryd.isAgg9 rfl rfl rfl Wi.not0) ?_
        | refine VA.take (i := 6) rfl (by kernel_rfl) (by kernel_rfl) (by kernel_rfl) rfl rfl (OpV.load_own (i := 1) rfl hB Tryd.isAgg9 rfl rfl rfl Wi.not0) ?_
      refine VA.all (rs := [7]) (by kernel_rfl) (by decide) ?_
      refine ⟨⟨_, rfl, .inl rfl, ?_⟩, trivial⟩
      refine OpE.call rfl hB rfl Tryd.call26 rfl (SpecN.spec (slices_Contains_str (hm.c _))) ?_
      rintro _ rfl
      refine VA.done (by kernel_rfl) ?_
      show VC _ _ _ _ _
      refine VC.cond rfl (fun aH3b => ?_) (fun aH3b => ?_)
      · have aH3 := aH3b
        try simp only [decide_eq_true_eq, decide_eq_false_iff_not, Bool.not_eq_true', Bool.not_eq_false', Int.not_lt, Int.not_le] at aH3
        refine VC.seq ?_
        refine VC.region ?_
        refine VO.val rfl rfl (OpV.move (.inl rfl) rfl) ?_
        refine VO.val rfl rfl (OpV.move (.inr rfl) rfl) ?_
        refine VO.nil ?_
        show VC _ _ _ _ _
        refine VC.exit ?_
        show VC _ _ _ _ _
        refine VC.region ?_
        refine VO.val rfl rfl (OpV.move (.inl rfl) rfl) ?_
        refine VO.val rfl rfl (OpV.move (.inl rfl) rfl) ?_
        refine VO.op rfl (OpE.buildSlice (zc := #[.int .i64 0]) rfl hB rfl Tryd.underlying22 Tryd.sizeOf3 Tryd.zeroValue3 (by decide) (by decide) (by kernel_rfl) rfl rfl ?_)
        first
          | refine VO.op rfl (OpE.append1 (i := 0) rfl hB rfl Tryd.underlying22 (infoOf Tryd.t3 1 (by kernel_rfl) rfl rfl) rfl (by decide) (by decide) rfl rfl rfl rfl (intsL_snoc _ _) (by omega) (fun _ _ => trivial) ?_)
          | refine VO.op rfl (OpE.append1 (i := 1) rfl hB rfl Tryd.underlying22 (infoOf Tryd.t3 1 (by kernel_rfl) rfl rfl) rfl (by decide) (by decide) rfl rfl rfl rfl (intsL_snoc _ _) (by omega) (fun _ _ => trivial) ?_)
        intro u2
        refine VO.val rfl rfl (OpV.move (.inr rfl) rfl) ?_
        refine VO.nil ?_
        show VC _ _ _ _ _
        refine VC.region ?_
        refine VO.val rfl rfl (OpV.add rfl rfl rfl (by unfold fits; omega)) ?_
        refine VO.val rfl rfl (OpV.move (.inl rfl) rfl) ?_
        refine VO.nil ?_
        first
          | exact Exists.intro (⟨(u2, xs ++ [(c : Int)], q + 1), by show q + 1 ≤ ns.length; omega, by show (xs ++ [_]).length = q + 1; simp; omega⟩) (And.intro (Le.mk hB [0] ⟨rfl, rfl, rfl, rfl, rfl, rfl, trivial⟩ rfl (by first | rfl | (rw [List.length_append]; rfl)) (show k + q + 1 ≤ k + (q + 1) by omega)) (by first | omega | (show _ < _; omega) | (simp only []; omega)))
          | exact Exists.intro (⟨(u2, xs ++ [((c : Int) + r).tmod ms.length], q + 1), by show q + 1 ≤ ns.length; omega, by show (xs ++ [_]).length = q + 1; simp; omega⟩) (And.intro (Le.mk hB [0] ⟨rfl, rfl, rfl, rfl, rfl, rfl, trivial⟩ rfl (by first | rfl | (rw [List.length_append]; rfl)) (show k + q + 1 ≤ k + (q + 1) by omega)) (by first | omega | (show _ < _; omega) | (simp only []; omega)))
      · have aH3 := aH3b
        try simp only [decide_eq_true_eq, decide_eq_false_iff_not, Bool.not_eq_true', Bool.not_eq_false', Int.not_lt, Int.not_le] at aH3
        refine VC.skip ?_
        show VC _ _ _ _ _
        refine VC.region ?_
        refine VO.val rfl rfl (OpV.add rfl rfl rfl (by unfold fits; omega)) ?_
        refine VO.val rfl rfl (OpV.move (.inl rfl) rfl) ?_
        refine VO.nil ?_
        exact Exists.intro (⟨(r + 1, c), by show r + 1 ≤ ms.length; omega, hc⟩) (And.intro (Le.mk hB [0, 1] ⟨rfl, rfl, rfl, rfl, rfl, rfl, rfl, rfl, rfl, rfl, trivial⟩ rfl rfl (show k + q + 1 ≤ k + q + 1 by omega)) (by first | omega | (show _ < _; omega) | (simp only []; omega)))
    · have aH2 := aH2b
      try simp only [decide_eq_true_eq, decide_eq_false_iff_not, Bool.not_eq_true', Bool.not_eq_false', Int.not_lt, Int.not_le] at aH2
      refine VC.exit ?_
      show VC _ _ _ _ _
      refine VC.region ?_
      refine VO.val rfl rfl (OpV.move (.inl rfl) rfl) ?_
      refine VO.val rfl rfl (OpV.move (.inl rfl) rfl) ?_
      refine VO.op rfl (OpE.buildSlice (zc := #[.int .i64 0]) rfl hB rfl Tryd.underlying22 Tryd.sizeOf3 Tryd.zeroValue3 (by decide) (by decide) (by kernel_rfl) rfl rfl ?_)
      first
        | refine VO.op rfl (OpE.append1 (i := 0) rfl hB rfl Tryd.underlying22 (infoOf Tryd.t3 1 (by kernel_rfl) rfl rfl) rfl (by decide) (by decide) rfl rfl rfl rfl (intsL_snoc _ _) (by omega) (fun _ _ => trivial) ?_)
        | refine VO.op rfl (OpE.append1 (i := 1) rfl hB rfl Tryd.underlying22 (infoOf Tryd.t3 1 (by kernel_rfl) rfl rfl) rfl (by decide) (by decide) rfl rfl rfl rfl (intsL_snoc _ _) (by omega) (fun _ _ => trivial) ?_)
      intro u2
      refine VO.val rfl rfl (OpV.move (.inr rfl) rfl) ?_
      refine VO.nil ?_
      show VC _ _ _ _ _
      refine VC.region ?_
      refine VO.val rfl rfl (OpV.add rfl rfl rfl (by unfold fits; omega)) ?_
      refine VO.val rfl rfl (OpV.move (.inl rfl) rfl) ?_
      refine VO.nil ?_
      first
        | exact Exists.intro (⟨(u2, xs ++ [(c : Int)], q + 1), by show q + 1 ≤ ns.length; omega, by show (xs ++ [_]).length = q + 1; simp; omega⟩) (And.intro (Le.mk hB [0] ⟨rfl, rfl, rfl, rfl, rfl, rfl, trivial⟩ rfl (by first | rfl | (rw [List.length_append]; rfl)) (show k + q + 1 ≤ k + (q + 1) by omega)) (by first | omega | (show _ < _; omega) | (simp only []; omega)))
        | exact Exists.intro (⟨(u2, xs ++ [((c : Int) + r).tmod ms.length], q + 1), by show q + 1 ≤ ns.length; omega, by show (xs ++ [_]).length = q + 1; simp; omega⟩) (And.intro (Le.mk hB [0] ⟨rfl, rfl, rfl, rfl, rfl, rfl, trivial⟩ rfl (by first | rfl | (rw [List.length_append]; rfl)) (show k + q + 1 ≤ k + (q + 1) by omega)) (by first | omega | (show _ < _; omega) | (simp only []; omega)))
  · have aH1 := aH1b
    try simp only [decide_eq_true_eq, decide_eq_false_iff_not, Bool.not_eq_true', Bool.not_eq_false', Int.not_lt, Int.not_le] at aH1
    refine VC.exit ?_
    show VC _ _ _ _ _
    refine VC.seq ?_
    refine VC.seq ?_
    refine VC.region ?_
    refine VO.val rfl rfl (OpV.move (.inl rfl) rfl) ?_
    refine VO.op rfl (OpE.callT' (k + q) rfl rfl hB rfl Tryd.call23 rfl ((flip_T (by omega))) (by omega) ?_)
    rintro _ ⟨r51, rfl⟩
    refine VO.nil ?_
    show VC _ _ _ _ _
    refine VC.cond rfl (fun aH4b => ?_) (fun aH4b => ?_)
    · have aH4 := aH4b
      try simp only [decide_eq_true_eq, decide_eq_false_iff_not, Bool.not_eq_true', Bool.not_eq_false', Int.not_lt, Int.not_le] at aH4
      refine VC.region ?_
      refine VO.val rfl rfl (OpV.move (.inl rfl) rfl) ?_
      refine VO.val rfl rfl (OpV.move (.inl rfl) rfl) ?_
      refine VO.val rfl rfl (OpV.move (.inl rfl) rfl) ?_
      first
        | refine VO.val rfl rfl (OpV.len_im rfl Tryd.underlying26 rfl) ?_
        | refine VO.val rfl rfl (OpV.len_v rfl Tryd.underlying26 rfl) ?_
        | refine VO.val rfl rfl (OpV.len_row (i := 0) rfl Tryd.underlying26 rfl rfl) ?_
      refine VO.op rfl (OpE.buildSlice (zc := #[.int .i64 0, .int .i64 0, .int .i64 0]) rfl hB rfl Tryd.underlying22 Tryd.sizeOf3 Tryd.zeroValue3 (by decide) (by decide) (by kernel_rfl) rfl rfl ?_)
      refine VO.op rfl (OpE.callT' (k + q + 1) rfl rfl hB rfl Tryd.call22 rfl (pick_X (by rfl) (by decide) (by decide) (by repeat (first | exact AllX.nil | refine AllX.cons ?_))) (by omega) ?_)
      rintro _ ⟨r57, rfl⟩
      refine VO.op rfl (OpE.buildSlice (zc := #[.int .i64 0]) rfl hB rfl Tryd.underlying22 Tryd.sizeOf3 Tryd.zeroValue3 (by decide) (by decide) (by kernel_rfl) rfl rfl ?_)
      refine VO.op rfl (OpE.append1 (i := 0) rfl hB rfl Tryd.underlying22 (infoOf Tryd.t3 1 (by kernel_rfl) rfl rfl) rfl (by decide) (by decide) rfl rfl rfl rfl (intsL_snoc _ _) (by omega) (fun _ _ => trivial) ?_)
      intro u3
      refine VO.val rfl rfl (OpV.move (.inr rfl) rfl) ?_
      refine VO.nil ?_
      show VC _ _ _ _ _
      refine VC.seq ?_
      refine VC.region ?_
      refine VO.val rfl rfl (OpV.move (.inl rfl) rfl) ?_
      refine VO.val rfl rfl (OpV.move (.inr rfl) rfl) ?_
      refine VO.nil ?_
      show VC _ _ _ _ _
      refine VC.le _ (Le.rowI (t := 6) (i := 0) hB hnew rfl rfl (by simp)) ?_
      refine VC.ret ?_
      exact Exists.intro _ (And.intro (RetV.one Tryd.results6 (ResV.tmp rfl)) (And.intro (by first | exact ⟨xs, by omega, rfl⟩ | exact ⟨xs ++ [r57], by simp; omega, rfl⟩) ((show k + q + 1 + 1 ≤ k + 100020 by omega))))
    · have aH4 := aH4b
      try simp only [decide_eq_true_eq, decide_eq_false_iff_not, Bool.not_eq_true', Bool.not_eq_false', Int.not_lt, Int.not_le] at aH4
      refine VC.skip ?_
      show VC _ _ _ _ _
      refine VC.seq ?_
      refine VC.region ?_
      refine VO.val rfl rfl (OpV.move (.inl rfl) rfl) ?_
      refine VO.val rfl rfl (OpV.move (.inr rfl) rfl) ?_
      refine VO.nil ?_
      show VC _ _ _ _ _
      refine VC.le _ (Le.rowI (t := 6) (i := 0) hB hnew rfl rfl (by simp)) ?_
      refine VC.ret ?_
      exact Exists.intro _ (And.intro (RetV.one Tryd.results6 (ResV.tmp rfl)) (And.intro (by first | exact ⟨xs, by omega, rfl⟩ | exact ⟨xs ++ [r57], by simp; omega, rfl⟩) ((show k + q + 1 ≤ k + 100020 by omega))))
end Go.Proofs.YtdemlenodablfaaDoor
