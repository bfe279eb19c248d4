/- Part 3 of a proof: the walks and laws that it needs. -/
import Derived.Test.YtmahammdnmmmoaaGreatDoorZN2
namespace Go.Proofs.YtmahammdnmmmoaaGreatDoor
open Go.RowKit
set_option linter.unusedVariables false
set_option linter.unusedSimpArgs false
theorem encO_small (n : Int) : (Utf8.encode n).size ≤ 4 := by
 unfold Utf8.encode
 simp only
 repeat' split
 all_goals simp [ByteArray.size]
theorem getSet_self {α : Type} {xs : List α} {q : Nat} {x d : α} (h : q < xs.length) : (xs.set q x).getD q d = x := by simp [h]
def ozK : ByteArray := ⟨#[111, 122]⟩
def keyO (q : Nat) : ByteArray := ⟨#[111]⟩ ++ Utf8.encode (97 + (q : Int))
theorem keyO_size (q : Nat) : (keyO q).size ≤ 1000 := by
 have := encO_small (97 + (q : Int))
 show (⟨#[111]⟩ ++ Utf8.encode (97 + (q : Int)) : ByteArray).size ≤ 1000
 rw [ByteArray.size_append]; have h1 : (⟨#[111]⟩ : ByteArray).size = 1 := rfl; omega
theorem keyO_ne {q : Nat} (h : q < 20) : keyO q ≠ ozK := by
 have : ∀ q : Fin 20, keyO q.val ≠ ozK := by decide +kernel
 exact this ⟨q, h⟩
def OOk (o : List OrdrS) : Prop := ∀ x ∈ o, x.key.size ≤ 1000 ∧ x.product.size ≤ 1000 ∧ x.key ≠ ozK
theorem OOk.snoc {l : List OrdrS} (h : OOk l) {x : OrdrS} (hx : x.key.size ≤ 1000 ∧ x.product.size ≤ 1000 ∧ x.key ≠ ozK) : OOk (l ++ [x]) := fun y hy => by
 rcases List.mem_append.1 hy with hy | hy
 ·exact h y hy
 ·simp at hy; subst hy; exact hx
theorem OOk.set {l : List OrdrS} (h : OOk l) (q : Nat) {x : OrdrS} (hx : x.key.size ≤ 1000 ∧ x.product.size ≤ 1000 ∧ x.key ≠ ozK) : OOk (l.set q x) := fun y hy => by
 rcases List.mem_or_eq_of_mem_set hy with h' | rfl
 ·exact h y h'
 ·exact hx
theorem OOk.getD {l : List OrdrS} (h : OOk l) (i : Nat) : (l.getD i default).key.size ≤ 1000 ∧ (l.getD i default).product.size ≤ 1000 ∧ (l.getD i default).key ≠ ozK := by
 rw [List.getD_eq_getElem?_getD]
 cases hi : l[i]? with
 | none => decide
 | some x => exact h x (List.mem_of_getElem? hi)
theorem OOk.sm {l : List OrdrS} (h : OOk l) (hl : l.length ≤ 1000) : SmOr l := ⟨by omega, fun i => by have := (h.getD i).1; omega, fun i => by have := (h.getD i).2.1; omega⟩
theorem or_upd {a b : OrdrS} {k : Nat} (h0 : k = 0 ∨ a.key = b.key) (h1 : k = 1 ∨ a.product = b.product) (h2 : k = 2 ∨ a.count = b.count) (h3 : k = 3 ∨ a.ready = b.ready) (h4 : k = 4 ∨ a.due = b.due) : ∀ i, i < 5 → i ≠ k → Sxc.cell a i = Sxc.cell b i := fun i hi hn => by
 match i, hi with
 | 0, _ => show avS a.key = avS b.key; rw [h0.resolve_left fun h => hn h.symm]
 | 1, _ => show avS a.product = avS b.product; rw [h1.resolve_left fun h => hn h.symm]
 | 2, _ => show avI a.count = avI b.count; rw [h2.resolve_left fun h => hn h.symm]
 | 3, _ => show avI a.ready = avI b.ready; rw [h3.resolve_left fun h => hn h.symm]
 | 4, _ => show avI a.due = avI b.due; rw [h4.resolve_left fun h => hn h.symm]
def AllQ : List AV → Prop
 | [] => True
 | x :: r => (∃ i : ByteArray, (i.size ≤ 1000 ∧ i ≠ ozK) ∧ x = avS i) ∧ AllQ r
theorem AllQ.nil : AllQ [] := trivial
theorem AllQ.cons {i : ByteArray} {r : List AV} (h : i.size ≤ 1000 ∧ i ≠ ozK) (hr : AllQ r) : AllQ (avS i :: r) := ⟨⟨i, h, rfl⟩, hr⟩
theorem AllQ.get : ∀ {l : List AV} {q : Nat}, AllQ l → q < l.length → ∃ i : ByteArray, (i.size ≤ 1000 ∧ i ≠ ozK) ∧ l.getD q .any = avS i
 | [], q, _, h => by simp at h
 | x :: r, 0, h, _ => by simpa using h.1
 | x :: r, q + 1, h, hq => by simpa using AllQ.get h.2 (by simpa using hq)
set_option maxRecDepth 100000 in
theorem some_Q {p : Nat} {L : List Int} {n : Nat} {l : List AV} (hn : l.length = n) (h0 : 0 < n) (h1 : n ≤ 1000) (hall : AllQ l) :
  SpecT Tryz.prog (TT p L) (fun b => b = p) 32 [sp p, .im n 1 fun j => l.getD j .any] 1 (fun y => ∃ r : ByteArray, (r.size ≤ 1000 ∧ r ≠ ozK) ∧ y = avS r) := by
 refine SpecT.of_VC Tryz.func32 rfl Tryz.ntmps32 (Nle rfl) (low := (fun b => b ≤ p)) (fun w A k h => h.ok) fun w A k hk hB => ?_
 have hnew : True := trivial
 refine VC.sr ?_
 refine VO.ma rfl rfl rfl rfl ?_
 refine VO.nil ?_
 refine VC.sr ?_
 refine VO.mv rfl rfl rfl rfl ?_
 refine VO.mv rfl rfl rfl rfl ?_
 refine VO.mv rfl rfl rfl rfl ?_
 refine VO.val rfl rfl (OpV.len_im rfl Tryz.underlying95 rfl) ?_
 refine VO.op rfl (OpE.callT' (k) rfl rfl hB rfl Tryz.call42 rfl ((next_T (by omega))) (by omega) ?_)
 rintro _ ⟨r9, hr9, rfl⟩
 refine VO.val rfl rfl (OpV.indexAddr_1 rfl Tryz.underlying95 Tryz.sizeOf9 rfl rfl (Int.toNat_of_nonneg (by omega)).symm (by omega)) ?_
 refine VO.val rfl rfl (OpV.load_at rfl hB OutW.no Tryz.isAgg9 rfl rfl) ?_
 refine VO.ma rfl rfl rfl rfl ?_
 refine VO.nil ?_
 refine VC.ret ?_
 exact Exists.intro _ (And.intro (RetV.one Tryz.results32 (ResV.tmp rfl)) (And.intro (hall.get (by omega)) ((show k + 1 ≤ k + 1 by omega))))
abbrev xO (l : List OrdrS) (m : Nat) : OrdrS := l.getD m default
abbrev pO (g o : Nat) : AV := .v (.pointer (some ⟨g, o, none⟩))
abbrev iO (n : Nat) (cs : List AV) : AV := .im n 1 (fun j => cs.getD j .any)
set_option maxRecDepth 100000 in
set_option maxHeartbeats 40000000 in
theorem orders_M {p : Nat} {L : List Int} {m : Nat} (hm : m ≤ 20) :
    SpecT Tryz.prog (TT p L) (fun b => b = p) 16 [sp p, avI (m : Int)] 100 (fun y => ∃ o : List OrdrS, (o.length ≤ m ∧ OOk o) ∧ y = avL o) := by
  refine SpecT.of_VC Tryz.func16 rfl Tryz.ntmps16 (Nle rfl) (low := (fun b => b ≤ p)) (fun w A k h => h.ok) fun w A k hk hB => ?_
  have hnew : True := trivial
  refine VC.sr ?_
  refine VO.ma rfl rfl rfl rfl ?_
  refine VO.nil ?_
  refine VC.sr ?_
  refine VO.ma rfl rfl rfl rfl ?_
  refine VO.nil ?_
  refine VC.seq ?_
  refine VC.sr ?_
  refine VO.mv rfl rfl rfl rfl ?_
  refine VO.mv rfl rfl rfl rfl ?_
  refine VO.op rfl (OpE.callT' (k) rfl rfl hB rfl Tryz.call40 rfl ((range_T (by omega) (by omega) (by omega))) (by omega) ?_)
  rintro _ ⟨r10, hr10, rfl⟩
  obtain ⟨N, rfl⟩ : ∃ N : Nat, r10 = N := ⟨r10.toNat, by omega⟩
  refine VO.mv rfl rfl rfl rfl ?_
  refine VO.nil ?_
  refine VC.block ?_
  refine VC.le _ (Le.nilRow 5 35) ?_
  refine VC.loopK [(0, _)] ⟨rfl, trivial⟩ ({t : Value × List OrdrS × Nat // t.2.2 ≤ N ∧ t.2.1.length = t.2.2 ∧ OOk t.2.1}) (fun (iZ : {t : Value × List OrdrS × Nat // t.2.2 ≤ N ∧ t.2.1.length = t.2.2 ∧ OOk t.2.1}) => match iZ with | ⟨⟨u, l, q⟩, hq, hl, hok⟩ => [(5, .v u), (10, avI (N : Int)), (11, avI (q : Int))]) (fun (iZ : {t : Value × List OrdrS × Nat // t.2.2 ≤ N ∧ t.2.1.length = t.2.2 ∧ OOk t.2.1}) => match iZ with | ⟨⟨u, l, q⟩, hq, hl, hok⟩ => [.row u l.length 5 (rowL l) 35]) (fun (iZ : {t : Value × List OrdrS × Nat // t.2.2 ≤ N ∧ t.2.1.length = t.2.2 ∧ OOk t.2.1}) => match iZ with | ⟨⟨u, l, q⟩, hq, hl, hok⟩ => k + 1 + 4 * q) (fun (iZ : {t : Value × List OrdrS × Nat // t.2.2 ≤ N ∧ t.2.1.length = t.2.2 ∧ OOk t.2.1}) => match iZ with | ⟨⟨u, l, q⟩, hq, hl, hok⟩ => N - q) ⟨(.slice none 0 0, [], 0), Nat.zero_le _, rfl, fun x h => by simp at h⟩ (Le.mk hB [0] ⟨rfl, rfl, rfl, rfl, trivial⟩ rfl rfl (show k + 1 ≤ k + 1 + 4 * 0 by omega)) ?_
  rintro ⟨⟨u, l, q⟩, hq, hl, hok⟩
  show VC _ _ _ _ ⟨[(5, .v u), (10, avI (N : Int)), (11, avI (q : Int))] ++ [(0, _)], [.row u l.length 5 (rowL l) 35], k + 1 + 4 * q⟩
  simp only at hq hl hok
  refine VC.sr ?_
  refine VO.val rfl rfl (OpV.lss rfl rfl rfl) ?_
  refine VO.nil ?_
  refine VC.seq ?_
  refine VC.cond rfl (fun aH1b => ?_) (fun aH1b => ?_)
  · have aH1 := aH1b
    try simp only [qqT, qqF, qqN, qqM, qqL, qqE] at aH1
    refine VC.skip ?_
    refine VC.seq ?_
    refine VC.block ?_
    refine VC.sr ?_
    refine VO.mv rfl rfl rfl rfl ?_
    refine VO.ma rfl rfl rfl rfl ?_
    refine VO.nil ?_
    refine VC.region ?_
    refine VO.mv rfl rfl rfl rfl ?_
    refine VO.mv rfl rfl rfl rfl ?_
    refine VO.val rfl rfl (OpV.add rfl rfl rfl (by unfold fits; omega)) ?_
    refine VO.val rfl rfl (OpV.conv rfl Tryz.underlying3 Tryz.underlying21 rfl (IntWalk.i32_in _ (by omega))) ?_
    refine VO.val rfl rfl (OpV.convStr rfl Tryz.underlying21 Tryz.underlying9 rfl) ?_
    refine VO.val rfl rfl (OpV.sadd rfl rfl rfl (by have := encO_small (97 + (q : Int)); have h1 : (⟨#[111]⟩ : ByteArray).size = 1 := rfl; omega)) ?_
    refine VO.mv rfl rfl rfl rfl ?_
    refine VO.op rfl (OpE.buildSlice (zc := #[.string ⟨#[]⟩, .string ⟨#[]⟩, .string ⟨#[]⟩, .string ⟨#[]⟩]) rfl hB rfl Tryz.underlying95 Tryz.sizeOf9 Tryz.zeroValue9 (by decide) (by decide) (by kernel_rfl) rfl rfl ?_)
    refine VO.op rfl (OpE.callT' (k + 1 + 4 * q) rfl rfl hB rfl Tryz.call32 rfl ((some_T 1000 (by rfl) (by decide) (by decide) (by repeat (first | exact AllS.nil | refine AllS.cons (by first | decide | omega) ?_)))) (by omega) ?_)
    rintro _ ⟨r22, hr22, rfl⟩
    refine VO.mv rfl rfl rfl rfl ?_
    refine VO.op rfl (OpE.callT' (k + 1 + 4 * q + 1) rfl rfl hB rfl Tryz.call40 rfl ((range_T (by omega) (by omega) (by omega))) (by omega) ?_)
    rintro _ ⟨r24, hr24, rfl⟩
    refine VO.mv rfl rfl rfl rfl ?_
    refine VO.op rfl (OpE.buildSlice (zc := #[.int .i64 0, .int .i64 0, .int .i64 0, .int .i64 0]) rfl hB rfl Tryz.underlying22 Tryz.sizeOf3 Tryz.zeroValue3 (by decide) (by decide) (by kernel_rfl) rfl rfl ?_)
    refine VO.op rfl (OpE.callT' (k + 1 + 4 * q + 1 + 1) rfl rfl hB rfl Tryz.call21 rfl (pick_X (by rfl) (by decide) (by decide) (by repeat (first | exact AllX.nil | refine AllX.cons ?_))) (by omega) ?_)
    rintro _ ⟨r27, rfl⟩
    refine VO.mv rfl rfl rfl rfl ?_
    refine VO.op rfl (OpE.buildSlice (zc := #[.int .i64 0, .int .i64 0, .int .i64 0, .int .i64 0, .int .i64 0]) rfl hB rfl Tryz.underlying22 Tryz.sizeOf3 Tryz.zeroValue3 (by decide) (by decide) (by kernel_rfl) rfl rfl ?_)
    refine VO.op rfl (OpE.callT' (k + 1 + 4 * q + 1 + 1 + 1) rfl rfl hB rfl Tryz.call21 rfl (pick_X (by rfl) (by decide) (by decide) (by repeat (first | exact AllX.nil | refine AllX.cons ?_))) (by omega) ?_)
    rintro _ ⟨r30, rfl⟩
    refine VO.val rfl rfl (OpV.build (pls := #[(0, 1), (1, 1), (2, 1), (3, 1), (4, 1)]) rfl Tryz.zeroValue35 Tryz.underlying35 (fun w => by kernel_rfl) rfl rfl) ?_
    refine VO.op rfl (OpE.buildSlice (zc := #[.string ⟨#[]⟩, .string ⟨#[]⟩, .int .i64 0, .int .i64 0, .int .i64 0]) rfl hB rfl Tryz.underlying28 Tryz.sizeOf35 Tryz.zeroValue35 (by decide) (by decide) (by kernel_rfl) rfl rfl ?_)
    refine VO.op rfl (OpE.append1 (i := 0) rfl hB rfl Tryz.underlying28 (infoOf Tryz.t35 5 (by kernel_rfl) rfl rfl) rfl (by decide) (by decide) rfl rfl rfl rfl (rowL_snoc l (⟨keyO q, r22, r24, r27, r30⟩ : OrdrS)) (by omega) (fun _ _ => trivial) ?_)
    intro u2
    refine VO.ma rfl rfl rfl rfl ?_
    refine VO.nil ?_
    refine VC.region ?_
    refine VO.val rfl rfl (OpV.add rfl rfl rfl (by unfold fits; omega)) ?_
    refine VO.mv rfl rfl rfl rfl ?_
    refine VO.nil ?_
    exact Exists.intro (⟨(u2, l ++ [⟨keyO q, r22, r24, r27, r30⟩], q + 1), by show q + 1 ≤ N; omega, by show (l ++ [_]).length = q + 1; simp; omega, hok.snoc ⟨keyO_size q, hr22, keyO_ne (by omega)⟩⟩) (And.intro (Le.mk hB [0] ⟨rfl, rfl, rfl, rfl, trivial⟩ rfl (by dsimp only; rw [List.length_append]; rfl) (show k + 1 + 4 * q + 1 + 1 + 1 + 1 ≤ k + 1 + 4 * (q + 1) by omega)) (by first | omega | (show _ < _; omega) | (simp only []; omega)))
  · have aH1 := aH1b
    try simp only [qqT, qqF, qqN, qqM, qqL, qqE] at aH1
    refine VC.exit ?_
    refine VC.seq ?_
    refine VC.sr ?_
    refine VO.mv rfl rfl rfl rfl ?_
    refine VO.val rfl rfl (OpV.len_row (i := 0) rfl Tryz.underlying28 rfl rfl) ?_
    refine VO.val rfl rfl (OpV.gtr rfl rfl rfl) ?_
    refine VO.mv rfl rfl rfl rfl ?_
    refine VO.opG rfl rfl rfl rfl (fun aK2b => ?_) (fun aK2b => ?_)
    · replace aK2b : _ = true := aK2b
      have aK2 := aK2b
      try simp only [qqT, qqF, qqN, qqM, qqL, qqE] at aK2
      refine OpE.val (W := NoB) (OpV.move (.inl rfl) rfl) rfl ?_
      refine VO.opY rfl rfl rfl rfl aK2b ?_
      refine OpE.callT' (k + 1 + 4 * q) rfl rfl hB rfl Tryz.call17 rfl ((flip_T (by omega))) (by omega) ?_
      rintro _ ⟨r40, rfl⟩
      refine VO.val rfl rfl (OpV.pickT rfl rfl rfl rfl aK2b) ?_
      refine VO.nil ?_
      refine VC.cond rfl (fun aH3b => ?_) (fun aH3b => ?_)
      · have aH3 := aH3b
        try simp only [qqT, qqF, qqN, qqM, qqL, qqE] at aH3
        refine VC.seq ?_
        refine VC.asBox (i := 0) rfl (by omega) (fun gr cap hu hcap hmx => ?_)
        subst hu
        refine VC.region ?_
        refine VO.mv rfl rfl rfl rfl ?_
        refine VO.mv rfl rfl rfl rfl ?_
        refine VO.mv rfl rfl rfl rfl ?_
        refine VO.val rfl rfl (OpV.len_v rfl Tryz.underlying28 rfl) ?_
        refine VO.op rfl (OpE.callT' (k + 1 + 4 * q + 1) rfl rfl hB rfl Tryz.call42 rfl ((next_T (by omega))) (by omega) ?_)
        rintro _ ⟨r46, hr46, rfl⟩
        obtain ⟨i, rfl⟩ : ∃ i : Nat, r46 = i := ⟨r46.toNat, by omega⟩
        refine VO.val rfl rfl (OpV.indexAddr_q rfl Tryz.underlying28 Tryz.sizeOf35 rfl rfl rfl (by omega)) ?_
        refine VO.ma rfl rfl rfl rfl ?_
        refine VO.nil ?_
        refine VC.draw (fun j b => j ∈ [54, 57, 60, 63, 66] ∧ b = gr) hB (by kernel_rfl) ?_
        refine VA.take (i := 0) rfl (by decide +kernel) (by decide +kernel) (by decide +kernel) rfl rfl (OpV.move (.inl rfl) rfl) ?_
        refine VA.take (i := 1) rfl (by decide +kernel) (by decide +kernel) (by decide +kernel) rfl rfl (OpV.move (.inl rfl) rfl) ?_
        refine VA.take (i := 2) rfl (by decide +kernel) (by decide +kernel) (by decide +kernel) rfl rfl (OpV.move (.inl rfl) rfl) ?_
        refine VA.take (i := 3) rfl (by decide +kernel) (by decide +kernel) (by decide +kernel) rfl rfl (OpV.move (.inl rfl) rfl) ?_
        refine VA.take (i := 4) rfl (by decide +kernel) (by decide +kernel) (by decide +kernel) rfl rfl (OpV.move (.inl rfl) rfl) ?_
        refine VA.take (i := 5) rfl (by decide +kernel) (by decide +kernel) (by decide +kernel) rfl rfl (OpV.move (.inl rfl) rfl) ?_
        refine VA.take (i := 6) rfl (by decide +kernel) (by decide +kernel) (by decide +kernel) rfl rfl (OpV.move (.inl rfl) rfl) ?_
        refine VA.take (i := 7) rfl (by decide +kernel) (by decide +kernel) (by decide +kernel) rfl rfl (OpV.nilCheck rfl rfl) ?_
        refine VA.take (i := 8) rfl (by decide +kernel) (by decide +kernel) (by decide +kernel) rfl rfl (OpV.fieldAddrO 0 rfl Tryz.underlying35 rfl rfl Tryz.sizeOf9 rfl) ?_
        refine VA.take (i := 9) rfl (by decide +kernel) (by decide +kernel) (by decide +kernel) rfl rfl (OpV.load_own (i := 0) rfl hB Tryz.isAgg9 rfl rfl (rowL_at rfl (by omega) (by decide)) (Wi.notD (by decide +kernel))) ?_
        refine VA.take (i := 10) rfl (by decide +kernel) (by decide +kernel) (by decide +kernel) rfl rfl (OpV.move (.inl rfl) rfl) ?_
        refine VA.take (i := 11) rfl (by decide +kernel) (by decide +kernel) (by decide +kernel) rfl rfl (OpV.nilCheck rfl rfl) ?_
        refine VA.take (i := 12) rfl (by decide +kernel) (by decide +kernel) (by decide +kernel) rfl rfl (OpV.fieldAddrO 0 rfl Tryz.underlying35 rfl rfl Tryz.sizeOf9 rfl) ?_
        refine VA.take (i := 13) rfl (by decide +kernel) (by decide +kernel) (by decide +kernel) rfl rfl (OpV.load_own (i := 0) rfl hB Tryz.isAgg9 rfl rfl (rowL_at rfl (by omega) (by decide)) (Wi.notD (by decide +kernel))) ?_
        refine VA.take (i := 16) rfl (by decide +kernel) (by decide +kernel) (by decide +kernel) rfl rfl (OpV.move (.inl rfl) rfl) ?_
        refine VA.take (i := 17) rfl (by decide +kernel) (by decide +kernel) (by decide +kernel) rfl rfl (OpV.move (.inl rfl) rfl) ?_
        refine VA.take (i := 18) rfl (by decide +kernel) (by decide +kernel) (by decide +kernel) rfl rfl (OpV.nilCheck rfl rfl) ?_
        refine VA.take (i := 19) rfl (by decide +kernel) (by decide +kernel) (by decide +kernel) rfl rfl (OpV.fieldAddrO 1 rfl Tryz.underlying35 rfl rfl Tryz.sizeOf9 rfl) ?_
        refine VA.take (i := 20) rfl (by decide +kernel) (by decide +kernel) (by decide +kernel) rfl rfl (OpV.load_own (i := 0) rfl hB Tryz.isAgg9 rfl rfl (rowL_at rfl (by omega) (by decide)) (Wi.notD (by decide +kernel))) ?_
        refine VA.take (i := 21) rfl (by decide +kernel) (by decide +kernel) (by decide +kernel) rfl rfl (OpV.move (.inl rfl) rfl) ?_
        refine VA.take (i := 22) rfl (by decide +kernel) (by decide +kernel) (by decide +kernel) rfl rfl (OpV.nilCheck rfl rfl) ?_
        refine VA.take (i := 23) rfl (by decide +kernel) (by decide +kernel) (by decide +kernel) rfl rfl (OpV.fieldAddrO 1 rfl Tryz.underlying35 rfl rfl Tryz.sizeOf9 rfl) ?_
        refine VA.take (i := 24) rfl (by decide +kernel) (by decide +kernel) (by decide +kernel) rfl rfl (OpV.load_own (i := 0) rfl hB Tryz.isAgg9 rfl rfl (rowL_at rfl (by omega) (by decide)) (Wi.notD (by decide +kernel))) ?_
        refine VA.take (i := 27) rfl (by decide +kernel) (by decide +kernel) (by decide +kernel) rfl rfl (OpV.move (.inl rfl) rfl) ?_
        refine VA.take (i := 28) rfl (by decide +kernel) (by decide +kernel) (by decide +kernel) rfl rfl (OpV.move (.inl rfl) rfl) ?_
        refine VA.take (i := 29) rfl (by decide +kernel) (by decide +kernel) (by decide +kernel) rfl rfl (OpV.nilCheck rfl rfl) ?_
        refine VA.take (i := 30) rfl (by decide +kernel) (by decide +kernel) (by decide +kernel) rfl rfl (OpV.fieldAddrO 2 rfl Tryz.underlying35 rfl rfl Tryz.sizeOf3 rfl) ?_
        refine VA.take (i := 31) rfl (by decide +kernel) (by decide +kernel) (by decide +kernel) rfl rfl (OpV.load_own (i := 0) rfl hB Tryz.isAgg3 rfl rfl (rowL_at rfl (by omega) (by decide)) (Wi.notD (by decide +kernel))) ?_
        refine VA.take (i := 34) rfl (by decide +kernel) (by decide +kernel) (by decide +kernel) rfl rfl (OpV.move (.inl rfl) rfl) ?_
        refine VA.take (i := 35) rfl (by decide +kernel) (by decide +kernel) (by decide +kernel) rfl rfl (OpV.move (.inl rfl) rfl) ?_
        refine VA.take (i := 36) rfl (by decide +kernel) (by decide +kernel) (by decide +kernel) rfl rfl (OpV.nilCheck rfl rfl) ?_
        refine VA.take (i := 37) rfl (by decide +kernel) (by decide +kernel) (by decide +kernel) rfl rfl (OpV.fieldAddrO 3 rfl Tryz.underlying35 rfl rfl Tryz.sizeOf3 rfl) ?_
        refine VA.take (i := 38) rfl (by decide +kernel) (by decide +kernel) (by decide +kernel) rfl rfl (OpV.load_own (i := 0) rfl hB Tryz.isAgg3 rfl rfl (rowL_at rfl (by omega) (by decide)) (Wi.notD (by decide +kernel))) ?_
        refine VA.take (i := 41) rfl (by decide +kernel) (by decide +kernel) (by decide +kernel) rfl rfl (OpV.move (.inl rfl) rfl) ?_
        refine VA.take (i := 42) rfl (by decide +kernel) (by decide +kernel) (by decide +kernel) rfl rfl (OpV.move (.inl rfl) rfl) ?_
        refine VA.take (i := 43) rfl (by decide +kernel) (by decide +kernel) (by decide +kernel) rfl rfl (OpV.nilCheck rfl rfl) ?_
        refine VA.take (i := 44) rfl (by decide +kernel) (by decide +kernel) (by decide +kernel) rfl rfl (OpV.fieldAddrO 4 rfl Tryz.underlying35 rfl rfl Tryz.sizeOf3 rfl) ?_
        refine VA.take (i := 45) rfl (by decide +kernel) (by decide +kernel) (by decide +kernel) rfl rfl (OpV.load_own (i := 0) rfl hB Tryz.isAgg3 rfl rfl (rowL_at rfl (by omega) (by decide)) (Wi.notD (by decide +kernel))) ?_
        refine VA.take (i := 46) rfl (by decide +kernel) (by decide +kernel) (by decide +kernel) rfl rfl (OpV.move (.inl rfl) rfl) ?_
        refine VA.take (i := 47) rfl (by decide +kernel) (by decide +kernel) (by decide +kernel) rfl rfl (OpV.nilCheck rfl rfl) ?_
        refine VA.take (i := 48) rfl (by decide +kernel) (by decide +kernel) (by decide +kernel) rfl rfl (OpV.fieldAddrO 4 rfl Tryz.underlying35 rfl rfl Tryz.sizeOf3 rfl) ?_
        refine VA.take (i := 49) rfl (by decide +kernel) (by decide +kernel) (by decide +kernel) rfl rfl (OpV.load_own (i := 0) rfl hB Tryz.isAgg3 rfl rfl (rowL_at rfl (by omega) (by decide)) (Wi.notD (by decide +kernel))) ?_
        refine VA.bind (fun F hF => ?_)
        have hS0 : ∀ (r63 : ByteArray) (hr63 : r63.size ≤ 1000 ∧ r63 ≠ ozK) (r74 : ByteArray) (hr74 : r74.size ≤ 1000) (r81 : Int) (r88 : Int) (r99 : Int), F 13 (lstB 67 [0, 1, 2, 3, 4, 5, 6, 7, 8, 9, 10, 11, 12, 13, 14, 15, 16, 17, 18, 19, 20, 21, 22, 23, 24, 25, 26, 27, 28, 29, 30, 31, 32, 33, 34, 35, 36, 37, 38, 39, 40, 41, 42, 43, 44, 45, 46, 47, 48, 49, 50, 51, 52, 53]) ⟨[(0, sp p), (53, sp p), (64, sp p), (75, sp p), (82, sp p), (89, sp p), (48, (pO gr (0 + i * 5))), (49, (pO gr (0 + i * 5))), (50, (pO gr (0 + i * 5))), (51, (pO gr (0 + i * 5))), (52, (pO gr (0 + i * 5))), (57, avS (xO l i).key), (61, avS (xO l i).key), (68, avS (xO l i).product), (72, avS (xO l i).product), (79, avI (xO l i).count), (86, avI (xO l i).ready), (93, avI (xO l i).due), (97, avI (xO l i).due), (5, .v (.slice (some ⟨gr, 0, none⟩) l.length cap)), (62, (iO 4 [avS (xO l i).key, avS (xO l i).key, avS ⟨#[]⟩, avS ⟨#[111, 97]⟩])), (63, avS r63), (73, (iO 4 [avS (xO l i).product, avS (xO l i).product, avS ⟨#[122, 122]⟩, avS ⟨#[]⟩])), (74, avS r74), (80, (iO 3 [avI (xO l i).count, avI 0, avI 100001])), (81, avI r81), (87, (iO 3 [avI (xO l i).ready, avI (-1), avI 345686400000])), (88, avI r88), (98, (iO 3 [avI (xO l i).due, avI (xO l i).due, avI 345686400000])), (99, avI r99), (101, (pO gr (0 + i * 5 + 0)))], [.box gr ⟨rowL l, 35, cap * 5⟩], k + 1 + 4 * q + 1 + 1 + 1 + 1 + 1 + 1 + 1⟩ := by
          intro r63 hr63 r74 hr74 r81 r88 r99
          rw [hF]
          refine VA.all (rs := [54]) (by decide +kernel) (by decide) ?_
          refine ⟨⟨_, rfl, .inl rfl, ?_⟩, trivial⟩
          refine OpE.store1 (i := 0) rfl hB rfl Tryz.sizeOf9 rfl rfl rfl rfl rfl rfl (rowL_in rfl (by omega) (by decide)) (rowL_set (x := ({l.getD i default with key := r63} : OrdrS)) rfl (by omega) (by decide) rfl (fun i hi hn => or_upd (by simp) (by simp) (by simp) (by simp) (by simp) i hi hn)) (by first | exact ⟨rfl, rfl⟩ | exact .inl ⟨rfl, rfl⟩ | exact .inr ⟨rfl, rfl⟩ | exact ⟨rfl, trivial⟩ | exact .inl ⟨rfl, trivial⟩ | exact .inr ⟨rfl, trivial⟩ | exact ⟨by decide, rfl⟩) ?_
          refine VA.take (i := 55) rfl (by decide +kernel) (by decide +kernel) (by decide +kernel) rfl rfl (OpV.nilCheck rfl rfl) ?_
          refine VA.take (i := 56) rfl (by decide +kernel) (by decide +kernel) (by decide +kernel) rfl rfl (OpV.fieldAddrO 1 rfl Tryz.underlying35 rfl rfl Tryz.sizeOf9 rfl) ?_
          refine VA.all (rs := [57]) (by decide +kernel) (by decide) ?_
          refine ⟨⟨_, rfl, .inl rfl, ?_⟩, trivial⟩
          refine OpE.store1 (i := 0) rfl hB rfl Tryz.sizeOf9 rfl rfl rfl rfl rfl rfl (rowL_in rfl (by first | omega | (simp only [List.length_set]; omega) | (simp; omega)) (by decide)) (rowL_set (x := ({l.getD i default with key := r63, product := r74} : OrdrS)) rfl (by first | omega | (simp only [List.length_set]; omega) | (simp; omega)) (by decide) rfl (fun i hi hn => by rw [getSet_self (by first | omega | (simp only [List.length_set]; omega) | (simp; omega))]; exact or_upd (by simp) (by simp) (by simp) (by simp) (by simp) i hi hn)) (by first | exact ⟨rfl, rfl⟩ | exact .inl ⟨rfl, rfl⟩ | exact .inr ⟨rfl, rfl⟩ | exact ⟨rfl, trivial⟩ | exact .inl ⟨rfl, trivial⟩ | exact .inr ⟨rfl, trivial⟩ | exact ⟨by decide, rfl⟩) ?_
          refine VA.take (i := 58) rfl (by decide +kernel) (by decide +kernel) (by decide +kernel) rfl rfl (OpV.nilCheck rfl rfl) ?_
          refine VA.take (i := 59) rfl (by decide +kernel) (by decide +kernel) (by decide +kernel) rfl rfl (OpV.fieldAddrO 2 rfl Tryz.underlying35 rfl rfl Tryz.sizeOf3 rfl) ?_
          refine VA.all (rs := [60]) (by decide +kernel) (by decide) ?_
          refine ⟨⟨_, rfl, .inl rfl, ?_⟩, trivial⟩
          refine OpE.store1 (i := 0) rfl hB rfl Tryz.sizeOf3 rfl rfl rfl rfl rfl rfl (rowL_in rfl (by first | omega | (simp only [List.length_set]; omega) | (simp; omega)) (by decide)) (rowL_set (x := ({l.getD i default with key := r63, product := r74, count := r81} : OrdrS)) rfl (by first | omega | (simp only [List.length_set]; omega) | (simp; omega)) (by decide) rfl (fun i hi hn => by rw [getSet_self (by first | omega | (simp only [List.length_set]; omega) | (simp; omega))]; exact or_upd (by simp) (by simp) (by simp) (by simp) (by simp) i hi hn)) (by first | exact ⟨rfl, rfl⟩ | exact .inl ⟨rfl, rfl⟩ | exact .inr ⟨rfl, rfl⟩ | exact ⟨rfl, trivial⟩ | exact .inl ⟨rfl, trivial⟩ | exact .inr ⟨rfl, trivial⟩ | exact ⟨by decide, rfl⟩) ?_
          refine VA.take (i := 61) rfl (by decide +kernel) (by decide +kernel) (by decide +kernel) rfl rfl (OpV.nilCheck rfl rfl) ?_
          refine VA.take (i := 62) rfl (by decide +kernel) (by decide +kernel) (by decide +kernel) rfl rfl (OpV.fieldAddrO 3 rfl Tryz.underlying35 rfl rfl Tryz.sizeOf3 rfl) ?_
          refine VA.all (rs := [63]) (by decide +kernel) (by decide) ?_
          refine ⟨⟨_, rfl, .inl rfl, ?_⟩, trivial⟩
          refine OpE.store1 (i := 0) rfl hB rfl Tryz.sizeOf3 rfl rfl rfl rfl rfl rfl (rowL_in rfl (by first | omega | (simp only [List.length_set]; omega) | (simp; omega)) (by decide)) (rowL_set (x := ({l.getD i default with key := r63, product := r74, count := r81, ready := r88} : OrdrS)) rfl (by first | omega | (simp only [List.length_set]; omega) | (simp; omega)) (by decide) rfl (fun i hi hn => by rw [getSet_self (by first | omega | (simp only [List.length_set]; omega) | (simp; omega))]; exact or_upd (by simp) (by simp) (by simp) (by simp) (by simp) i hi hn)) (by first | exact ⟨rfl, rfl⟩ | exact .inl ⟨rfl, rfl⟩ | exact .inr ⟨rfl, rfl⟩ | exact ⟨rfl, trivial⟩ | exact .inl ⟨rfl, trivial⟩ | exact .inr ⟨rfl, trivial⟩ | exact ⟨by decide, rfl⟩) ?_
          refine VA.take (i := 64) rfl (by decide +kernel) (by decide +kernel) (by decide +kernel) rfl rfl (OpV.nilCheck rfl rfl) ?_
          refine VA.take (i := 65) rfl (by decide +kernel) (by decide +kernel) (by decide +kernel) rfl rfl (OpV.fieldAddrO 4 rfl Tryz.underlying35 rfl rfl Tryz.sizeOf3 rfl) ?_
          refine VA.all (rs := [66]) (by decide +kernel) (by decide) ?_
          refine ⟨⟨_, rfl, .inl rfl, ?_⟩, trivial⟩
          refine OpE.store1 (i := 0) rfl hB rfl Tryz.sizeOf3 rfl rfl rfl rfl rfl rfl (rowL_in rfl (by first | omega | (simp only [List.length_set]; omega) | (simp; omega)) (by decide)) (rowL_set (x := ({l.getD i default with key := r63, product := r74, count := r81, ready := r88, due := r99} : OrdrS)) rfl (by first | omega | (simp only [List.length_set]; omega) | (simp; omega)) (by decide) rfl (fun i hi hn => by rw [getSet_self (by first | omega | (simp only [List.length_set]; omega) | (simp; omega))]; exact or_upd (by simp) (by simp) (by simp) (by simp) (by simp) i hi hn)) (by first | exact ⟨rfl, rfl⟩ | exact .inl ⟨rfl, rfl⟩ | exact .inr ⟨rfl, rfl⟩ | exact ⟨rfl, trivial⟩ | exact .inl ⟨rfl, trivial⟩ | exact .inr ⟨rfl, trivial⟩ | exact ⟨by decide, rfl⟩) ?_
          refine VA.done (by decide +kernel) ?_
          refine VC.sr ?_
          refine VO.mv rfl rfl rfl rfl ?_
          refine VO.ma rfl rfl rfl rfl ?_
          refine VO.nil ?_
          refine VC.le _ (Le.boxT (t := 4) (i := 0) (n := l.length) hB hnew rfl rfl (by simp) hcap hmx) ?_
          refine VC.ret ?_
          exact Exists.intro _ (And.intro (RetV.one Tryz.results16 (ResV.tmp rfl)) (And.intro (by first | exact ⟨l, ⟨by omega, hok⟩, rfl⟩ | exact ⟨_, ⟨by simp; omega, by repeat (first | exact hok | refine OOk.set ?_ _ ⟨by first | exact hr63.1 | exact (hok.getD i).1, by first | exact hr74 | exact (hok.getD i).2.1, by first | exact hr63.2 | exact (hok.getD i).2.2⟩)⟩, rfl⟩) ((show k + 1 + 4 * q + 1 + 1 + 1 + 1 + 1 + 1 + 1 ≤ k + 100 by omega))))
        have hS1 : ∀ (r63 : ByteArray) (hr63 : r63.size ≤ 1000 ∧ r63 ≠ ozK) (r74 : ByteArray) (hr74 : r74.size ≤ 1000) (r81 : Int) (r88 : Int), F 16 (lstB 67 [0, 1, 2, 3, 4, 5, 6, 7, 8, 9, 10, 11, 12, 13, 14, 15, 16, 17, 18, 19, 20, 21, 22, 23, 24, 25, 26, 27, 28, 29, 30, 31, 32, 33, 34, 35, 36, 37, 38, 39, 40, 41, 42, 43, 44, 45, 46, 47, 48, 49, 50]) ⟨[(0, sp p), (53, sp p), (64, sp p), (75, sp p), (82, sp p), (89, sp p), (48, (pO gr (0 + i * 5))), (49, (pO gr (0 + i * 5))), (50, (pO gr (0 + i * 5))), (51, (pO gr (0 + i * 5))), (52, (pO gr (0 + i * 5))), (57, avS (xO l i).key), (61, avS (xO l i).key), (68, avS (xO l i).product), (72, avS (xO l i).product), (79, avI (xO l i).count), (86, avI (xO l i).ready), (93, avI (xO l i).due), (97, avI (xO l i).due), (5, .v (.slice (some ⟨gr, 0, none⟩) l.length cap)), (62, (iO 4 [avS (xO l i).key, avS (xO l i).key, avS ⟨#[]⟩, avS ⟨#[111, 97]⟩])), (63, avS r63), (73, (iO 4 [avS (xO l i).product, avS (xO l i).product, avS ⟨#[122, 122]⟩, avS ⟨#[]⟩])), (74, avS r74), (80, (iO 3 [avI (xO l i).count, avI 0, avI 100001])), (81, avI r81), (87, (iO 3 [avI (xO l i).ready, avI (-1), avI 345686400000])), (88, avI r88), (98, (iO 3 [avI (xO l i).due, avI (xO l i).due, avI 345686400000]))], [.box gr ⟨rowL l, 35, cap * 5⟩], k + 1 + 4 * q + 1 + 1 + 1 + 1 + 1 + 1⟩ := by
          intro r63 hr63 r74 hr74 r81 r88
          rw [hF]
          refine VA.all (rs := [51]) (by decide +kernel) (by decide) ?_
          refine ⟨⟨_, rfl, .inl rfl, ?_⟩, trivial⟩
          refine OpE.callT' (k + 1 + 4 * q + 1 + 1 + 1 + 1 + 1 + 1) rfl rfl hB rfl Tryz.call21 rfl (pick_X (by rfl) (by decide) (by decide) (by repeat (first | exact AllX.nil | refine AllX.cons ?_))) (by omega) ?_
          rintro _ ⟨r99, rfl⟩
          refine VA.take (i := 52) rfl (by decide +kernel) (by decide +kernel) (by decide +kernel) rfl rfl (OpV.nilCheck rfl rfl) ?_
          refine VA.take (i := 53) rfl (by decide +kernel) (by decide +kernel) (by decide +kernel) rfl rfl (OpV.fieldAddrO 0 rfl Tryz.underlying35 rfl rfl Tryz.sizeOf9 rfl) ?_
          have hh := hS0 r63 hr63 r74 hr74 r81 r88 r99
          rw [hF] at hh
          exact VA.to hh (by decide +kernel) (Le.mk hB [0] ⟨rfl, rfl, rfl, rfl, rfl, rfl, rfl, rfl, rfl, rfl, rfl, rfl, rfl, rfl, rfl, rfl, rfl, rfl, rfl, rfl, rfl, rfl, rfl, rfl, rfl, rfl, rfl, rfl, rfl, rfl, rfl, trivial⟩ rfl rfl (Nat.le_refl _))
        have hS2 : ∀ (r63 : ByteArray) (hr63 : r63.size ≤ 1000 ∧ r63 ≠ ozK) (r74 : ByteArray) (hr74 : r74.size ≤ 1000) (r81 : Int) (r88 : Int), F 17 (lstB 67 [0, 1, 2, 3, 4, 5, 6, 7, 8, 9, 10, 11, 12, 13, 14, 15, 16, 17, 18, 19, 20, 21, 22, 23, 24, 25, 26, 27, 28, 29, 30, 31, 32, 33, 34, 35, 36, 37, 38, 39, 40, 41, 42, 43, 44, 45, 46, 47, 48, 49]) ⟨[(0, sp p), (53, sp p), (64, sp p), (75, sp p), (82, sp p), (89, sp p), (48, (pO gr (0 + i * 5))), (49, (pO gr (0 + i * 5))), (50, (pO gr (0 + i * 5))), (51, (pO gr (0 + i * 5))), (52, (pO gr (0 + i * 5))), (57, avS (xO l i).key), (61, avS (xO l i).key), (68, avS (xO l i).product), (72, avS (xO l i).product), (79, avI (xO l i).count), (86, avI (xO l i).ready), (93, avI (xO l i).due), (97, avI (xO l i).due), (5, .v (.slice (some ⟨gr, 0, none⟩) l.length cap)), (62, (iO 4 [avS (xO l i).key, avS (xO l i).key, avS ⟨#[]⟩, avS ⟨#[111, 97]⟩])), (63, avS r63), (73, (iO 4 [avS (xO l i).product, avS (xO l i).product, avS ⟨#[122, 122]⟩, avS ⟨#[]⟩])), (74, avS r74), (80, (iO 3 [avI (xO l i).count, avI 0, avI 100001])), (81, avI r81), (87, (iO 3 [avI (xO l i).ready, avI (-1), avI 345686400000])), (88, avI r88)], [.box gr ⟨rowL l, 35, cap * 5⟩], k + 1 + 4 * q + 1 + 1 + 1 + 1 + 1 + 1⟩ := by
          intro r63 hr63 r74 hr74 r81 r88
          rw [hF]
          refine VA.all (rs := [50]) (by decide +kernel) (by decide) ?_
          refine ⟨⟨_, rfl, .inl rfl, ?_⟩, trivial⟩
          refine OpE.buildSlice (zc := #[.int .i64 0, .int .i64 0, .int .i64 0]) rfl hB rfl Tryz.underlying22 Tryz.sizeOf3 Tryz.zeroValue3 (by decide) (by decide) (by kernel_rfl) rfl rfl ?_
          have hh := hS1 r63 hr63 r74 hr74 r81 r88
          rw [hF] at hh
          exact VA.to hh (by decide +kernel) (Le.mk hB [0] ⟨rfl, rfl, rfl, rfl, rfl, rfl, rfl, rfl, rfl, rfl, rfl, rfl, rfl, rfl, rfl, rfl, rfl, rfl, rfl, rfl, rfl, rfl, rfl, rfl, rfl, rfl, rfl, rfl, rfl, trivial⟩ rfl rfl (Nat.le_refl _))
        have hS3 : ∀ (r63 : ByteArray) (hr63 : r63.size ≤ 1000 ∧ r63 ≠ ozK) (r74 : ByteArray) (hr74 : r74.size ≤ 1000) (r81 : Int), F 17 (lstB 67 [0, 1, 2, 3, 4, 5, 6, 7, 8, 9, 10, 11, 12, 13, 14, 15, 16, 17, 18, 19, 20, 21, 22, 23, 24, 25, 26, 27, 28, 29, 30, 31, 32, 33, 34, 35, 36, 37, 38, 39, 41, 42, 43, 44, 45, 46, 47, 48, 49, 50]) ⟨[(0, sp p), (53, sp p), (64, sp p), (75, sp p), (82, sp p), (89, sp p), (48, (pO gr (0 + i * 5))), (49, (pO gr (0 + i * 5))), (50, (pO gr (0 + i * 5))), (51, (pO gr (0 + i * 5))), (52, (pO gr (0 + i * 5))), (57, avS (xO l i).key), (61, avS (xO l i).key), (68, avS (xO l i).product), (72, avS (xO l i).product), (79, avI (xO l i).count), (86, avI (xO l i).ready), (93, avI (xO l i).due), (97, avI (xO l i).due), (5, .v (.slice (some ⟨gr, 0, none⟩) l.length cap)), (62, (iO 4 [avS (xO l i).key, avS (xO l i).key, avS ⟨#[]⟩, avS ⟨#[111, 97]⟩])), (63, avS r63), (73, (iO 4 [avS (xO l i).product, avS (xO l i).product, avS ⟨#[122, 122]⟩, avS ⟨#[]⟩])), (74, avS r74), (80, (iO 3 [avI (xO l i).count, avI 0, avI 100001])), (81, avI r81), (87, (iO 3 [avI (xO l i).ready, avI (-1), avI 345686400000])), (98, (iO 3 [avI (xO l i).due, avI (xO l i).due, avI 345686400000]))], [.box gr ⟨rowL l, 35, cap * 5⟩], k + 1 + 4 * q + 1 + 1 + 1 + 1 + 1⟩ := by
          intro r63 hr63 r74 hr74 r81
          rw [hF]
          refine VA.all (rs := [40]) (by decide +kernel) (by decide) ?_
          refine ⟨⟨_, rfl, .inl rfl, ?_⟩, trivial⟩
          refine OpE.callT' (k + 1 + 4 * q + 1 + 1 + 1 + 1 + 1) rfl rfl hB rfl Tryz.call21 rfl (pick_X (by rfl) (by decide) (by decide) (by repeat (first | exact AllX.nil | refine AllX.cons ?_))) (by omega) ?_
          rintro _ ⟨r88, rfl⟩
          have hh := hS1 r63 hr63 r74 hr74 r81 r88
          rw [hF] at hh
          exact VA.to hh (by decide +kernel) (Le.mk hB [0] ⟨rfl, rfl, rfl, rfl, rfl, rfl, rfl, rfl, rfl, rfl, rfl, rfl, rfl, rfl, rfl, rfl, rfl, rfl, rfl, rfl, rfl, rfl, rfl, rfl, rfl, rfl, rfl, rfl, rfl, trivial⟩ rfl rfl (Nat.le_refl _))
        have hS4 : ∀ (r63 : ByteArray) (hr63 : r63.size ≤ 1000 ∧ r63 ≠ ozK) (r74 : ByteArray) (hr74 : r74.size ≤ 1000) (r81 : Int), F 18 (lstB 67 [0, 1, 2, 3, 4, 5, 6, 7, 8, 9, 10, 11, 12, 13, 14, 15, 16, 17, 18, 19, 20, 21, 22, 23, 24, 25, 26, 27, 28, 29, 30, 31, 32, 33, 34, 35, 36, 37, 38, 39, 41, 42, 43, 44, 45, 46, 47, 48, 49]) ⟨[(0, sp p), (53, sp p), (64, sp p), (75, sp p), (82, sp p), (89, sp p), (48, (pO gr (0 + i * 5))), (49, (pO gr (0 + i * 5))), (50, (pO gr (0 + i * 5))), (51, (pO gr (0 + i * 5))), (52, (pO gr (0 + i * 5))), (57, avS (xO l i).key), (61, avS (xO l i).key), (68, avS (xO l i).product), (72, avS (xO l i).product), (79, avI (xO l i).count), (86, avI (xO l i).ready), (93, avI (xO l i).due), (97, avI (xO l i).due), (5, .v (.slice (some ⟨gr, 0, none⟩) l.length cap)), (62, (iO 4 [avS (xO l i).key, avS (xO l i).key, avS ⟨#[]⟩, avS ⟨#[111, 97]⟩])), (63, avS r63), (73, (iO 4 [avS (xO l i).product, avS (xO l i).product, avS ⟨#[122, 122]⟩, avS ⟨#[]⟩])), (74, avS r74), (80, (iO 3 [avI (xO l i).count, avI 0, avI 100001])), (81, avI r81), (87, (iO 3 [avI (xO l i).ready, avI (-1), avI 345686400000]))], [.box gr ⟨rowL l, 35, cap * 5⟩], k + 1 + 4 * q + 1 + 1 + 1 + 1 + 1⟩ := by
          intro r63 hr63 r74 hr74 r81
          rw [hF]
          refine VA.all (rs := [40, 50]) (by decide +kernel) (by decide) ?_
          refine ⟨⟨_, rfl, .inl rfl, ?_⟩, ⟨_, rfl, .inl rfl, ?_⟩, trivial⟩
          ·
            refine OpE.callT' (k + 1 + 4 * q + 1 + 1 + 1 + 1 + 1) rfl rfl hB rfl Tryz.call21 rfl (pick_X (by rfl) (by decide) (by decide) (by repeat (first | exact AllX.nil | refine AllX.cons ?_))) (by omega) ?_
            rintro _ ⟨r88, rfl⟩
            have hh := hS2 r63 hr63 r74 hr74 r81 r88
            rw [hF] at hh
            exact VA.to hh (by decide +kernel) (Le.mk hB [0] ⟨rfl, rfl, rfl, rfl, rfl, rfl, rfl, rfl, rfl, rfl, rfl, rfl, rfl, rfl, rfl, rfl, rfl, rfl, rfl, rfl, rfl, rfl, rfl, rfl, rfl, rfl, rfl, rfl, trivial⟩ rfl rfl (Nat.le_refl _))
          ·
            refine OpE.buildSlice (zc := #[.int .i64 0, .int .i64 0, .int .i64 0]) rfl hB rfl Tryz.underlying22 Tryz.sizeOf3 Tryz.zeroValue3 (by decide) (by decide) (by kernel_rfl) rfl rfl ?_
            have hh := hS3 r63 hr63 r74 hr74 r81
            rw [hF] at hh
            exact VA.to hh (by decide +kernel) (Le.mk hB [0] ⟨rfl, rfl, rfl, rfl, rfl, rfl, rfl, rfl, rfl, rfl, rfl, rfl, rfl, rfl, rfl, rfl, rfl, rfl, rfl, rfl, rfl, rfl, rfl, rfl, rfl, rfl, rfl, rfl, trivial⟩ rfl rfl (Nat.le_refl _))
        have hS5 : ∀ (r63 : ByteArray) (hr63 : r63.size ≤ 1000 ∧ r63 ≠ ozK) (r74 : ByteArray) (hr74 : r74.size ≤ 1000) (r81 : Int), F 18 (lstB 67 [0, 1, 2, 3, 4, 5, 6, 7, 8, 9, 10, 11, 12, 13, 14, 15, 16, 17, 18, 19, 20, 21, 22, 23, 24, 25, 26, 27, 28, 29, 30, 31, 32, 33, 34, 35, 36, 37, 38, 41, 42, 43, 44, 45, 46, 47, 48, 49, 50]) ⟨[(0, sp p), (53, sp p), (64, sp p), (75, sp p), (82, sp p), (89, sp p), (48, (pO gr (0 + i * 5))), (49, (pO gr (0 + i * 5))), (50, (pO gr (0 + i * 5))), (51, (pO gr (0 + i * 5))), (52, (pO gr (0 + i * 5))), (57, avS (xO l i).key), (61, avS (xO l i).key), (68, avS (xO l i).product), (72, avS (xO l i).product), (79, avI (xO l i).count), (86, avI (xO l i).ready), (93, avI (xO l i).due), (97, avI (xO l i).due), (5, .v (.slice (some ⟨gr, 0, none⟩) l.length cap)), (62, (iO 4 [avS (xO l i).key, avS (xO l i).key, avS ⟨#[]⟩, avS ⟨#[111, 97]⟩])), (63, avS r63), (73, (iO 4 [avS (xO l i).product, avS (xO l i).product, avS ⟨#[122, 122]⟩, avS ⟨#[]⟩])), (74, avS r74), (80, (iO 3 [avI (xO l i).count, avI 0, avI 100001])), (81, avI r81), (98, (iO 3 [avI (xO l i).due, avI (xO l i).due, avI 345686400000]))], [.box gr ⟨rowL l, 35, cap * 5⟩], k + 1 + 4 * q + 1 + 1 + 1 + 1 + 1⟩ := by
          intro r63 hr63 r74 hr74 r81
          rw [hF]
          refine VA.all (rs := [39]) (by decide +kernel) (by decide) ?_
          refine ⟨⟨_, rfl, .inl rfl, ?_⟩, trivial⟩
          refine OpE.buildSlice (zc := #[.int .i64 0, .int .i64 0, .int .i64 0]) rfl hB rfl Tryz.underlying22 Tryz.sizeOf3 Tryz.zeroValue3 (by decide) (by decide) (by kernel_rfl) rfl rfl ?_
          have hh := hS3 r63 hr63 r74 hr74 r81
          rw [hF] at hh
          exact VA.to hh (by decide +kernel) (Le.mk hB [0] ⟨rfl, rfl, rfl, rfl, rfl, rfl, rfl, rfl, rfl, rfl, rfl, rfl, rfl, rfl, rfl, rfl, rfl, rfl, rfl, rfl, rfl, rfl, rfl, rfl, rfl, rfl, rfl, rfl, trivial⟩ rfl rfl (Nat.le_refl _))
        have hS6 : ∀ (r63 : ByteArray) (hr63 : r63.size ≤ 1000 ∧ r63 ≠ ozK) (r74 : ByteArray) (hr74 : r74.size ≤ 1000), F 18 (lstB 67 [0, 1, 2, 3, 4, 5, 6, 7, 8, 9, 10, 11, 12, 13, 14, 15, 16, 17, 18, 19, 20, 21, 22, 23, 24, 25, 26, 27, 28, 29, 30, 31, 32, 34, 35, 36, 37, 38, 39, 41, 42, 43, 44, 45, 46, 47, 48, 49, 50]) ⟨[(0, sp p), (53, sp p), (64, sp p), (75, sp p), (82, sp p), (89, sp p), (48, (pO gr (0 + i * 5))), (49, (pO gr (0 + i * 5))), (50, (pO gr (0 + i * 5))), (51, (pO gr (0 + i * 5))), (52, (pO gr (0 + i * 5))), (57, avS (xO l i).key), (61, avS (xO l i).key), (68, avS (xO l i).product), (72, avS (xO l i).product), (79, avI (xO l i).count), (86, avI (xO l i).ready), (93, avI (xO l i).due), (97, avI (xO l i).due), (5, .v (.slice (some ⟨gr, 0, none⟩) l.length cap)), (62, (iO 4 [avS (xO l i).key, avS (xO l i).key, avS ⟨#[]⟩, avS ⟨#[111, 97]⟩])), (63, avS r63), (73, (iO 4 [avS (xO l i).product, avS (xO l i).product, avS ⟨#[122, 122]⟩, avS ⟨#[]⟩])), (74, avS r74), (80, (iO 3 [avI (xO l i).count, avI 0, avI 100001])), (87, (iO 3 [avI (xO l i).ready, avI (-1), avI 345686400000])), (98, (iO 3 [avI (xO l i).due, avI (xO l i).due, avI 345686400000]))], [.box gr ⟨rowL l, 35, cap * 5⟩], k + 1 + 4 * q + 1 + 1 + 1 + 1⟩ := by
          intro r63 hr63 r74 hr74
          rw [hF]
          refine VA.all (rs := [33]) (by decide +kernel) (by decide) ?_
          refine ⟨⟨_, rfl, .inl rfl, ?_⟩, trivial⟩
          refine OpE.callT' (k + 1 + 4 * q + 1 + 1 + 1 + 1) rfl rfl hB rfl Tryz.call21 rfl (pick_X (by rfl) (by decide) (by decide) (by repeat (first | exact AllX.nil | refine AllX.cons ?_))) (by omega) ?_
          rintro _ ⟨r81, rfl⟩
          have hh := hS3 r63 hr63 r74 hr74 r81
          rw [hF] at hh
          exact VA.to hh (by decide +kernel) (Le.mk hB [0] ⟨rfl, rfl, rfl, rfl, rfl, rfl, rfl, rfl, rfl, rfl, rfl, rfl, rfl, rfl, rfl, rfl, rfl, rfl, rfl, rfl, rfl, rfl, rfl, rfl, rfl, rfl, rfl, rfl, trivial⟩ rfl rfl (Nat.le_refl _))
        have hS7 : ∀ (r63 : ByteArray) (hr63 : r63.size ≤ 1000 ∧ r63 ≠ ozK) (r74 : ByteArray) (hr74 : r74.size ≤ 1000) (r81 : Int), F 19 (lstB 67 [0, 1, 2, 3, 4, 5, 6, 7, 8, 9, 10, 11, 12, 13, 14, 15, 16, 17, 18, 19, 20, 21, 22, 23, 24, 25, 26, 27, 28, 29, 30, 31, 32, 33, 34, 35, 36, 37, 38, 41, 42, 43, 44, 45, 46, 47, 48, 49]) ⟨[(0, sp p), (53, sp p), (64, sp p), (75, sp p), (82, sp p), (89, sp p), (48, (pO gr (0 + i * 5))), (49, (pO gr (0 + i * 5))), (50, (pO gr (0 + i * 5))), (51, (pO gr (0 + i * 5))), (52, (pO gr (0 + i * 5))), (57, avS (xO l i).key), (61, avS (xO l i).key), (68, avS (xO l i).product), (72, avS (xO l i).product), (79, avI (xO l i).count), (86, avI (xO l i).ready), (93, avI (xO l i).due), (97, avI (xO l i).due), (5, .v (.slice (some ⟨gr, 0, none⟩) l.length cap)), (62, (iO 4 [avS (xO l i).key, avS (xO l i).key, avS ⟨#[]⟩, avS ⟨#[111, 97]⟩])), (63, avS r63), (73, (iO 4 [avS (xO l i).product, avS (xO l i).product, avS ⟨#[122, 122]⟩, avS ⟨#[]⟩])), (74, avS r74), (80, (iO 3 [avI (xO l i).count, avI 0, avI 100001])), (81, avI r81)], [.box gr ⟨rowL l, 35, cap * 5⟩], k + 1 + 4 * q + 1 + 1 + 1 + 1 + 1⟩ := by
          intro r63 hr63 r74 hr74 r81
          rw [hF]
          refine VA.all (rs := [39, 50]) (by decide +kernel) (by decide) ?_
          refine ⟨⟨_, rfl, .inl rfl, ?_⟩, ⟨_, rfl, .inl rfl, ?_⟩, trivial⟩
          ·
            refine OpE.buildSlice (zc := #[.int .i64 0, .int .i64 0, .int .i64 0]) rfl hB rfl Tryz.underlying22 Tryz.sizeOf3 Tryz.zeroValue3 (by decide) (by decide) (by kernel_rfl) rfl rfl ?_
            have hh := hS4 r63 hr63 r74 hr74 r81
            rw [hF] at hh
            exact VA.to hh (by decide +kernel) (Le.mk hB [0] ⟨rfl, rfl, rfl, rfl, rfl, rfl, rfl, rfl, rfl, rfl, rfl, rfl, rfl, rfl, rfl, rfl, rfl, rfl, rfl, rfl, rfl, rfl, rfl, rfl, rfl, rfl, rfl, trivial⟩ rfl rfl (Nat.le_refl _))
          ·
            refine OpE.buildSlice (zc := #[.int .i64 0, .int .i64 0, .int .i64 0]) rfl hB rfl Tryz.underlying22 Tryz.sizeOf3 Tryz.zeroValue3 (by decide) (by decide) (by kernel_rfl) rfl rfl ?_
            have hh := hS5 r63 hr63 r74 hr74 r81
            rw [hF] at hh
            exact VA.to hh (by decide +kernel) (Le.mk hB [0] ⟨rfl, rfl, rfl, rfl, rfl, rfl, rfl, rfl, rfl, rfl, rfl, rfl, rfl, rfl, rfl, rfl, rfl, rfl, rfl, rfl, rfl, rfl, rfl, rfl, rfl, rfl, rfl, trivial⟩ rfl rfl (Nat.le_refl _))
        have hS8 : ∀ (r63 : ByteArray) (hr63 : r63.size ≤ 1000 ∧ r63 ≠ ozK) (r74 : ByteArray) (hr74 : r74.size ≤ 1000), F 19 (lstB 67 [0, 1, 2, 3, 4, 5, 6, 7, 8, 9, 10, 11, 12, 13, 14, 15, 16, 17, 18, 19, 20, 21, 22, 23, 24, 25, 26, 27, 28, 29, 30, 31, 32, 34, 35, 36, 37, 38, 39, 41, 42, 43, 44, 45, 46, 47, 48, 49]) ⟨[(0, sp p), (53, sp p), (64, sp p), (75, sp p), (82, sp p), (89, sp p), (48, (pO gr (0 + i * 5))), (49, (pO gr (0 + i * 5))), (50, (pO gr (0 + i * 5))), (51, (pO gr (0 + i * 5))), (52, (pO gr (0 + i * 5))), (57, avS (xO l i).key), (61, avS (xO l i).key), (68, avS (xO l i).product), (72, avS (xO l i).product), (79, avI (xO l i).count), (86, avI (xO l i).ready), (93, avI (xO l i).due), (97, avI (xO l i).due), (5, .v (.slice (some ⟨gr, 0, none⟩) l.length cap)), (62, (iO 4 [avS (xO l i).key, avS (xO l i).key, avS ⟨#[]⟩, avS ⟨#[111, 97]⟩])), (63, avS r63), (73, (iO 4 [avS (xO l i).product, avS (xO l i).product, avS ⟨#[122, 122]⟩, avS ⟨#[]⟩])), (74, avS r74), (80, (iO 3 [avI (xO l i).count, avI 0, avI 100001])), (87, (iO 3 [avI (xO l i).ready, avI (-1), avI 345686400000]))], [.box gr ⟨rowL l, 35, cap * 5⟩], k + 1 + 4 * q + 1 + 1 + 1 + 1⟩ := by
          intro r63 hr63 r74 hr74
          rw [hF]
          refine VA.all (rs := [33, 50]) (by decide +kernel) (by decide) ?_
          refine ⟨⟨_, rfl, .inl rfl, ?_⟩, ⟨_, rfl, .inl rfl, ?_⟩, trivial⟩
          ·
            refine OpE.callT' (k + 1 + 4 * q + 1 + 1 + 1 + 1) rfl rfl hB rfl Tryz.call21 rfl (pick_X (by rfl) (by decide) (by decide) (by repeat (first | exact AllX.nil | refine AllX.cons ?_))) (by omega) ?_
            rintro _ ⟨r81, rfl⟩
            have hh := hS4 r63 hr63 r74 hr74 r81
            rw [hF] at hh
            exact VA.to hh (by decide +kernel) (Le.mk hB [0] ⟨rfl, rfl, rfl, rfl, rfl, rfl, rfl, rfl, rfl, rfl, rfl, rfl, rfl, rfl, rfl, rfl, rfl, rfl, rfl, rfl, rfl, rfl, rfl, rfl, rfl, rfl, rfl, trivial⟩ rfl rfl (Nat.le_refl _))
          ·
            refine OpE.buildSlice (zc := #[.int .i64 0, .int .i64 0, .int .i64 0]) rfl hB rfl Tryz.underlying22 Tryz.sizeOf3 Tryz.zeroValue3 (by decide) (by decide) (by kernel_rfl) rfl rfl ?_
            have hh := hS6 r63 hr63 r74 hr74
            rw [hF] at hh
            exact VA.to hh (by decide +kernel) (Le.mk hB [0] ⟨rfl, rfl, rfl, rfl, rfl, rfl, rfl, rfl, rfl, rfl, rfl, rfl, rfl, rfl, rfl, rfl, rfl, rfl, rfl, rfl, rfl, rfl, rfl, rfl, rfl, rfl, rfl, trivial⟩ rfl rfl (Nat.le_refl _))
        have hS9 : ∀ (r63 : ByteArray) (hr63 : r63.size ≤ 1000 ∧ r63 ≠ ozK) (r74 : ByteArray) (hr74 : r74.size ≤ 1000), F 19 (lstB 67 [0, 1, 2, 3, 4, 5, 6, 7, 8, 9, 10, 11, 12, 13, 14, 15, 16, 17, 18, 19, 20, 21, 22, 23, 24, 25, 26, 27, 28, 29, 30, 31, 32, 34, 35, 36, 37, 38, 41, 42, 43, 44, 45, 46, 47, 48, 49, 50]) ⟨[(0, sp p), (53, sp p), (64, sp p), (75, sp p), (82, sp p), (89, sp p), (48, (pO gr (0 + i * 5))), (49, (pO gr (0 + i * 5))), (50, (pO gr (0 + i * 5))), (51, (pO gr (0 + i * 5))), (52, (pO gr (0 + i * 5))), (57, avS (xO l i).key), (61, avS (xO l i).key), (68, avS (xO l i).product), (72, avS (xO l i).product), (79, avI (xO l i).count), (86, avI (xO l i).ready), (93, avI (xO l i).due), (97, avI (xO l i).due), (5, .v (.slice (some ⟨gr, 0, none⟩) l.length cap)), (62, (iO 4 [avS (xO l i).key, avS (xO l i).key, avS ⟨#[]⟩, avS ⟨#[111, 97]⟩])), (63, avS r63), (73, (iO 4 [avS (xO l i).product, avS (xO l i).product, avS ⟨#[122, 122]⟩, avS ⟨#[]⟩])), (74, avS r74), (80, (iO 3 [avI (xO l i).count, avI 0, avI 100001])), (98, (iO 3 [avI (xO l i).due, avI (xO l i).due, avI 345686400000]))], [.box gr ⟨rowL l, 35, cap * 5⟩], k + 1 + 4 * q + 1 + 1 + 1 + 1⟩ := by
          intro r63 hr63 r74 hr74
          rw [hF]
          refine VA.all (rs := [33, 39]) (by decide +kernel) (by decide) ?_
          refine ⟨⟨_, rfl, .inl rfl, ?_⟩, ⟨_, rfl, .inl rfl, ?_⟩, trivial⟩
          ·
            refine OpE.callT' (k + 1 + 4 * q + 1 + 1 + 1 + 1) rfl rfl hB rfl Tryz.call21 rfl (pick_X (by rfl) (by decide) (by decide) (by repeat (first | exact AllX.nil | refine AllX.cons ?_))) (by omega) ?_
            rintro _ ⟨r81, rfl⟩
            have hh := hS5 r63 hr63 r74 hr74 r81
            rw [hF] at hh
            exact VA.to hh (by decide +kernel) (Le.mk hB [0] ⟨rfl, rfl, rfl, rfl, rfl, rfl, rfl, rfl, rfl, rfl, rfl, rfl, rfl, rfl, rfl, rfl, rfl, rfl, rfl, rfl, rfl, rfl, rfl, rfl, rfl, rfl, rfl, trivial⟩ rfl rfl (Nat.le_refl _))
          ·
            refine OpE.buildSlice (zc := #[.int .i64 0, .int .i64 0, .int .i64 0]) rfl hB rfl Tryz.underlying22 Tryz.sizeOf3 Tryz.zeroValue3 (by decide) (by decide) (by kernel_rfl) rfl rfl ?_
            have hh := hS6 r63 hr63 r74 hr74
            rw [hF] at hh
            exact VA.to hh (by decide +kernel) (Le.mk hB [0] ⟨rfl, rfl, rfl, rfl, rfl, rfl, rfl, rfl, rfl, rfl, rfl, rfl, rfl, rfl, rfl, rfl, rfl, rfl, rfl, rfl, rfl, rfl, rfl, rfl, rfl, rfl, rfl, trivial⟩ rfl rfl (Nat.le_refl _))
        have hS10 : ∀ (r63 : ByteArray) (hr63 : r63.size ≤ 1000 ∧ r63 ≠ ozK) (r74 : ByteArray) (hr74 : r74.size ≤ 1000), F 19 (lstB 67 [0, 1, 2, 3, 4, 5, 6, 7, 8, 9, 10, 11, 12, 13, 14, 15, 16, 17, 18, 19, 20, 21, 22, 23, 24, 25, 26, 27, 28, 29, 30, 31, 34, 35, 36, 37, 38, 39, 41, 42, 43, 44, 45, 46, 47, 48, 49, 50]) ⟨[(0, sp p), (53, sp p), (64, sp p), (75, sp p), (82, sp p), (89, sp p), (48, (pO gr (0 + i * 5))), (49, (pO gr (0 + i * 5))), (50, (pO gr (0 + i * 5))), (51, (pO gr (0 + i * 5))), (52, (pO gr (0 + i * 5))), (57, avS (xO l i).key), (61, avS (xO l i).key), (68, avS (xO l i).product), (72, avS (xO l i).product), (79, avI (xO l i).count), (86, avI (xO l i).ready), (93, avI (xO l i).due), (97, avI (xO l i).due), (5, .v (.slice (some ⟨gr, 0, none⟩) l.length cap)), (62, (iO 4 [avS (xO l i).key, avS (xO l i).key, avS ⟨#[]⟩, avS ⟨#[111, 97]⟩])), (63, avS r63), (73, (iO 4 [avS (xO l i).product, avS (xO l i).product, avS ⟨#[122, 122]⟩, avS ⟨#[]⟩])), (74, avS r74), (87, (iO 3 [avI (xO l i).ready, avI (-1), avI 345686400000])), (98, (iO 3 [avI (xO l i).due, avI (xO l i).due, avI 345686400000]))], [.box gr ⟨rowL l, 35, cap * 5⟩], k + 1 + 4 * q + 1 + 1 + 1 + 1⟩ := by
          intro r63 hr63 r74 hr74
          rw [hF]
          refine VA.all (rs := [32]) (by decide +kernel) (by decide) ?_
          refine ⟨⟨_, rfl, .inl rfl, ?_⟩, trivial⟩
          refine OpE.buildSlice (zc := #[.int .i64 0, .int .i64 0, .int .i64 0]) rfl hB rfl Tryz.underlying22 Tryz.sizeOf3 Tryz.zeroValue3 (by decide) (by decide) (by kernel_rfl) rfl rfl ?_
          have hh := hS6 r63 hr63 r74 hr74
          rw [hF] at hh
          exact VA.to hh (by decide +kernel) (Le.mk hB [0] ⟨rfl, rfl, rfl, rfl, rfl, rfl, rfl, rfl, rfl, rfl, rfl, rfl, rfl, rfl, rfl, rfl, rfl, rfl, rfl, rfl, rfl, rfl, rfl, rfl, rfl, rfl, rfl, trivial⟩ rfl rfl (Nat.le_refl _))
        have hS11 : ∀ (r63 : ByteArray) (hr63 : r63.size ≤ 1000 ∧ r63 ≠ ozK), F 19 (lstB 67 [0, 1, 2, 3, 4, 5, 6, 7, 8, 9, 10, 11, 12, 13, 14, 15, 16, 17, 18, 19, 20, 21, 22, 23, 24, 25, 27, 28, 29, 30, 31, 32, 34, 35, 36, 37, 38, 39, 41, 42, 43, 44, 45, 46, 47, 48, 49, 50]) ⟨[(0, sp p), (53, sp p), (64, sp p), (75, sp p), (82, sp p), (89, sp p), (48, (pO gr (0 + i * 5))), (49, (pO gr (0 + i * 5))), (50, (pO gr (0 + i * 5))), (51, (pO gr (0 + i * 5))), (52, (pO gr (0 + i * 5))), (57, avS (xO l i).key), (61, avS (xO l i).key), (68, avS (xO l i).product), (72, avS (xO l i).product), (79, avI (xO l i).count), (86, avI (xO l i).ready), (93, avI (xO l i).due), (97, avI (xO l i).due), (5, .v (.slice (some ⟨gr, 0, none⟩) l.length cap)), (62, (iO 4 [avS (xO l i).key, avS (xO l i).key, avS ⟨#[]⟩, avS ⟨#[111, 97]⟩])), (63, avS r63), (73, (iO 4 [avS (xO l i).product, avS (xO l i).product, avS ⟨#[122, 122]⟩, avS ⟨#[]⟩])), (80, (iO 3 [avI (xO l i).count, avI 0, avI 100001])), (87, (iO 3 [avI (xO l i).ready, avI (-1), avI 345686400000])), (98, (iO 3 [avI (xO l i).due, avI (xO l i).due, avI 345686400000]))], [.box gr ⟨rowL l, 35, cap * 5⟩], k + 1 + 4 * q + 1 + 1 + 1⟩ := by
          intro r63 hr63
          rw [hF]
          refine VA.all (rs := [26]) (by decide +kernel) (by decide) ?_
          refine ⟨⟨_, rfl, .inl rfl, ?_⟩, trivial⟩
          refine OpE.callT' (k + 1 + 4 * q + 1 + 1 + 1) rfl rfl hB rfl Tryz.call32 rfl (some_T 1000 (by rfl) (by decide) (by decide) (AllS.cons (hok.getD i).2.1 (AllS.cons (hok.getD i).2.1 (AllS.cons (by decide) (AllS.cons (by decide) AllS.nil))))) (by omega) ?_
          rintro _ ⟨r74, hr74, rfl⟩
          have hh := hS6 r63 hr63 r74 hr74
          rw [hF] at hh
          exact VA.to hh (by decide +kernel) (Le.mk hB [0] ⟨rfl, rfl, rfl, rfl, rfl, rfl, rfl, rfl, rfl, rfl, rfl, rfl, rfl, rfl, rfl, rfl, rfl, rfl, rfl, rfl, rfl, rfl, rfl, rfl, rfl, rfl, rfl, trivial⟩ rfl rfl (Nat.le_refl _))
        have hS12 : ∀ (r63 : ByteArray) (hr63 : r63.size ≤ 1000 ∧ r63 ≠ ozK) (r74 : ByteArray) (hr74 : r74.size ≤ 1000), F 20 (lstB 67 [0, 1, 2, 3, 4, 5, 6, 7, 8, 9, 10, 11, 12, 13, 14, 15, 16, 17, 18, 19, 20, 21, 22, 23, 24, 25, 26, 27, 28, 29, 30, 31, 32, 34, 35, 36, 37, 38, 41, 42, 43, 44, 45, 46, 47, 48, 49]) ⟨[(0, sp p), (53, sp p), (64, sp p), (75, sp p), (82, sp p), (89, sp p), (48, (pO gr (0 + i * 5))), (49, (pO gr (0 + i * 5))), (50, (pO gr (0 + i * 5))), (51, (pO gr (0 + i * 5))), (52, (pO gr (0 + i * 5))), (57, avS (xO l i).key), (61, avS (xO l i).key), (68, avS (xO l i).product), (72, avS (xO l i).product), (79, avI (xO l i).count), (86, avI (xO l i).ready), (93, avI (xO l i).due), (97, avI (xO l i).due), (5, .v (.slice (some ⟨gr, 0, none⟩) l.length cap)), (62, (iO 4 [avS (xO l i).key, avS (xO l i).key, avS ⟨#[]⟩, avS ⟨#[111, 97]⟩])), (63, avS r63), (73, (iO 4 [avS (xO l i).product, avS (xO l i).product, avS ⟨#[122, 122]⟩, avS ⟨#[]⟩])), (74, avS r74), (80, (iO 3 [avI (xO l i).count, avI 0, avI 100001]))], [.box gr ⟨rowL l, 35, cap * 5⟩], k + 1 + 4 * q + 1 + 1 + 1 + 1⟩ := by
          intro r63 hr63 r74 hr74
          rw [hF]
          refine VA.all (rs := [33, 39, 50]) (by decide +kernel) (by decide) ?_
          refine ⟨⟨_, rfl, .inl rfl, ?_⟩, ⟨_, rfl, .inl rfl, ?_⟩, ⟨_, rfl, .inl rfl, ?_⟩, trivial⟩
          ·
            refine OpE.callT' (k + 1 + 4 * q + 1 + 1 + 1 + 1) rfl rfl hB rfl Tryz.call21 rfl (pick_X (by rfl) (by decide) (by decide) (by repeat (first | exact AllX.nil | refine AllX.cons ?_))) (by omega) ?_
            rintro _ ⟨r81, rfl⟩
            have hh := hS7 r63 hr63 r74 hr74 r81
            rw [hF] at hh
            exact VA.to hh (by decide +kernel) (Le.mk hB [0] ⟨rfl, rfl, rfl, rfl, rfl, rfl, rfl, rfl, rfl, rfl, rfl, rfl, rfl, rfl, rfl, rfl, rfl, rfl, rfl, rfl, rfl, rfl, rfl, rfl, rfl, rfl, trivial⟩ rfl rfl (Nat.le_refl _))
          ·
            refine OpE.buildSlice (zc := #[.int .i64 0, .int .i64 0, .int .i64 0]) rfl hB rfl Tryz.underlying22 Tryz.sizeOf3 Tryz.zeroValue3 (by decide) (by decide) (by kernel_rfl) rfl rfl ?_
            have hh := hS8 r63 hr63 r74 hr74
            rw [hF] at hh
            exact VA.to hh (by decide +kernel) (Le.mk hB [0] ⟨rfl, rfl, rfl, rfl, rfl, rfl, rfl, rfl, rfl, rfl, rfl, rfl, rfl, rfl, rfl, rfl, rfl, rfl, rfl, rfl, rfl, rfl, rfl, rfl, rfl, rfl, trivial⟩ rfl rfl (Nat.le_refl _))
          ·
            refine OpE.buildSlice (zc := #[.int .i64 0, .int .i64 0, .int .i64 0]) rfl hB rfl Tryz.underlying22 Tryz.sizeOf3 Tryz.zeroValue3 (by decide) (by decide) (by kernel_rfl) rfl rfl ?_
            have hh := hS9 r63 hr63 r74 hr74
            rw [hF] at hh
            exact VA.to hh (by decide +kernel) (Le.mk hB [0] ⟨rfl, rfl, rfl, rfl, rfl, rfl, rfl, rfl, rfl, rfl, rfl, rfl, rfl, rfl, rfl, rfl, rfl, rfl, rfl, rfl, rfl, rfl, rfl, rfl, rfl, rfl, trivial⟩ rfl rfl (Nat.le_refl _))
        have hS13 : ∀ (r63 : ByteArray) (hr63 : r63.size ≤ 1000 ∧ r63 ≠ ozK) (r74 : ByteArray) (hr74 : r74.size ≤ 1000), F 20 (lstB 67 [0, 1, 2, 3, 4, 5, 6, 7, 8, 9, 10, 11, 12, 13, 14, 15, 16, 17, 18, 19, 20, 21, 22, 23, 24, 25, 26, 27, 28, 29, 30, 31, 34, 35, 36, 37, 38, 39, 41, 42, 43, 44, 45, 46, 47, 48, 49]) ⟨[(0, sp p), (53, sp p), (64, sp p), (75, sp p), (82, sp p), (89, sp p), (48, (pO gr (0 + i * 5))), (49, (pO gr (0 + i * 5))), (50, (pO gr (0 + i * 5))), (51, (pO gr (0 + i * 5))), (52, (pO gr (0 + i * 5))), (57, avS (xO l i).key), (61, avS (xO l i).key), (68, avS (xO l i).product), (72, avS (xO l i).product), (79, avI (xO l i).count), (86, avI (xO l i).ready), (93, avI (xO l i).due), (97, avI (xO l i).due), (5, .v (.slice (some ⟨gr, 0, none⟩) l.length cap)), (62, (iO 4 [avS (xO l i).key, avS (xO l i).key, avS ⟨#[]⟩, avS ⟨#[111, 97]⟩])), (63, avS r63), (73, (iO 4 [avS (xO l i).product, avS (xO l i).product, avS ⟨#[122, 122]⟩, avS ⟨#[]⟩])), (74, avS r74), (87, (iO 3 [avI (xO l i).ready, avI (-1), avI 345686400000]))], [.box gr ⟨rowL l, 35, cap * 5⟩], k + 1 + 4 * q + 1 + 1 + 1 + 1⟩ := by
          intro r63 hr63 r74 hr74
          rw [hF]
          refine VA.all (rs := [32, 50]) (by decide +kernel) (by decide) ?_
          refine ⟨⟨_, rfl, .inl rfl, ?_⟩, ⟨_, rfl, .inl rfl, ?_⟩, trivial⟩
          ·
            refine OpE.buildSlice (zc := #[.int .i64 0, .int .i64 0, .int .i64 0]) rfl hB rfl Tryz.underlying22 Tryz.sizeOf3 Tryz.zeroValue3 (by decide) (by decide) (by kernel_rfl) rfl rfl ?_
            have hh := hS8 r63 hr63 r74 hr74
            rw [hF] at hh
            exact VA.to hh (by decide +kernel) (Le.mk hB [0] ⟨rfl, rfl, rfl, rfl, rfl, rfl, rfl, rfl, rfl, rfl, rfl, rfl, rfl, rfl, rfl, rfl, rfl, rfl, rfl, rfl, rfl, rfl, rfl, rfl, rfl, rfl, trivial⟩ rfl rfl (Nat.le_refl _))
          ·
            refine OpE.buildSlice (zc := #[.int .i64 0, .int .i64 0, .int .i64 0]) rfl hB rfl Tryz.underlying22 Tryz.sizeOf3 Tryz.zeroValue3 (by decide) (by decide) (by kernel_rfl) rfl rfl ?_
            have hh := hS10 r63 hr63 r74 hr74
            rw [hF] at hh
            exact VA.to hh (by decide +kernel) (Le.mk hB [0] ⟨rfl, rfl, rfl, rfl, rfl, rfl, rfl, rfl, rfl, rfl, rfl, rfl, rfl, rfl, rfl, rfl, rfl, rfl, rfl, rfl, rfl, rfl, rfl, rfl, rfl, rfl, trivial⟩ rfl rfl (Nat.le_refl _))
        have hS14 : ∀ (r63 : ByteArray) (hr63 : r63.size ≤ 1000 ∧ r63 ≠ ozK) (r74 : ByteArray) (hr74 : r74.size ≤ 1000), F 20 (lstB 67 [0, 1, 2, 3, 4, 5, 6, 7, 8, 9, 10, 11, 12, 13, 14, 15, 16, 17, 18, 19, 20, 21, 22, 23, 24, 25, 26, 27, 28, 29, 30, 31, 34, 35, 36, 37, 38, 41, 42, 43, 44, 45, 46, 47, 48, 49, 50]) ⟨[(0, sp p), (53, sp p), (64, sp p), (75, sp p), (82, sp p), (89, sp p), (48, (pO gr (0 + i * 5))), (49, (pO gr (0 + i * 5))), (50, (pO gr (0 + i * 5))), (51, (pO gr (0 + i * 5))), (52, (pO gr (0 + i * 5))), (57, avS (xO l i).key), (61, avS (xO l i).key), (68, avS (xO l i).product), (72, avS (xO l i).product), (79, avI (xO l i).count), (86, avI (xO l i).ready), (93, avI (xO l i).due), (97, avI (xO l i).due), (5, .v (.slice (some ⟨gr, 0, none⟩) l.length cap)), (62, (iO 4 [avS (xO l i).key, avS (xO l i).key, avS ⟨#[]⟩, avS ⟨#[111, 97]⟩])), (63, avS r63), (73, (iO 4 [avS (xO l i).product, avS (xO l i).product, avS ⟨#[122, 122]⟩, avS ⟨#[]⟩])), (74, avS r74), (98, (iO 3 [avI (xO l i).due, avI (xO l i).due, avI 345686400000]))], [.box gr ⟨rowL l, 35, cap * 5⟩], k + 1 + 4 * q + 1 + 1 + 1 + 1⟩ := by
          intro r63 hr63 r74 hr74
          rw [hF]
          refine VA.all (rs := [32, 39]) (by decide +kernel) (by decide) ?_
          refine ⟨⟨_, rfl, .inl rfl, ?_⟩, ⟨_, rfl, .inl rfl, ?_⟩, trivial⟩
          ·
            refine OpE.buildSlice (zc := #[.int .i64 0, .int .i64 0, .int .i64 0]) rfl hB rfl Tryz.underlying22 Tryz.sizeOf3 Tryz.zeroValue3 (by decide) (by decide) (by kernel_rfl) rfl rfl ?_
            have hh := hS9 r63 hr63 r74 hr74
            rw [hF] at hh
            exact VA.to hh (by decide +kernel) (Le.mk hB [0] ⟨rfl, rfl, rfl, rfl, rfl, rfl, rfl, rfl, rfl, rfl, rfl, rfl, rfl, rfl, rfl, rfl, rfl, rfl, rfl, rfl, rfl, rfl, rfl, rfl, rfl, rfl, trivial⟩ rfl rfl (Nat.le_refl _))
          ·
            refine OpE.buildSlice (zc := #[.int .i64 0, .int .i64 0, .int .i64 0]) rfl hB rfl Tryz.underlying22 Tryz.sizeOf3 Tryz.zeroValue3 (by decide) (by decide) (by kernel_rfl) rfl rfl ?_
            have hh := hS10 r63 hr63 r74 hr74
            rw [hF] at hh
            exact VA.to hh (by decide +kernel) (Le.mk hB [0] ⟨rfl, rfl, rfl, rfl, rfl, rfl, rfl, rfl, rfl, rfl, rfl, rfl, rfl, rfl, rfl, rfl, rfl, rfl, rfl, rfl, rfl, rfl, rfl, rfl, rfl, rfl, trivial⟩ rfl rfl (Nat.le_refl _))
        have hS15 : ∀ (r63 : ByteArray) (hr63 : r63.size ≤ 1000 ∧ r63 ≠ ozK), F 20 (lstB 67 [0, 1, 2, 3, 4, 5, 6, 7, 8, 9, 10, 11, 12, 13, 14, 15, 16, 17, 18, 19, 20, 21, 22, 23, 24, 25, 27, 28, 29, 30, 31, 32, 34, 35, 36, 37, 38, 39, 41, 42, 43, 44, 45, 46, 47, 48, 49]) ⟨[(0, sp p), (53, sp p), (64, sp p), (75, sp p), (82, sp p), (89, sp p), (48, (pO gr (0 + i * 5))), (49, (pO gr (0 + i * 5))), (50, (pO gr (0 + i * 5))), (51, (pO gr (0 + i * 5))), (52, (pO gr (0 + i * 5))), (57, avS (xO l i).key), (61, avS (xO l i).key), (68, avS (xO l i).product), (72, avS (xO l i).product), (79, avI (xO l i).count), (86, avI (xO l i).ready), (93, avI (xO l i).due), (97, avI (xO l i).due), (5, .v (.slice (some ⟨gr, 0, none⟩) l.length cap)), (62, (iO 4 [avS (xO l i).key, avS (xO l i).key, avS ⟨#[]⟩, avS ⟨#[111, 97]⟩])), (63, avS r63), (73, (iO 4 [avS (xO l i).product, avS (xO l i).product, avS ⟨#[122, 122]⟩, avS ⟨#[]⟩])), (80, (iO 3 [avI (xO l i).count, avI 0, avI 100001])), (87, (iO 3 [avI (xO l i).ready, avI (-1), avI 345686400000]))], [.box gr ⟨rowL l, 35, cap * 5⟩], k + 1 + 4 * q + 1 + 1 + 1⟩ := by
          intro r63 hr63
          rw [hF]
          refine VA.all (rs := [26, 50]) (by decide +kernel) (by decide) ?_
          refine ⟨⟨_, rfl, .inl rfl, ?_⟩, ⟨_, rfl, .inl rfl, ?_⟩, trivial⟩
          ·
            refine OpE.callT' (k + 1 + 4 * q + 1 + 1 + 1) rfl rfl hB rfl Tryz.call32 rfl (some_T 1000 (by rfl) (by decide) (by decide) (AllS.cons (hok.getD i).2.1 (AllS.cons (hok.getD i).2.1 (AllS.cons (by decide) (AllS.cons (by decide) AllS.nil))))) (by omega) ?_
            rintro _ ⟨r74, hr74, rfl⟩
            have hh := hS8 r63 hr63 r74 hr74
            rw [hF] at hh
            exact VA.to hh (by decide +kernel) (Le.mk hB [0] ⟨rfl, rfl, rfl, rfl, rfl, rfl, rfl, rfl, rfl, rfl, rfl, rfl, rfl, rfl, rfl, rfl, rfl, rfl, rfl, rfl, rfl, rfl, rfl, rfl, rfl, rfl, trivial⟩ rfl rfl (Nat.le_refl _))
          ·
            refine OpE.buildSlice (zc := #[.int .i64 0, .int .i64 0, .int .i64 0]) rfl hB rfl Tryz.underlying22 Tryz.sizeOf3 Tryz.zeroValue3 (by decide) (by decide) (by kernel_rfl) rfl rfl ?_
            have hh := hS11 r63 hr63
            rw [hF] at hh
            exact VA.to hh (by decide +kernel) (Le.mk hB [0] ⟨rfl, rfl, rfl, rfl, rfl, rfl, rfl, rfl, rfl, rfl, rfl, rfl, rfl, rfl, rfl, rfl, rfl, rfl, rfl, rfl, rfl, rfl, rfl, rfl, rfl, rfl, trivial⟩ rfl rfl (Nat.le_refl _))
        have hS16 : ∀ (r63 : ByteArray) (hr63 : r63.size ≤ 1000 ∧ r63 ≠ ozK), F 20 (lstB 67 [0, 1, 2, 3, 4, 5, 6, 7, 8, 9, 10, 11, 12, 13, 14, 15, 16, 17, 18, 19, 20, 21, 22, 23, 24, 25, 27, 28, 29, 30, 31, 32, 34, 35, 36, 37, 38, 41, 42, 43, 44, 45, 46, 47, 48, 49, 50]) ⟨[(0, sp p), (53, sp p), (64, sp p), (75, sp p), (82, sp p), (89, sp p), (48, (pO gr (0 + i * 5))), (49, (pO gr (0 + i * 5))), (50, (pO gr (0 + i * 5))), (51, (pO gr (0 + i * 5))), (52, (pO gr (0 + i * 5))), (57, avS (xO l i).key), (61, avS (xO l i).key), (68, avS (xO l i).product), (72, avS (xO l i).product), (79, avI (xO l i).count), (86, avI (xO l i).ready), (93, avI (xO l i).due), (97, avI (xO l i).due), (5, .v (.slice (some ⟨gr, 0, none⟩) l.length cap)), (62, (iO 4 [avS (xO l i).key, avS (xO l i).key, avS ⟨#[]⟩, avS ⟨#[111, 97]⟩])), (63, avS r63), (73, (iO 4 [avS (xO l i).product, avS (xO l i).product, avS ⟨#[122, 122]⟩, avS ⟨#[]⟩])), (80, (iO 3 [avI (xO l i).count, avI 0, avI 100001])), (98, (iO 3 [avI (xO l i).due, avI (xO l i).due, avI 345686400000]))], [.box gr ⟨rowL l, 35, cap * 5⟩], k + 1 + 4 * q + 1 + 1 + 1⟩ := by
          intro r63 hr63
          rw [hF]
          refine VA.all (rs := [26, 39]) (by decide +kernel) (by decide) ?_
          refine ⟨⟨_, rfl, .inl rfl, ?_⟩, ⟨_, rfl, .inl rfl, ?_⟩, trivial⟩
          ·
            refine OpE.callT' (k + 1 + 4 * q + 1 + 1 + 1) rfl rfl hB rfl Tryz.call32 rfl (some_T 1000 (by rfl) (by decide) (by decide) (AllS.cons (hok.getD i).2.1 (AllS.cons (hok.getD i).2.1 (AllS.cons (by decide) (AllS.cons (by decide) AllS.nil))))) (by omega) ?_
            rintro _ ⟨r74, hr74, rfl⟩
            have hh := hS9 r63 hr63 r74 hr74
            rw [hF] at hh
            exact VA.to hh (by decide +kernel) (Le.mk hB [0] ⟨rfl, rfl, rfl, rfl, rfl, rfl, rfl, rfl, rfl, rfl, rfl, rfl, rfl, rfl, rfl, rfl, rfl, rfl, rfl, rfl, rfl, rfl, rfl, rfl, rfl, rfl, trivial⟩ rfl rfl (Nat.le_refl _))
          ·
            refine OpE.buildSlice (zc := #[.int .i64 0, .int .i64 0, .int .i64 0]) rfl hB rfl Tryz.underlying22 Tryz.sizeOf3 Tryz.zeroValue3 (by decide) (by decide) (by kernel_rfl) rfl rfl ?_
            have hh := hS11 r63 hr63
            rw [hF] at hh
            exact VA.to hh (by decide +kernel) (Le.mk hB [0] ⟨rfl, rfl, rfl, rfl, rfl, rfl, rfl, rfl, rfl, rfl, rfl, rfl, rfl, rfl, rfl, rfl, rfl, rfl, rfl, rfl, rfl, rfl, rfl, rfl, rfl, rfl, trivial⟩ rfl rfl (Nat.le_refl _))
        have hS17 : ∀ (r63 : ByteArray) (hr63 : r63.size ≤ 1000 ∧ r63 ≠ ozK), F 20 (lstB 67 [0, 1, 2, 3, 4, 5, 6, 7, 8, 9, 10, 11, 12, 13, 14, 15, 16, 17, 18, 19, 20, 21, 22, 23, 24, 25, 27, 28, 29, 30, 31, 34, 35, 36, 37, 38, 39, 41, 42, 43, 44, 45, 46, 47, 48, 49, 50]) ⟨[(0, sp p), (53, sp p), (64, sp p), (75, sp p), (82, sp p), (89, sp p), (48, (pO gr (0 + i * 5))), (49, (pO gr (0 + i * 5))), (50, (pO gr (0 + i * 5))), (51, (pO gr (0 + i * 5))), (52, (pO gr (0 + i * 5))), (57, avS (xO l i).key), (61, avS (xO l i).key), (68, avS (xO l i).product), (72, avS (xO l i).product), (79, avI (xO l i).count), (86, avI (xO l i).ready), (93, avI (xO l i).due), (97, avI (xO l i).due), (5, .v (.slice (some ⟨gr, 0, none⟩) l.length cap)), (62, (iO 4 [avS (xO l i).key, avS (xO l i).key, avS ⟨#[]⟩, avS ⟨#[111, 97]⟩])), (63, avS r63), (73, (iO 4 [avS (xO l i).product, avS (xO l i).product, avS ⟨#[122, 122]⟩, avS ⟨#[]⟩])), (87, (iO 3 [avI (xO l i).ready, avI (-1), avI 345686400000])), (98, (iO 3 [avI (xO l i).due, avI (xO l i).due, avI 345686400000]))], [.box gr ⟨rowL l, 35, cap * 5⟩], k + 1 + 4 * q + 1 + 1 + 1⟩ := by
          intro r63 hr63
          rw [hF]
          refine VA.all (rs := [26, 32]) (by decide +kernel) (by decide) ?_
          refine ⟨⟨_, rfl, .inl rfl, ?_⟩, ⟨_, rfl, .inl rfl, ?_⟩, trivial⟩
          ·
            refine OpE.callT' (k + 1 + 4 * q + 1 + 1 + 1) rfl rfl hB rfl Tryz.call32 rfl (some_T 1000 (by rfl) (by decide) (by decide) (AllS.cons (hok.getD i).2.1 (AllS.cons (hok.getD i).2.1 (AllS.cons (by decide) (AllS.cons (by decide) AllS.nil))))) (by omega) ?_
            rintro _ ⟨r74, hr74, rfl⟩
            have hh := hS10 r63 hr63 r74 hr74
            rw [hF] at hh
            exact VA.to hh (by decide +kernel) (Le.mk hB [0] ⟨rfl, rfl, rfl, rfl, rfl, rfl, rfl, rfl, rfl, rfl, rfl, rfl, rfl, rfl, rfl, rfl, rfl, rfl, rfl, rfl, rfl, rfl, rfl, rfl, rfl, rfl, trivial⟩ rfl rfl (Nat.le_refl _))
          ·
            refine OpE.buildSlice (zc := #[.int .i64 0, .int .i64 0, .int .i64 0]) rfl hB rfl Tryz.underlying22 Tryz.sizeOf3 Tryz.zeroValue3 (by decide) (by decide) (by kernel_rfl) rfl rfl ?_
            have hh := hS11 r63 hr63
            rw [hF] at hh
            exact VA.to hh (by decide +kernel) (Le.mk hB [0] ⟨rfl, rfl, rfl, rfl, rfl, rfl, rfl, rfl, rfl, rfl, rfl, rfl, rfl, rfl, rfl, rfl, rfl, rfl, rfl, rfl, rfl, rfl, rfl, rfl, rfl, rfl, trivial⟩ rfl rfl (Nat.le_refl _))
        have hS18 : ∀ (r63 : ByteArray) (hr63 : r63.size ≤ 1000 ∧ r63 ≠ ozK), F 20 (lstB 67 [0, 1, 2, 3, 4, 5, 6, 7, 8, 9, 10, 11, 12, 13, 14, 15, 16, 17, 18, 19, 20, 21, 22, 23, 24, 27, 28, 29, 30, 31, 32, 34, 35, 36, 37, 38, 39, 41, 42, 43, 44, 45, 46, 47, 48, 49, 50]) ⟨[(0, sp p), (53, sp p), (64, sp p), (75, sp p), (82, sp p), (89, sp p), (48, (pO gr (0 + i * 5))), (49, (pO gr (0 + i * 5))), (50, (pO gr (0 + i * 5))), (51, (pO gr (0 + i * 5))), (52, (pO gr (0 + i * 5))), (57, avS (xO l i).key), (61, avS (xO l i).key), (68, avS (xO l i).product), (72, avS (xO l i).product), (79, avI (xO l i).count), (86, avI (xO l i).ready), (93, avI (xO l i).due), (97, avI (xO l i).due), (5, .v (.slice (some ⟨gr, 0, none⟩) l.length cap)), (62, (iO 4 [avS (xO l i).key, avS (xO l i).key, avS ⟨#[]⟩, avS ⟨#[111, 97]⟩])), (63, avS r63), (80, (iO 3 [avI (xO l i).count, avI 0, avI 100001])), (87, (iO 3 [avI (xO l i).ready, avI (-1), avI 345686400000])), (98, (iO 3 [avI (xO l i).due, avI (xO l i).due, avI 345686400000]))], [.box gr ⟨rowL l, 35, cap * 5⟩], k + 1 + 4 * q + 1 + 1 + 1⟩ := by
          intro r63 hr63
          rw [hF]
          refine VA.all (rs := [25]) (by decide +kernel) (by decide) ?_
          refine ⟨⟨_, rfl, .inl rfl, ?_⟩, trivial⟩
          refine OpE.buildSlice (zc := #[.string ⟨#[]⟩, .string ⟨#[]⟩, .string ⟨#[]⟩, .string ⟨#[]⟩]) rfl hB rfl Tryz.underlying95 Tryz.sizeOf9 Tryz.zeroValue9 (by decide) (by decide) (by kernel_rfl) rfl rfl ?_
          have hh := hS11 r63 hr63
          rw [hF] at hh
          exact VA.to hh (by decide +kernel) (Le.mk hB [0] ⟨rfl, rfl, rfl, rfl, rfl, rfl, rfl, rfl, rfl, rfl, rfl, rfl, rfl, rfl, rfl, rfl, rfl, rfl, rfl, rfl, rfl, rfl, rfl, rfl, rfl, rfl, trivial⟩ rfl rfl (Nat.le_refl _))
        have hS19 : F 20 (lstB 67 [0, 1, 2, 3, 4, 5, 6, 7, 8, 9, 10, 11, 12, 13, 14, 16, 17, 18, 19, 20, 21, 22, 23, 24, 25, 27, 28, 29, 30, 31, 32, 34, 35, 36, 37, 38, 39, 41, 42, 43, 44, 45, 46, 47, 48, 49, 50]) ⟨[(0, sp p), (53, sp p), (64, sp p), (75, sp p), (82, sp p), (89, sp p), (48, (pO gr (0 + i * 5))), (49, (pO gr (0 + i * 5))), (50, (pO gr (0 + i * 5))), (51, (pO gr (0 + i * 5))), (52, (pO gr (0 + i * 5))), (57, avS (xO l i).key), (61, avS (xO l i).key), (68, avS (xO l i).product), (72, avS (xO l i).product), (79, avI (xO l i).count), (86, avI (xO l i).ready), (93, avI (xO l i).due), (97, avI (xO l i).due), (5, .v (.slice (some ⟨gr, 0, none⟩) l.length cap)), (62, (iO 4 [avS (xO l i).key, avS (xO l i).key, avS ⟨#[]⟩, avS ⟨#[111, 97]⟩])), (73, (iO 4 [avS (xO l i).product, avS (xO l i).product, avS ⟨#[122, 122]⟩, avS ⟨#[]⟩])), (80, (iO 3 [avI (xO l i).count, avI 0, avI 100001])), (87, (iO 3 [avI (xO l i).ready, avI (-1), avI 345686400000])), (98, (iO 3 [avI (xO l i).due, avI (xO l i).due, avI 345686400000]))], [.box gr ⟨rowL l, 35, cap * 5⟩], k + 1 + 4 * q + 1 + 1⟩ := by
          rw [hF]
          refine VA.all (rs := [15]) (by decide +kernel) (by decide) ?_
          refine ⟨⟨_, rfl, .inl rfl, ?_⟩, trivial⟩
          refine OpE.callT' (k + 1 + 4 * q + 1 + 1) rfl rfl hB rfl Tryz.call32 rfl (some_Q (by rfl) (by decide) (by decide) (AllQ.cons ⟨(hok.getD i).1, (hok.getD i).2.2⟩ (AllQ.cons ⟨(hok.getD i).1, (hok.getD i).2.2⟩ (AllQ.cons (by decide) (AllQ.cons (by decide) AllQ.nil))))) (by omega) ?_
          rintro _ ⟨r63, hr63, rfl⟩
          have hh := hS11 r63 hr63
          rw [hF] at hh
          exact VA.to hh (by decide +kernel) (Le.mk hB [0] ⟨rfl, rfl, rfl, rfl, rfl, rfl, rfl, rfl, rfl, rfl, rfl, rfl, rfl, rfl, rfl, rfl, rfl, rfl, rfl, rfl, rfl, rfl, rfl, rfl, rfl, rfl, trivial⟩ rfl rfl (Nat.le_refl _))
        have hS20 : ∀ (r63 : ByteArray) (hr63 : r63.size ≤ 1000 ∧ r63 ≠ ozK) (r74 : ByteArray) (hr74 : r74.size ≤ 1000), F 21 (lstB 67 [0, 1, 2, 3, 4, 5, 6, 7, 8, 9, 10, 11, 12, 13, 14, 15, 16, 17, 18, 19, 20, 21, 22, 23, 24, 25, 26, 27, 28, 29, 30, 31, 34, 35, 36, 37, 38, 41, 42, 43, 44, 45, 46, 47, 48, 49]) ⟨[(0, sp p), (53, sp p), (64, sp p), (75, sp p), (82, sp p), (89, sp p), (48, (pO gr (0 + i * 5))), (49, (pO gr (0 + i * 5))), (50, (pO gr (0 + i * 5))), (51, (pO gr (0 + i * 5))), (52, (pO gr (0 + i * 5))), (57, avS (xO l i).key), (61, avS (xO l i).key), (68, avS (xO l i).product), (72, avS (xO l i).product), (79, avI (xO l i).count), (86, avI (xO l i).ready), (93, avI (xO l i).due), (97, avI (xO l i).due), (5, .v (.slice (some ⟨gr, 0, none⟩) l.length cap)), (62, (iO 4 [avS (xO l i).key, avS (xO l i).key, avS ⟨#[]⟩, avS ⟨#[111, 97]⟩])), (63, avS r63), (73, (iO 4 [avS (xO l i).product, avS (xO l i).product, avS ⟨#[122, 122]⟩, avS ⟨#[]⟩])), (74, avS r74)], [.box gr ⟨rowL l, 35, cap * 5⟩], k + 1 + 4 * q + 1 + 1 + 1 + 1⟩ := by
          intro r63 hr63 r74 hr74
          rw [hF]
          refine VA.all (rs := [32, 39, 50]) (by decide +kernel) (by decide) ?_
          refine ⟨⟨_, rfl, .inl rfl, ?_⟩, ⟨_, rfl, .inl rfl, ?_⟩, ⟨_, rfl, .inl rfl, ?_⟩, trivial⟩
          ·
            refine OpE.buildSlice (zc := #[.int .i64 0, .int .i64 0, .int .i64 0]) rfl hB rfl Tryz.underlying22 Tryz.sizeOf3 Tryz.zeroValue3 (by decide) (by decide) (by kernel_rfl) rfl rfl ?_
            have hh := hS12 r63 hr63 r74 hr74
            rw [hF] at hh
            exact VA.to hh (by decide +kernel) (Le.mk hB [0] ⟨rfl, rfl, rfl, rfl, rfl, rfl, rfl, rfl, rfl, rfl, rfl, rfl, rfl, rfl, rfl, rfl, rfl, rfl, rfl, rfl, rfl, rfl, rfl, rfl, rfl, trivial⟩ rfl rfl (Nat.le_refl _))
          ·
            refine OpE.buildSlice (zc := #[.int .i64 0, .int .i64 0, .int .i64 0]) rfl hB rfl Tryz.underlying22 Tryz.sizeOf3 Tryz.zeroValue3 (by decide) (by decide) (by kernel_rfl) rfl rfl ?_
            have hh := hS13 r63 hr63 r74 hr74
            rw [hF] at hh
            exact VA.to hh (by decide +kernel) (Le.mk hB [0] ⟨rfl, rfl, rfl, rfl, rfl, rfl, rfl, rfl, rfl, rfl, rfl, rfl, rfl, rfl, rfl, rfl, rfl, rfl, rfl, rfl, rfl, rfl, rfl, rfl, rfl, trivial⟩ rfl rfl (Nat.le_refl _))
          ·
            refine OpE.buildSlice (zc := #[.int .i64 0, .int .i64 0, .int .i64 0]) rfl hB rfl Tryz.underlying22 Tryz.sizeOf3 Tryz.zeroValue3 (by decide) (by decide) (by kernel_rfl) rfl rfl ?_
            have hh := hS14 r63 hr63 r74 hr74
            rw [hF] at hh
            exact VA.to hh (by decide +kernel) (Le.mk hB [0] ⟨rfl, rfl, rfl, rfl, rfl, rfl, rfl, rfl, rfl, rfl, rfl, rfl, rfl, rfl, rfl, rfl, rfl, rfl, rfl, rfl, rfl, rfl, rfl, rfl, rfl, trivial⟩ rfl rfl (Nat.le_refl _))
        have hS21 : ∀ (r63 : ByteArray) (hr63 : r63.size ≤ 1000 ∧ r63 ≠ ozK), F 21 (lstB 67 [0, 1, 2, 3, 4, 5, 6, 7, 8, 9, 10, 11, 12, 13, 14, 15, 16, 17, 18, 19, 20, 21, 22, 23, 24, 25, 27, 28, 29, 30, 31, 32, 34, 35, 36, 37, 38, 41, 42, 43, 44, 45, 46, 47, 48, 49]) ⟨[(0, sp p), (53, sp p), (64, sp p), (75, sp p), (82, sp p), (89, sp p), (48, (pO gr (0 + i * 5))), (49, (pO gr (0 + i * 5))), (50, (pO gr (0 + i * 5))), (51, (pO gr (0 + i * 5))), (52, (pO gr (0 + i * 5))), (57, avS (xO l i).key), (61, avS (xO l i).key), (68, avS (xO l i).product), (72, avS (xO l i).product), (79, avI (xO l i).count), (86, avI (xO l i).ready), (93, avI (xO l i).due), (97, avI (xO l i).due), (5, .v (.slice (some ⟨gr, 0, none⟩) l.length cap)), (62, (iO 4 [avS (xO l i).key, avS (xO l i).key, avS ⟨#[]⟩, avS ⟨#[111, 97]⟩])), (63, avS r63), (73, (iO 4 [avS (xO l i).product, avS (xO l i).product, avS ⟨#[122, 122]⟩, avS ⟨#[]⟩])), (80, (iO 3 [avI (xO l i).count, avI 0, avI 100001]))], [.box gr ⟨rowL l, 35, cap * 5⟩], k + 1 + 4 * q + 1 + 1 + 1⟩ := by
          intro r63 hr63
          rw [hF]
          refine VA.all (rs := [26, 39, 50]) (by decide +kernel) (by decide) ?_
          refine ⟨⟨_, rfl, .inl rfl, ?_⟩, ⟨_, rfl, .inl rfl, ?_⟩, ⟨_, rfl, .inl rfl, ?_⟩, trivial⟩
          ·
            refine OpE.callT' (k + 1 + 4 * q + 1 + 1 + 1) rfl rfl hB rfl Tryz.call32 rfl (some_T 1000 (by rfl) (by decide) (by decide) (AllS.cons (hok.getD i).2.1 (AllS.cons (hok.getD i).2.1 (AllS.cons (by decide) (AllS.cons (by decide) AllS.nil))))) (by omega) ?_
            rintro _ ⟨r74, hr74, rfl⟩
            have hh := hS12 r63 hr63 r74 hr74
            rw [hF] at hh
            exact VA.to hh (by decide +kernel) (Le.mk hB [0] ⟨rfl, rfl, rfl, rfl, rfl, rfl, rfl, rfl, rfl, rfl, rfl, rfl, rfl, rfl, rfl, rfl, rfl, rfl, rfl, rfl, rfl, rfl, rfl, rfl, rfl, trivial⟩ rfl rfl (Nat.le_refl _))
          ·
            refine OpE.buildSlice (zc := #[.int .i64 0, .int .i64 0, .int .i64 0]) rfl hB rfl Tryz.underlying22 Tryz.sizeOf3 Tryz.zeroValue3 (by decide) (by decide) (by kernel_rfl) rfl rfl ?_
            have hh := hS15 r63 hr63
            rw [hF] at hh
            exact VA.to hh (by decide +kernel) (Le.mk hB [0] ⟨rfl, rfl, rfl, rfl, rfl, rfl, rfl, rfl, rfl, rfl, rfl, rfl, rfl, rfl, rfl, rfl, rfl, rfl, rfl, rfl, rfl, rfl, rfl, rfl, rfl, trivial⟩ rfl rfl (Nat.le_refl _))
          ·
            refine OpE.buildSlice (zc := #[.int .i64 0, .int .i64 0, .int .i64 0]) rfl hB rfl Tryz.underlying22 Tryz.sizeOf3 Tryz.zeroValue3 (by decide) (by decide) (by kernel_rfl) rfl rfl ?_
            have hh := hS16 r63 hr63
            rw [hF] at hh
            exact VA.to hh (by decide +kernel) (Le.mk hB [0] ⟨rfl, rfl, rfl, rfl, rfl, rfl, rfl, rfl, rfl, rfl, rfl, rfl, rfl, rfl, rfl, rfl, rfl, rfl, rfl, rfl, rfl, rfl, rfl, rfl, rfl, trivial⟩ rfl rfl (Nat.le_refl _))
        have hS22 : ∀ (r63 : ByteArray) (hr63 : r63.size ≤ 1000 ∧ r63 ≠ ozK), F 21 (lstB 67 [0, 1, 2, 3, 4, 5, 6, 7, 8, 9, 10, 11, 12, 13, 14, 15, 16, 17, 18, 19, 20, 21, 22, 23, 24, 25, 27, 28, 29, 30, 31, 34, 35, 36, 37, 38, 39, 41, 42, 43, 44, 45, 46, 47, 48, 49]) ⟨[(0, sp p), (53, sp p), (64, sp p), (75, sp p), (82, sp p), (89, sp p), (48, (pO gr (0 + i * 5))), (49, (pO gr (0 + i * 5))), (50, (pO gr (0 + i * 5))), (51, (pO gr (0 + i * 5))), (52, (pO gr (0 + i * 5))), (57, avS (xO l i).key), (61, avS (xO l i).key), (68, avS (xO l i).product), (72, avS (xO l i).product), (79, avI (xO l i).count), (86, avI (xO l i).ready), (93, avI (xO l i).due), (97, avI (xO l i).due), (5, .v (.slice (some ⟨gr, 0, none⟩) l.length cap)), (62, (iO 4 [avS (xO l i).key, avS (xO l i).key, avS ⟨#[]⟩, avS ⟨#[111, 97]⟩])), (63, avS r63), (73, (iO 4 [avS (xO l i).product, avS (xO l i).product, avS ⟨#[122, 122]⟩, avS ⟨#[]⟩])), (87, (iO 3 [avI (xO l i).ready, avI (-1), avI 345686400000]))], [.box gr ⟨rowL l, 35, cap * 5⟩], k + 1 + 4 * q + 1 + 1 + 1⟩ := by
          intro r63 hr63
          rw [hF]
          refine VA.all (rs := [26, 32, 50]) (by decide +kernel) (by decide) ?_
          refine ⟨⟨_, rfl, .inl rfl, ?_⟩, ⟨_, rfl, .inl rfl, ?_⟩, ⟨_, rfl, .inl rfl, ?_⟩, trivial⟩
          ·
            refine OpE.callT' (k + 1 + 4 * q + 1 + 1 + 1) rfl rfl hB rfl Tryz.call32 rfl (some_T 1000 (by rfl) (by decide) (by decide) (AllS.cons (hok.getD i).2.1 (AllS.cons (hok.getD i).2.1 (AllS.cons (by decide) (AllS.cons (by decide) AllS.nil))))) (by omega) ?_
            rintro _ ⟨r74, hr74, rfl⟩
            have hh := hS13 r63 hr63 r74 hr74
            rw [hF] at hh
            exact VA.to hh (by decide +kernel) (Le.mk hB [0] ⟨rfl, rfl, rfl, rfl, rfl, rfl, rfl, rfl, rfl, rfl, rfl, rfl, rfl, rfl, rfl, rfl, rfl, rfl, rfl, rfl, rfl, rfl, rfl, rfl, rfl, trivial⟩ rfl rfl (Nat.le_refl _))
          ·
            refine OpE.buildSlice (zc := #[.int .i64 0, .int .i64 0, .int .i64 0]) rfl hB rfl Tryz.underlying22 Tryz.sizeOf3 Tryz.zeroValue3 (by decide) (by decide) (by kernel_rfl) rfl rfl ?_
            have hh := hS15 r63 hr63
            rw [hF] at hh
            exact VA.to hh (by decide +kernel) (Le.mk hB [0] ⟨rfl, rfl, rfl, rfl, rfl, rfl, rfl, rfl, rfl, rfl, rfl, rfl, rfl, rfl, rfl, rfl, rfl, rfl, rfl, rfl, rfl, rfl, rfl, rfl, rfl, trivial⟩ rfl rfl (Nat.le_refl _))
          ·
            refine OpE.buildSlice (zc := #[.int .i64 0, .int .i64 0, .int .i64 0]) rfl hB rfl Tryz.underlying22 Tryz.sizeOf3 Tryz.zeroValue3 (by decide) (by decide) (by kernel_rfl) rfl rfl ?_
            have hh := hS17 r63 hr63
            rw [hF] at hh
            exact VA.to hh (by decide +kernel) (Le.mk hB [0] ⟨rfl, rfl, rfl, rfl, rfl, rfl, rfl, rfl, rfl, rfl, rfl, rfl, rfl, rfl, rfl, rfl, rfl, rfl, rfl, rfl, rfl, rfl, rfl, rfl, rfl, trivial⟩ rfl rfl (Nat.le_refl _))
        have hS23 : ∀ (r63 : ByteArray) (hr63 : r63.size ≤ 1000 ∧ r63 ≠ ozK), F 21 (lstB 67 [0, 1, 2, 3, 4, 5, 6, 7, 8, 9, 10, 11, 12, 13, 14, 15, 16, 17, 18, 19, 20, 21, 22, 23, 24, 25, 27, 28, 29, 30, 31, 34, 35, 36, 37, 38, 41, 42, 43, 44, 45, 46, 47, 48, 49, 50]) ⟨[(0, sp p), (53, sp p), (64, sp p), (75, sp p), (82, sp p), (89, sp p), (48, (pO gr (0 + i * 5))), (49, (pO gr (0 + i * 5))), (50, (pO gr (0 + i * 5))), (51, (pO gr (0 + i * 5))), (52, (pO gr (0 + i * 5))), (57, avS (xO l i).key), (61, avS (xO l i).key), (68, avS (xO l i).product), (72, avS (xO l i).product), (79, avI (xO l i).count), (86, avI (xO l i).ready), (93, avI (xO l i).due), (97, avI (xO l i).due), (5, .v (.slice (some ⟨gr, 0, none⟩) l.length cap)), (62, (iO 4 [avS (xO l i).key, avS (xO l i).key, avS ⟨#[]⟩, avS ⟨#[111, 97]⟩])), (63, avS r63), (73, (iO 4 [avS (xO l i).product, avS (xO l i).product, avS ⟨#[122, 122]⟩, avS ⟨#[]⟩])), (98, (iO 3 [avI (xO l i).due, avI (xO l i).due, avI 345686400000]))], [.box gr ⟨rowL l, 35, cap * 5⟩], k + 1 + 4 * q + 1 + 1 + 1⟩ := by
          intro r63 hr63
          rw [hF]
          refine VA.all (rs := [26, 32, 39]) (by decide +kernel) (by decide) ?_
          refine ⟨⟨_, rfl, .inl rfl, ?_⟩, ⟨_, rfl, .inl rfl, ?_⟩, ⟨_, rfl, .inl rfl, ?_⟩, trivial⟩
          ·
            refine OpE.callT' (k + 1 + 4 * q + 1 + 1 + 1) rfl rfl hB rfl Tryz.call32 rfl (some_T 1000 (by rfl) (by decide) (by decide) (AllS.cons (hok.getD i).2.1 (AllS.cons (hok.getD i).2.1 (AllS.cons (by decide) (AllS.cons (by decide) AllS.nil))))) (by omega) ?_
            rintro _ ⟨r74, hr74, rfl⟩
            have hh := hS14 r63 hr63 r74 hr74
            rw [hF] at hh
            exact VA.to hh (by decide +kernel) (Le.mk hB [0] ⟨rfl, rfl, rfl, rfl, rfl, rfl, rfl, rfl, rfl, rfl, rfl, rfl, rfl, rfl, rfl, rfl, rfl, rfl, rfl, rfl, rfl, rfl, rfl, rfl, rfl, trivial⟩ rfl rfl (Nat.le_refl _))
          ·
            refine OpE.buildSlice (zc := #[.int .i64 0, .int .i64 0, .int .i64 0]) rfl hB rfl Tryz.underlying22 Tryz.sizeOf3 Tryz.zeroValue3 (by decide) (by decide) (by kernel_rfl) rfl rfl ?_
            have hh := hS16 r63 hr63
            rw [hF] at hh
            exact VA.to hh (by decide +kernel) (Le.mk hB [0] ⟨rfl, rfl, rfl, rfl, rfl, rfl, rfl, rfl, rfl, rfl, rfl, rfl, rfl, rfl, rfl, rfl, rfl, rfl, rfl, rfl, rfl, rfl, rfl, rfl, rfl, trivial⟩ rfl rfl (Nat.le_refl _))
          ·
            refine OpE.buildSlice (zc := #[.int .i64 0, .int .i64 0, .int .i64 0]) rfl hB rfl Tryz.underlying22 Tryz.sizeOf3 Tryz.zeroValue3 (by decide) (by decide) (by kernel_rfl) rfl rfl ?_
            have hh := hS17 r63 hr63
            rw [hF] at hh
            exact VA.to hh (by decide +kernel) (Le.mk hB [0] ⟨rfl, rfl, rfl, rfl, rfl, rfl, rfl, rfl, rfl, rfl, rfl, rfl, rfl, rfl, rfl, rfl, rfl, rfl, rfl, rfl, rfl, rfl, rfl, rfl, rfl, trivial⟩ rfl rfl (Nat.le_refl _))
        have hS24 : ∀ (r63 : ByteArray) (hr63 : r63.size ≤ 1000 ∧ r63 ≠ ozK), F 21 (lstB 67 [0, 1, 2, 3, 4, 5, 6, 7, 8, 9, 10, 11, 12, 13, 14, 15, 16, 17, 18, 19, 20, 21, 22, 23, 24, 27, 28, 29, 30, 31, 32, 34, 35, 36, 37, 38, 39, 41, 42, 43, 44, 45, 46, 47, 48, 49]) ⟨[(0, sp p), (53, sp p), (64, sp p), (75, sp p), (82, sp p), (89, sp p), (48, (pO gr (0 + i * 5))), (49, (pO gr (0 + i * 5))), (50, (pO gr (0 + i * 5))), (51, (pO gr (0 + i * 5))), (52, (pO gr (0 + i * 5))), (57, avS (xO l i).key), (61, avS (xO l i).key), (68, avS (xO l i).product), (72, avS (xO l i).product), (79, avI (xO l i).count), (86, avI (xO l i).ready), (93, avI (xO l i).due), (97, avI (xO l i).due), (5, .v (.slice (some ⟨gr, 0, none⟩) l.length cap)), (62, (iO 4 [avS (xO l i).key, avS (xO l i).key, avS ⟨#[]⟩, avS ⟨#[111, 97]⟩])), (63, avS r63), (80, (iO 3 [avI (xO l i).count, avI 0, avI 100001])), (87, (iO 3 [avI (xO l i).ready, avI (-1), avI 345686400000]))], [.box gr ⟨rowL l, 35, cap * 5⟩], k + 1 + 4 * q + 1 + 1 + 1⟩ := by
          intro r63 hr63
          rw [hF]
          refine VA.all (rs := [25, 50]) (by decide +kernel) (by decide) ?_
          refine ⟨⟨_, rfl, .inl rfl, ?_⟩, ⟨_, rfl, .inl rfl, ?_⟩, trivial⟩
          ·
            refine OpE.buildSlice (zc := #[.string ⟨#[]⟩, .string ⟨#[]⟩, .string ⟨#[]⟩, .string ⟨#[]⟩]) rfl hB rfl Tryz.underlying95 Tryz.sizeOf9 Tryz.zeroValue9 (by decide) (by decide) (by kernel_rfl) rfl rfl ?_
            have hh := hS15 r63 hr63
            rw [hF] at hh
            exact VA.to hh (by decide +kernel) (Le.mk hB [0] ⟨rfl, rfl, rfl, rfl, rfl, rfl, rfl, rfl, rfl, rfl, rfl, rfl, rfl, rfl, rfl, rfl, rfl, rfl, rfl, rfl, rfl, rfl, rfl, rfl, rfl, trivial⟩ rfl rfl (Nat.le_refl _))
          ·
            refine OpE.buildSlice (zc := #[.int .i64 0, .int .i64 0, .int .i64 0]) rfl hB rfl Tryz.underlying22 Tryz.sizeOf3 Tryz.zeroValue3 (by decide) (by decide) (by kernel_rfl) rfl rfl ?_
            have hh := hS18 r63 hr63
            rw [hF] at hh
            exact VA.to hh (by decide +kernel) (Le.mk hB [0] ⟨rfl, rfl, rfl, rfl, rfl, rfl, rfl, rfl, rfl, rfl, rfl, rfl, rfl, rfl, rfl, rfl, rfl, rfl, rfl, rfl, rfl, rfl, rfl, rfl, rfl, trivial⟩ rfl rfl (Nat.le_refl _))
        have hS25 : ∀ (r63 : ByteArray) (hr63 : r63.size ≤ 1000 ∧ r63 ≠ ozK), F 21 (lstB 67 [0, 1, 2, 3, 4, 5, 6, 7, 8, 9, 10, 11, 12, 13, 14, 15, 16, 17, 18, 19, 20, 21, 22, 23, 24, 27, 28, 29, 30, 31, 32, 34, 35, 36, 37, 38, 41, 42, 43, 44, 45, 46, 47, 48, 49, 50]) ⟨[(0, sp p), (53, sp p), (64, sp p), (75, sp p), (82, sp p), (89, sp p), (48, (pO gr (0 + i * 5))), (49, (pO gr (0 + i * 5))), (50, (pO gr (0 + i * 5))), (51, (pO gr (0 + i * 5))), (52, (pO gr (0 + i * 5))), (57, avS (xO l i).key), (61, avS (xO l i).key), (68, avS (xO l i).product), (72, avS (xO l i).product), (79, avI (xO l i).count), (86, avI (xO l i).ready), (93, avI (xO l i).due), (97, avI (xO l i).due), (5, .v (.slice (some ⟨gr, 0, none⟩) l.length cap)), (62, (iO 4 [avS (xO l i).key, avS (xO l i).key, avS ⟨#[]⟩, avS ⟨#[111, 97]⟩])), (63, avS r63), (80, (iO 3 [avI (xO l i).count, avI 0, avI 100001])), (98, (iO 3 [avI (xO l i).due, avI (xO l i).due, avI 345686400000]))], [.box gr ⟨rowL l, 35, cap * 5⟩], k + 1 + 4 * q + 1 + 1 + 1⟩ := by
          intro r63 hr63
          rw [hF]
          refine VA.all (rs := [25, 39]) (by decide +kernel) (by decide) ?_
          refine ⟨⟨_, rfl, .inl rfl, ?_⟩, ⟨_, rfl, .inl rfl, ?_⟩, trivial⟩
          ·
            refine OpE.buildSlice (zc := #[.string ⟨#[]⟩, .string ⟨#[]⟩, .string ⟨#[]⟩, .string ⟨#[]⟩]) rfl hB rfl Tryz.underlying95 Tryz.sizeOf9 Tryz.zeroValue9 (by decide) (by decide) (by kernel_rfl) rfl rfl ?_
            have hh := hS16 r63 hr63
            rw [hF] at hh
            exact VA.to hh (by decide +kernel) (Le.mk hB [0] ⟨rfl, rfl, rfl, rfl, rfl, rfl, rfl, rfl, rfl, rfl, rfl, rfl, rfl, rfl, rfl, rfl, rfl, rfl, rfl, rfl, rfl, rfl, rfl, rfl, rfl, trivial⟩ rfl rfl (Nat.le_refl _))
          ·
            refine OpE.buildSlice (zc := #[.int .i64 0, .int .i64 0, .int .i64 0]) rfl hB rfl Tryz.underlying22 Tryz.sizeOf3 Tryz.zeroValue3 (by decide) (by decide) (by kernel_rfl) rfl rfl ?_
            have hh := hS18 r63 hr63
            rw [hF] at hh
            exact VA.to hh (by decide +kernel) (Le.mk hB [0] ⟨rfl, rfl, rfl, rfl, rfl, rfl, rfl, rfl, rfl, rfl, rfl, rfl, rfl, rfl, rfl, rfl, rfl, rfl, rfl, rfl, rfl, rfl, rfl, rfl, rfl, trivial⟩ rfl rfl (Nat.le_refl _))
        have hS26 : ∀ (r63 : ByteArray) (hr63 : r63.size ≤ 1000 ∧ r63 ≠ ozK), F 21 (lstB 67 [0, 1, 2, 3, 4, 5, 6, 7, 8, 9, 10, 11, 12, 13, 14, 15, 16, 17, 18, 19, 20, 21, 22, 23, 24, 27, 28, 29, 30, 31, 34, 35, 36, 37, 38, 39, 41, 42, 43, 44, 45, 46, 47, 48, 49, 50]) ⟨[(0, sp p), (53, sp p), (64, sp p), (75, sp p), (82, sp p), (89, sp p), (48, (pO gr (0 + i * 5))), (49, (pO gr (0 + i * 5))), (50, (pO gr (0 + i * 5))), (51, (pO gr (0 + i * 5))), (52, (pO gr (0 + i * 5))), (57, avS (xO l i).key), (61, avS (xO l i).key), (68, avS (xO l i).product), (72, avS (xO l i).product), (79, avI (xO l i).count), (86, avI (xO l i).ready), (93, avI (xO l i).due), (97, avI (xO l i).due), (5, .v (.slice (some ⟨gr, 0, none⟩) l.length cap)), (62, (iO 4 [avS (xO l i).key, avS (xO l i).key, avS ⟨#[]⟩, avS ⟨#[111, 97]⟩])), (63, avS r63), (87, (iO 3 [avI (xO l i).ready, avI (-1), avI 345686400000])), (98, (iO 3 [avI (xO l i).due, avI (xO l i).due, avI 345686400000]))], [.box gr ⟨rowL l, 35, cap * 5⟩], k + 1 + 4 * q + 1 + 1 + 1⟩ := by
          intro r63 hr63
          rw [hF]
          refine VA.all (rs := [25, 32]) (by decide +kernel) (by decide) ?_
          refine ⟨⟨_, rfl, .inl rfl, ?_⟩, ⟨_, rfl, .inl rfl, ?_⟩, trivial⟩
          ·
            refine OpE.buildSlice (zc := #[.string ⟨#[]⟩, .string ⟨#[]⟩, .string ⟨#[]⟩, .string ⟨#[]⟩]) rfl hB rfl Tryz.underlying95 Tryz.sizeOf9 Tryz.zeroValue9 (by decide) (by decide) (by kernel_rfl) rfl rfl ?_
            have hh := hS17 r63 hr63
            rw [hF] at hh
            exact VA.to hh (by decide +kernel) (Le.mk hB [0] ⟨rfl, rfl, rfl, rfl, rfl, rfl, rfl, rfl, rfl, rfl, rfl, rfl, rfl, rfl, rfl, rfl, rfl, rfl, rfl, rfl, rfl, rfl, rfl, rfl, rfl, trivial⟩ rfl rfl (Nat.le_refl _))
          ·
            refine OpE.buildSlice (zc := #[.int .i64 0, .int .i64 0, .int .i64 0]) rfl hB rfl Tryz.underlying22 Tryz.sizeOf3 Tryz.zeroValue3 (by decide) (by decide) (by kernel_rfl) rfl rfl ?_
            have hh := hS18 r63 hr63
            rw [hF] at hh
            exact VA.to hh (by decide +kernel) (Le.mk hB [0] ⟨rfl, rfl, rfl, rfl, rfl, rfl, rfl, rfl, rfl, rfl, rfl, rfl, rfl, rfl, rfl, rfl, rfl, rfl, rfl, rfl, rfl, rfl, rfl, rfl, rfl, trivial⟩ rfl rfl (Nat.le_refl _))
        have hS27 : F 21 (lstB 67 [0, 1, 2, 3, 4, 5, 6, 7, 8, 9, 10, 11, 12, 13, 14, 16, 17, 18, 19, 20, 21, 22, 23, 24, 25, 27, 28, 29, 30, 31, 32, 34, 35, 36, 37, 38, 39, 41, 42, 43, 44, 45, 46, 47, 48, 49]) ⟨[(0, sp p), (53, sp p), (64, sp p), (75, sp p), (82, sp p), (89, sp p), (48, (pO gr (0 + i * 5))), (49, (pO gr (0 + i * 5))), (50, (pO gr (0 + i * 5))), (51, (pO gr (0 + i * 5))), (52, (pO gr (0 + i * 5))), (57, avS (xO l i).key), (61, avS (xO l i).key), (68, avS (xO l i).product), (72, avS (xO l i).product), (79, avI (xO l i).count), (86, avI (xO l i).ready), (93, avI (xO l i).due), (97, avI (xO l i).due), (5, .v (.slice (some ⟨gr, 0, none⟩) l.length cap)), (62, (iO 4 [avS (xO l i).key, avS (xO l i).key, avS ⟨#[]⟩, avS ⟨#[111, 97]⟩])), (73, (iO 4 [avS (xO l i).product, avS (xO l i).product, avS ⟨#[122, 122]⟩, avS ⟨#[]⟩])), (80, (iO 3 [avI (xO l i).count, avI 0, avI 100001])), (87, (iO 3 [avI (xO l i).ready, avI (-1), avI 345686400000]))], [.box gr ⟨rowL l, 35, cap * 5⟩], k + 1 + 4 * q + 1 + 1⟩ := by
          rw [hF]
          refine VA.all (rs := [15, 50]) (by decide +kernel) (by decide) ?_
          refine ⟨⟨_, rfl, .inl rfl, ?_⟩, ⟨_, rfl, .inl rfl, ?_⟩, trivial⟩
          ·
            refine OpE.callT' (k + 1 + 4 * q + 1 + 1) rfl rfl hB rfl Tryz.call32 rfl (some_Q (by rfl) (by decide) (by decide) (AllQ.cons ⟨(hok.getD i).1, (hok.getD i).2.2⟩ (AllQ.cons ⟨(hok.getD i).1, (hok.getD i).2.2⟩ (AllQ.cons (by decide) (AllQ.cons (by decide) AllQ.nil))))) (by omega) ?_
            rintro _ ⟨r63, hr63, rfl⟩
            have hh := hS15 r63 hr63
            rw [hF] at hh
            exact VA.to hh (by decide +kernel) (Le.mk hB [0] ⟨rfl, rfl, rfl, rfl, rfl, rfl, rfl, rfl, rfl, rfl, rfl, rfl, rfl, rfl, rfl, rfl, rfl, rfl, rfl, rfl, rfl, rfl, rfl, rfl, rfl, trivial⟩ rfl rfl (Nat.le_refl _))
          ·
            refine OpE.buildSlice (zc := #[.int .i64 0, .int .i64 0, .int .i64 0]) rfl hB rfl Tryz.underlying22 Tryz.sizeOf3 Tryz.zeroValue3 (by decide) (by decide) (by kernel_rfl) rfl rfl ?_
            have hh := hS19 
            rw [hF] at hh
            exact VA.to hh (by decide +kernel) (Le.mk hB [0] ⟨rfl, rfl, rfl, rfl, rfl, rfl, rfl, rfl, rfl, rfl, rfl, rfl, rfl, rfl, rfl, rfl, rfl, rfl, rfl, rfl, rfl, rfl, rfl, rfl, rfl, trivial⟩ rfl rfl (Nat.le_refl _))
        have hS28 : F 21 (lstB 67 [0, 1, 2, 3, 4, 5, 6, 7, 8, 9, 10, 11, 12, 13, 14, 16, 17, 18, 19, 20, 21, 22, 23, 24, 25, 27, 28, 29, 30, 31, 32, 34, 35, 36, 37, 38, 41, 42, 43, 44, 45, 46, 47, 48, 49, 50]) ⟨[(0, sp p), (53, sp p), (64, sp p), (75, sp p), (82, sp p), (89, sp p), (48, (pO gr (0 + i * 5))), (49, (pO gr (0 + i * 5))), (50, (pO gr (0 + i * 5))), (51, (pO gr (0 + i * 5))), (52, (pO gr (0 + i * 5))), (57, avS (xO l i).key), (61, avS (xO l i).key), (68, avS (xO l i).product), (72, avS (xO l i).product), (79, avI (xO l i).count), (86, avI (xO l i).ready), (93, avI (xO l i).due), (97, avI (xO l i).due), (5, .v (.slice (some ⟨gr, 0, none⟩) l.length cap)), (62, (iO 4 [avS (xO l i).key, avS (xO l i).key, avS ⟨#[]⟩, avS ⟨#[111, 97]⟩])), (73, (iO 4 [avS (xO l i).product, avS (xO l i).product, avS ⟨#[122, 122]⟩, avS ⟨#[]⟩])), (80, (iO 3 [avI (xO l i).count, avI 0, avI 100001])), (98, (iO 3 [avI (xO l i).due, avI (xO l i).due, avI 345686400000]))], [.box gr ⟨rowL l, 35, cap * 5⟩], k + 1 + 4 * q + 1 + 1⟩ := by
          rw [hF]
          refine VA.all (rs := [15, 39]) (by decide +kernel) (by decide) ?_
          refine ⟨⟨_, rfl, .inl rfl, ?_⟩, ⟨_, rfl, .inl rfl, ?_⟩, trivial⟩
          ·
            refine OpE.callT' (k + 1 + 4 * q + 1 + 1) rfl rfl hB rfl Tryz.call32 rfl (some_Q (by rfl) (by decide) (by decide) (AllQ.cons ⟨(hok.getD i).1, (hok.getD i).2.2⟩ (AllQ.cons ⟨(hok.getD i).1, (hok.getD i).2.2⟩ (AllQ.cons (by decide) (AllQ.cons (by decide) AllQ.nil))))) (by omega) ?_
            rintro _ ⟨r63, hr63, rfl⟩
            have hh := hS16 r63 hr63
            rw [hF] at hh
            exact VA.to hh (by decide +kernel) (Le.mk hB [0] ⟨rfl, rfl, rfl, rfl, rfl, rfl, rfl, rfl, rfl, rfl, rfl, rfl, rfl, rfl, rfl, rfl, rfl, rfl, rfl, rfl, rfl, rfl, rfl, rfl, rfl, trivial⟩ rfl rfl (Nat.le_refl _))
          ·
            refine OpE.buildSlice (zc := #[.int .i64 0, .int .i64 0, .int .i64 0]) rfl hB rfl Tryz.underlying22 Tryz.sizeOf3 Tryz.zeroValue3 (by decide) (by decide) (by kernel_rfl) rfl rfl ?_
            have hh := hS19 
            rw [hF] at hh
            exact VA.to hh (by decide +kernel) (Le.mk hB [0] ⟨rfl, rfl, rfl, rfl, rfl, rfl, rfl, rfl, rfl, rfl, rfl, rfl, rfl, rfl, rfl, rfl, rfl, rfl, rfl, rfl, rfl, rfl, rfl, rfl, rfl, trivial⟩ rfl rfl (Nat.le_refl _))
        have hS29 : F 21 (lstB 67 [0, 1, 2, 3, 4, 5, 6, 7, 8, 9, 10, 11, 12, 13, 14, 16, 17, 18, 19, 20, 21, 22, 23, 24, 25, 27, 28, 29, 30, 31, 34, 35, 36, 37, 38, 39, 41, 42, 43, 44, 45, 46, 47, 48, 49, 50]) ⟨[(0, sp p), (53, sp p), (64, sp p), (75, sp p), (82, sp p), (89, sp p), (48, (pO gr (0 + i * 5))), (49, (pO gr (0 + i * 5))), (50, (pO gr (0 + i * 5))), (51, (pO gr (0 + i * 5))), (52, (pO gr (0 + i * 5))), (57, avS (xO l i).key), (61, avS (xO l i).key), (68, avS (xO l i).product), (72, avS (xO l i).product), (79, avI (xO l i).count), (86, avI (xO l i).ready), (93, avI (xO l i).due), (97, avI (xO l i).due), (5, .v (.slice (some ⟨gr, 0, none⟩) l.length cap)), (62, (iO 4 [avS (xO l i).key, avS (xO l i).key, avS ⟨#[]⟩, avS ⟨#[111, 97]⟩])), (73, (iO 4 [avS (xO l i).product, avS (xO l i).product, avS ⟨#[122, 122]⟩, avS ⟨#[]⟩])), (87, (iO 3 [avI (xO l i).ready, avI (-1), avI 345686400000])), (98, (iO 3 [avI (xO l i).due, avI (xO l i).due, avI 345686400000]))], [.box gr ⟨rowL l, 35, cap * 5⟩], k + 1 + 4 * q + 1 + 1⟩ := by
          rw [hF]
          refine VA.all (rs := [15, 32]) (by decide +kernel) (by decide) ?_
          refine ⟨⟨_, rfl, .inl rfl, ?_⟩, ⟨_, rfl, .inl rfl, ?_⟩, trivial⟩
          ·
            refine OpE.callT' (k + 1 + 4 * q + 1 + 1) rfl rfl hB rfl Tryz.call32 rfl (some_Q (by rfl) (by decide) (by decide) (AllQ.cons ⟨(hok.getD i).1, (hok.getD i).2.2⟩ (AllQ.cons ⟨(hok.getD i).1, (hok.getD i).2.2⟩ (AllQ.cons (by decide) (AllQ.cons (by decide) AllQ.nil))))) (by omega) ?_
            rintro _ ⟨r63, hr63, rfl⟩
            have hh := hS17 r63 hr63
            rw [hF] at hh
            exact VA.to hh (by decide +kernel) (Le.mk hB [0] ⟨rfl, rfl, rfl, rfl, rfl, rfl, rfl, rfl, rfl, rfl, rfl, rfl, rfl, rfl, rfl, rfl, rfl, rfl, rfl, rfl, rfl, rfl, rfl, rfl, rfl, trivial⟩ rfl rfl (Nat.le_refl _))
          ·
            refine OpE.buildSlice (zc := #[.int .i64 0, .int .i64 0, .int .i64 0]) rfl hB rfl Tryz.underlying22 Tryz.sizeOf3 Tryz.zeroValue3 (by decide) (by decide) (by kernel_rfl) rfl rfl ?_
            have hh := hS19 
            rw [hF] at hh
            exact VA.to hh (by decide +kernel) (Le.mk hB [0] ⟨rfl, rfl, rfl, rfl, rfl, rfl, rfl, rfl, rfl, rfl, rfl, rfl, rfl, rfl, rfl, rfl, rfl, rfl, rfl, rfl, rfl, rfl, rfl, rfl, rfl, trivial⟩ rfl rfl (Nat.le_refl _))
        have hS30 : F 21 (lstB 67 [0, 1, 2, 3, 4, 5, 6, 7, 8, 9, 10, 11, 12, 13, 14, 16, 17, 18, 19, 20, 21, 22, 23, 24, 27, 28, 29, 30, 31, 32, 34, 35, 36, 37, 38, 39, 41, 42, 43, 44, 45, 46, 47, 48, 49, 50]) ⟨[(0, sp p), (53, sp p), (64, sp p), (75, sp p), (82, sp p), (89, sp p), (48, (pO gr (0 + i * 5))), (49, (pO gr (0 + i * 5))), (50, (pO gr (0 + i * 5))), (51, (pO gr (0 + i * 5))), (52, (pO gr (0 + i * 5))), (57, avS (xO l i).key), (61, avS (xO l i).key), (68, avS (xO l i).product), (72, avS (xO l i).product), (79, avI (xO l i).count), (86, avI (xO l i).ready), (93, avI (xO l i).due), (97, avI (xO l i).due), (5, .v (.slice (some ⟨gr, 0, none⟩) l.length cap)), (62, (iO 4 [avS (xO l i).key, avS (xO l i).key, avS ⟨#[]⟩, avS ⟨#[111, 97]⟩])), (80, (iO 3 [avI (xO l i).count, avI 0, avI 100001])), (87, (iO 3 [avI (xO l i).ready, avI (-1), avI 345686400000])), (98, (iO 3 [avI (xO l i).due, avI (xO l i).due, avI 345686400000]))], [.box gr ⟨rowL l, 35, cap * 5⟩], k + 1 + 4 * q + 1 + 1⟩ := by
          rw [hF]
          refine VA.all (rs := [15, 25]) (by decide +kernel) (by decide) ?_
          refine ⟨⟨_, rfl, .inl rfl, ?_⟩, ⟨_, rfl, .inl rfl, ?_⟩, trivial⟩
          ·
            refine OpE.callT' (k + 1 + 4 * q + 1 + 1) rfl rfl hB rfl Tryz.call32 rfl (some_Q (by rfl) (by decide) (by decide) (AllQ.cons ⟨(hok.getD i).1, (hok.getD i).2.2⟩ (AllQ.cons ⟨(hok.getD i).1, (hok.getD i).2.2⟩ (AllQ.cons (by decide) (AllQ.cons (by decide) AllQ.nil))))) (by omega) ?_
            rintro _ ⟨r63, hr63, rfl⟩
            have hh := hS18 r63 hr63
            rw [hF] at hh
            exact VA.to hh (by decide +kernel) (Le.mk hB [0] ⟨rfl, rfl, rfl, rfl, rfl, rfl, rfl, rfl, rfl, rfl, rfl, rfl, rfl, rfl, rfl, rfl, rfl, rfl, rfl, rfl, rfl, rfl, rfl, rfl, rfl, trivial⟩ rfl rfl (Nat.le_refl _))
          ·
            refine OpE.buildSlice (zc := #[.string ⟨#[]⟩, .string ⟨#[]⟩, .string ⟨#[]⟩, .string ⟨#[]⟩]) rfl hB rfl Tryz.underlying95 Tryz.sizeOf9 Tryz.zeroValue9 (by decide) (by decide) (by kernel_rfl) rfl rfl ?_
            have hh := hS19 
            rw [hF] at hh
            exact VA.to hh (by decide +kernel) (Le.mk hB [0] ⟨rfl, rfl, rfl, rfl, rfl, rfl, rfl, rfl, rfl, rfl, rfl, rfl, rfl, rfl, rfl, rfl, rfl, rfl, rfl, rfl, rfl, rfl, rfl, rfl, rfl, trivial⟩ rfl rfl (Nat.le_refl _))
        have hS31 : F 21 (lstB 67 [0, 1, 2, 3, 4, 5, 6, 7, 8, 9, 10, 11, 12, 13, 16, 17, 18, 19, 20, 21, 22, 23, 24, 25, 27, 28, 29, 30, 31, 32, 34, 35, 36, 37, 38, 39, 41, 42, 43, 44, 45, 46, 47, 48, 49, 50]) ⟨[(0, sp p), (53, sp p), (64, sp p), (75, sp p), (82, sp p), (89, sp p), (48, (pO gr (0 + i * 5))), (49, (pO gr (0 + i * 5))), (50, (pO gr (0 + i * 5))), (51, (pO gr (0 + i * 5))), (52, (pO gr (0 + i * 5))), (57, avS (xO l i).key), (61, avS (xO l i).key), (68, avS (xO l i).product), (72, avS (xO l i).product), (79, avI (xO l i).count), (86, avI (xO l i).ready), (93, avI (xO l i).due), (97, avI (xO l i).due), (5, .v (.slice (some ⟨gr, 0, none⟩) l.length cap)), (73, (iO 4 [avS (xO l i).product, avS (xO l i).product, avS ⟨#[122, 122]⟩, avS ⟨#[]⟩])), (80, (iO 3 [avI (xO l i).count, avI 0, avI 100001])), (87, (iO 3 [avI (xO l i).ready, avI (-1), avI 345686400000])), (98, (iO 3 [avI (xO l i).due, avI (xO l i).due, avI 345686400000]))], [.box gr ⟨rowL l, 35, cap * 5⟩], k + 1 + 4 * q + 1 + 1⟩ := by
          rw [hF]
          refine VA.all (rs := [14]) (by decide +kernel) (by decide) ?_
          refine ⟨⟨_, rfl, .inl rfl, ?_⟩, trivial⟩
          refine OpE.buildSlice (zc := #[.string ⟨#[]⟩, .string ⟨#[]⟩, .string ⟨#[]⟩, .string ⟨#[]⟩]) rfl hB rfl Tryz.underlying95 Tryz.sizeOf9 Tryz.zeroValue9 (by decide) (by decide) (by kernel_rfl) rfl rfl ?_
          have hh := hS19 
          rw [hF] at hh
          exact VA.to hh (by decide +kernel) (Le.mk hB [0] ⟨rfl, rfl, rfl, rfl, rfl, rfl, rfl, rfl, rfl, rfl, rfl, rfl, rfl, rfl, rfl, rfl, rfl, rfl, rfl, rfl, rfl, rfl, rfl, rfl, rfl, trivial⟩ rfl rfl (Nat.le_refl _))
        have hS32 : ∀ (r63 : ByteArray) (hr63 : r63.size ≤ 1000 ∧ r63 ≠ ozK), F 22 (lstB 67 [0, 1, 2, 3, 4, 5, 6, 7, 8, 9, 10, 11, 12, 13, 14, 15, 16, 17, 18, 19, 20, 21, 22, 23, 24, 25, 27, 28, 29, 30, 31, 34, 35, 36, 37, 38, 41, 42, 43, 44, 45, 46, 47, 48, 49]) ⟨[(0, sp p), (53, sp p), (64, sp p), (75, sp p), (82, sp p), (89, sp p), (48, (pO gr (0 + i * 5))), (49, (pO gr (0 + i * 5))), (50, (pO gr (0 + i * 5))), (51, (pO gr (0 + i * 5))), (52, (pO gr (0 + i * 5))), (57, avS (xO l i).key), (61, avS (xO l i).key), (68, avS (xO l i).product), (72, avS (xO l i).product), (79, avI (xO l i).count), (86, avI (xO l i).ready), (93, avI (xO l i).due), (97, avI (xO l i).due), (5, .v (.slice (some ⟨gr, 0, none⟩) l.length cap)), (62, (iO 4 [avS (xO l i).key, avS (xO l i).key, avS ⟨#[]⟩, avS ⟨#[111, 97]⟩])), (63, avS r63), (73, (iO 4 [avS (xO l i).product, avS (xO l i).product, avS ⟨#[122, 122]⟩, avS ⟨#[]⟩]))], [.box gr ⟨rowL l, 35, cap * 5⟩], k + 1 + 4 * q + 1 + 1 + 1⟩ := by
          intro r63 hr63
          rw [hF]
          refine VA.all (rs := [26, 32, 39, 50]) (by decide +kernel) (by decide) ?_
          refine ⟨⟨_, rfl, .inl rfl, ?_⟩, ⟨_, rfl, .inl rfl, ?_⟩, ⟨_, rfl, .inl rfl, ?_⟩, ⟨_, rfl, .inl rfl, ?_⟩, trivial⟩
          ·
            refine OpE.callT' (k + 1 + 4 * q + 1 + 1 + 1) rfl rfl hB rfl Tryz.call32 rfl (some_T 1000 (by rfl) (by decide) (by decide) (AllS.cons (hok.getD i).2.1 (AllS.cons (hok.getD i).2.1 (AllS.cons (by decide) (AllS.cons (by decide) AllS.nil))))) (by omega) ?_
            rintro _ ⟨r74, hr74, rfl⟩
            have hh := hS20 r63 hr63 r74 hr74
            rw [hF] at hh
            exact VA.to hh (by decide +kernel) (Le.mk hB [0] ⟨rfl, rfl, rfl, rfl, rfl, rfl, rfl, rfl, rfl, rfl, rfl, rfl, rfl, rfl, rfl, rfl, rfl, rfl, rfl, rfl, rfl, rfl, rfl, rfl, trivial⟩ rfl rfl (Nat.le_refl _))
          ·
            refine OpE.buildSlice (zc := #[.int .i64 0, .int .i64 0, .int .i64 0]) rfl hB rfl Tryz.underlying22 Tryz.sizeOf3 Tryz.zeroValue3 (by decide) (by decide) (by kernel_rfl) rfl rfl ?_
            have hh := hS21 r63 hr63
            rw [hF] at hh
            exact VA.to hh (by decide +kernel) (Le.mk hB [0] ⟨rfl, rfl, rfl, rfl, rfl, rfl, rfl, rfl, rfl, rfl, rfl, rfl, rfl, rfl, rfl, rfl, rfl, rfl, rfl, rfl, rfl, rfl, rfl, rfl, trivial⟩ rfl rfl (Nat.le_refl _))
          ·
            refine OpE.buildSlice (zc := #[.int .i64 0, .int .i64 0, .int .i64 0]) rfl hB rfl Tryz.underlying22 Tryz.sizeOf3 Tryz.zeroValue3 (by decide) (by decide) (by kernel_rfl) rfl rfl ?_
            have hh := hS22 r63 hr63
            rw [hF] at hh
            exact VA.to hh (by decide +kernel) (Le.mk hB [0] ⟨rfl, rfl, rfl, rfl, rfl, rfl, rfl, rfl, rfl, rfl, rfl, rfl, rfl, rfl, rfl, rfl, rfl, rfl, rfl, rfl, rfl, rfl, rfl, rfl, trivial⟩ rfl rfl (Nat.le_refl _))
          ·
            refine OpE.buildSlice (zc := #[.int .i64 0, .int .i64 0, .int .i64 0]) rfl hB rfl Tryz.underlying22 Tryz.sizeOf3 Tryz.zeroValue3 (by decide) (by decide) (by kernel_rfl) rfl rfl ?_
            have hh := hS23 r63 hr63
            rw [hF] at hh
            exact VA.to hh (by decide +kernel) (Le.mk hB [0] ⟨rfl, rfl, rfl, rfl, rfl, rfl, rfl, rfl, rfl, rfl, rfl, rfl, rfl, rfl, rfl, rfl, rfl, rfl, rfl, rfl, rfl, rfl, rfl, rfl, trivial⟩ rfl rfl (Nat.le_refl _))
        have hS33 : ∀ (r63 : ByteArray) (hr63 : r63.size ≤ 1000 ∧ r63 ≠ ozK), F 22 (lstB 67 [0, 1, 2, 3, 4, 5, 6, 7, 8, 9, 10, 11, 12, 13, 14, 15, 16, 17, 18, 19, 20, 21, 22, 23, 24, 27, 28, 29, 30, 31, 32, 34, 35, 36, 37, 38, 41, 42, 43, 44, 45, 46, 47, 48, 49]) ⟨[(0, sp p), (53, sp p), (64, sp p), (75, sp p), (82, sp p), (89, sp p), (48, (pO gr (0 + i * 5))), (49, (pO gr (0 + i * 5))), (50, (pO gr (0 + i * 5))), (51, (pO gr (0 + i * 5))), (52, (pO gr (0 + i * 5))), (57, avS (xO l i).key), (61, avS (xO l i).key), (68, avS (xO l i).product), (72, avS (xO l i).product), (79, avI (xO l i).count), (86, avI (xO l i).ready), (93, avI (xO l i).due), (97, avI (xO l i).due), (5, .v (.slice (some ⟨gr, 0, none⟩) l.length cap)), (62, (iO 4 [avS (xO l i).key, avS (xO l i).key, avS ⟨#[]⟩, avS ⟨#[111, 97]⟩])), (63, avS r63), (80, (iO 3 [avI (xO l i).count, avI 0, avI 100001]))], [.box gr ⟨rowL l, 35, cap * 5⟩], k + 1 + 4 * q + 1 + 1 + 1⟩ := by
          intro r63 hr63
          rw [hF]
          refine VA.all (rs := [25, 39, 50]) (by decide +kernel) (by decide) ?_
          refine ⟨⟨_, rfl, .inl rfl, ?_⟩, ⟨_, rfl, .inl rfl, ?_⟩, ⟨_, rfl, .inl rfl, ?_⟩, trivial⟩
          ·
            refine OpE.buildSlice (zc := #[.string ⟨#[]⟩, .string ⟨#[]⟩, .string ⟨#[]⟩, .string ⟨#[]⟩]) rfl hB rfl Tryz.underlying95 Tryz.sizeOf9 Tryz.zeroValue9 (by decide) (by decide) (by kernel_rfl) rfl rfl ?_
            have hh := hS21 r63 hr63
            rw [hF] at hh
            exact VA.to hh (by decide +kernel) (Le.mk hB [0] ⟨rfl, rfl, rfl, rfl, rfl, rfl, rfl, rfl, rfl, rfl, rfl, rfl, rfl, rfl, rfl, rfl, rfl, rfl, rfl, rfl, rfl, rfl, rfl, rfl, trivial⟩ rfl rfl (Nat.le_refl _))
          ·
            refine OpE.buildSlice (zc := #[.int .i64 0, .int .i64 0, .int .i64 0]) rfl hB rfl Tryz.underlying22 Tryz.sizeOf3 Tryz.zeroValue3 (by decide) (by decide) (by kernel_rfl) rfl rfl ?_
            have hh := hS24 r63 hr63
            rw [hF] at hh
            exact VA.to hh (by decide +kernel) (Le.mk hB [0] ⟨rfl, rfl, rfl, rfl, rfl, rfl, rfl, rfl, rfl, rfl, rfl, rfl, rfl, rfl, rfl, rfl, rfl, rfl, rfl, rfl, rfl, rfl, rfl, rfl, trivial⟩ rfl rfl (Nat.le_refl _))
          ·
            refine OpE.buildSlice (zc := #[.int .i64 0, .int .i64 0, .int .i64 0]) rfl hB rfl Tryz.underlying22 Tryz.sizeOf3 Tryz.zeroValue3 (by decide) (by decide) (by kernel_rfl) rfl rfl ?_
            have hh := hS25 r63 hr63
            rw [hF] at hh
            exact VA.to hh (by decide +kernel) (Le.mk hB [0] ⟨rfl, rfl, rfl, rfl, rfl, rfl, rfl, rfl, rfl, rfl, rfl, rfl, rfl, rfl, rfl, rfl, rfl, rfl, rfl, rfl, rfl, rfl, rfl, rfl, trivial⟩ rfl rfl (Nat.le_refl _))
        have hS34 : ∀ (r63 : ByteArray) (hr63 : r63.size ≤ 1000 ∧ r63 ≠ ozK), F 22 (lstB 67 [0, 1, 2, 3, 4, 5, 6, 7, 8, 9, 10, 11, 12, 13, 14, 15, 16, 17, 18, 19, 20, 21, 22, 23, 24, 27, 28, 29, 30, 31, 34, 35, 36, 37, 38, 39, 41, 42, 43, 44, 45, 46, 47, 48, 49]) ⟨[(0, sp p), (53, sp p), (64, sp p), (75, sp p), (82, sp p), (89, sp p), (48, (pO gr (0 + i * 5))), (49, (pO gr (0 + i * 5))), (50, (pO gr (0 + i * 5))), (51, (pO gr (0 + i * 5))), (52, (pO gr (0 + i * 5))), (57, avS (xO l i).key), (61, avS (xO l i).key), (68, avS (xO l i).product), (72, avS (xO l i).product), (79, avI (xO l i).count), (86, avI (xO l i).ready), (93, avI (xO l i).due), (97, avI (xO l i).due), (5, .v (.slice (some ⟨gr, 0, none⟩) l.length cap)), (62, (iO 4 [avS (xO l i).key, avS (xO l i).key, avS ⟨#[]⟩, avS ⟨#[111, 97]⟩])), (63, avS r63), (87, (iO 3 [avI (xO l i).ready, avI (-1), avI 345686400000]))], [.box gr ⟨rowL l, 35, cap * 5⟩], k + 1 + 4 * q + 1 + 1 + 1⟩ := by
          intro r63 hr63
          rw [hF]
          refine VA.all (rs := [25, 32, 50]) (by decide +kernel) (by decide) ?_
          refine ⟨⟨_, rfl, .inl rfl, ?_⟩, ⟨_, rfl, .inl rfl, ?_⟩, ⟨_, rfl, .inl rfl, ?_⟩, trivial⟩
          ·
            refine OpE.buildSlice (zc := #[.string ⟨#[]⟩, .string ⟨#[]⟩, .string ⟨#[]⟩, .string ⟨#[]⟩]) rfl hB rfl Tryz.underlying95 Tryz.sizeOf9 Tryz.zeroValue9 (by decide) (by decide) (by kernel_rfl) rfl rfl ?_
            have hh := hS22 r63 hr63
            rw [hF] at hh
            exact VA.to hh (by decide +kernel) (Le.mk hB [0] ⟨rfl, rfl, rfl, rfl, rfl, rfl, rfl, rfl, rfl, rfl, rfl, rfl, rfl, rfl, rfl, rfl, rfl, rfl, rfl, rfl, rfl, rfl, rfl, rfl, trivial⟩ rfl rfl (Nat.le_refl _))
          ·
            refine OpE.buildSlice (zc := #[.int .i64 0, .int .i64 0, .int .i64 0]) rfl hB rfl Tryz.underlying22 Tryz.sizeOf3 Tryz.zeroValue3 (by decide) (by decide) (by kernel_rfl) rfl rfl ?_
            have hh := hS24 r63 hr63
            rw [hF] at hh
            exact VA.to hh (by decide +kernel) (Le.mk hB [0] ⟨rfl, rfl, rfl, rfl, rfl, rfl, rfl, rfl, rfl, rfl, rfl, rfl, rfl, rfl, rfl, rfl, rfl, rfl, rfl, rfl, rfl, rfl, rfl, rfl, trivial⟩ rfl rfl (Nat.le_refl _))
          ·
            refine OpE.buildSlice (zc := #[.int .i64 0, .int .i64 0, .int .i64 0]) rfl hB rfl Tryz.underlying22 Tryz.sizeOf3 Tryz.zeroValue3 (by decide) (by decide) (by kernel_rfl) rfl rfl ?_
            have hh := hS26 r63 hr63
            rw [hF] at hh
            exact VA.to hh (by decide +kernel) (Le.mk hB [0] ⟨rfl, rfl, rfl, rfl, rfl, rfl, rfl, rfl, rfl, rfl, rfl, rfl, rfl, rfl, rfl, rfl, rfl, rfl, rfl, rfl, rfl, rfl, rfl, rfl, trivial⟩ rfl rfl (Nat.le_refl _))
        have hS35 : ∀ (r63 : ByteArray) (hr63 : r63.size ≤ 1000 ∧ r63 ≠ ozK), F 22 (lstB 67 [0, 1, 2, 3, 4, 5, 6, 7, 8, 9, 10, 11, 12, 13, 14, 15, 16, 17, 18, 19, 20, 21, 22, 23, 24, 27, 28, 29, 30, 31, 34, 35, 36, 37, 38, 41, 42, 43, 44, 45, 46, 47, 48, 49, 50]) ⟨[(0, sp p), (53, sp p), (64, sp p), (75, sp p), (82, sp p), (89, sp p), (48, (pO gr (0 + i * 5))), (49, (pO gr (0 + i * 5))), (50, (pO gr (0 + i * 5))), (51, (pO gr (0 + i * 5))), (52, (pO gr (0 + i * 5))), (57, avS (xO l i).key), (61, avS (xO l i).key), (68, avS (xO l i).product), (72, avS (xO l i).product), (79, avI (xO l i).count), (86, avI (xO l i).ready), (93, avI (xO l i).due), (97, avI (xO l i).due), (5, .v (.slice (some ⟨gr, 0, none⟩) l.length cap)), (62, (iO 4 [avS (xO l i).key, avS (xO l i).key, avS ⟨#[]⟩, avS ⟨#[111, 97]⟩])), (63, avS r63), (98, (iO 3 [avI (xO l i).due, avI (xO l i).due, avI 345686400000]))], [.box gr ⟨rowL l, 35, cap * 5⟩], k + 1 + 4 * q + 1 + 1 + 1⟩ := by
          intro r63 hr63
          rw [hF]
          refine VA.all (rs := [25, 32, 39]) (by decide +kernel) (by decide) ?_
          refine ⟨⟨_, rfl, .inl rfl, ?_⟩, ⟨_, rfl, .inl rfl, ?_⟩, ⟨_, rfl, .inl rfl, ?_⟩, trivial⟩
          ·
            refine OpE.buildSlice (zc := #[.string ⟨#[]⟩, .string ⟨#[]⟩, .string ⟨#[]⟩, .string ⟨#[]⟩]) rfl hB rfl Tryz.underlying95 Tryz.sizeOf9 Tryz.zeroValue9 (by decide) (by decide) (by kernel_rfl) rfl rfl ?_
            have hh := hS23 r63 hr63
            rw [hF] at hh
            exact VA.to hh (by decide +kernel) (Le.mk hB [0] ⟨rfl, rfl, rfl, rfl, rfl, rfl, rfl, rfl, rfl, rfl, rfl, rfl, rfl, rfl, rfl, rfl, rfl, rfl, rfl, rfl, rfl, rfl, rfl, rfl, trivial⟩ rfl rfl (Nat.le_refl _))
          ·
            refine OpE.buildSlice (zc := #[.int .i64 0, .int .i64 0, .int .i64 0]) rfl hB rfl Tryz.underlying22 Tryz.sizeOf3 Tryz.zeroValue3 (by decide) (by decide) (by kernel_rfl) rfl rfl ?_
            have hh := hS25 r63 hr63
            rw [hF] at hh
            exact VA.to hh (by decide +kernel) (Le.mk hB [0] ⟨rfl, rfl, rfl, rfl, rfl, rfl, rfl, rfl, rfl, rfl, rfl, rfl, rfl, rfl, rfl, rfl, rfl, rfl, rfl, rfl, rfl, rfl, rfl, rfl, trivial⟩ rfl rfl (Nat.le_refl _))
          ·
            refine OpE.buildSlice (zc := #[.int .i64 0, .int .i64 0, .int .i64 0]) rfl hB rfl Tryz.underlying22 Tryz.sizeOf3 Tryz.zeroValue3 (by decide) (by decide) (by kernel_rfl) rfl rfl ?_
            have hh := hS26 r63 hr63
            rw [hF] at hh
            exact VA.to hh (by decide +kernel) (Le.mk hB [0] ⟨rfl, rfl, rfl, rfl, rfl, rfl, rfl, rfl, rfl, rfl, rfl, rfl, rfl, rfl, rfl, rfl, rfl, rfl, rfl, rfl, rfl, rfl, rfl, rfl, trivial⟩ rfl rfl (Nat.le_refl _))
        have hS36 : F 22 (lstB 67 [0, 1, 2, 3, 4, 5, 6, 7, 8, 9, 10, 11, 12, 13, 14, 16, 17, 18, 19, 20, 21, 22, 23, 24, 25, 27, 28, 29, 30, 31, 32, 34, 35, 36, 37, 38, 41, 42, 43, 44, 45, 46, 47, 48, 49]) ⟨[(0, sp p), (53, sp p), (64, sp p), (75, sp p), (82, sp p), (89, sp p), (48, (pO gr (0 + i * 5))), (49, (pO gr (0 + i * 5))), (50, (pO gr (0 + i * 5))), (51, (pO gr (0 + i * 5))), (52, (pO gr (0 + i * 5))), (57, avS (xO l i).key), (61, avS (xO l i).key), (68, avS (xO l i).product), (72, avS (xO l i).product), (79, avI (xO l i).count), (86, avI (xO l i).ready), (93, avI (xO l i).due), (97, avI (xO l i).due), (5, .v (.slice (some ⟨gr, 0, none⟩) l.length cap)), (62, (iO 4 [avS (xO l i).key, avS (xO l i).key, avS ⟨#[]⟩, avS ⟨#[111, 97]⟩])), (73, (iO 4 [avS (xO l i).product, avS (xO l i).product, avS ⟨#[122, 122]⟩, avS ⟨#[]⟩])), (80, (iO 3 [avI (xO l i).count, avI 0, avI 100001]))], [.box gr ⟨rowL l, 35, cap * 5⟩], k + 1 + 4 * q + 1 + 1⟩ := by
          rw [hF]
          refine VA.all (rs := [15, 39, 50]) (by decide +kernel) (by decide) ?_
          refine ⟨⟨_, rfl, .inl rfl, ?_⟩, ⟨_, rfl, .inl rfl, ?_⟩, ⟨_, rfl, .inl rfl, ?_⟩, trivial⟩
          ·
            refine OpE.callT' (k + 1 + 4 * q + 1 + 1) rfl rfl hB rfl Tryz.call32 rfl (some_Q (by rfl) (by decide) (by decide) (AllQ.cons ⟨(hok.getD i).1, (hok.getD i).2.2⟩ (AllQ.cons ⟨(hok.getD i).1, (hok.getD i).2.2⟩ (AllQ.cons (by decide) (AllQ.cons (by decide) AllQ.nil))))) (by omega) ?_
            rintro _ ⟨r63, hr63, rfl⟩
            have hh := hS21 r63 hr63
            rw [hF] at hh
            exact VA.to hh (by decide +kernel) (Le.mk hB [0] ⟨rfl, rfl, rfl, rfl, rfl, rfl, rfl, rfl, rfl, rfl, rfl, rfl, rfl, rfl, rfl, rfl, rfl, rfl, rfl, rfl, rfl, rfl, rfl, rfl, trivial⟩ rfl rfl (Nat.le_refl _))
          ·
            refine OpE.buildSlice (zc := #[.int .i64 0, .int .i64 0, .int .i64 0]) rfl hB rfl Tryz.underlying22 Tryz.sizeOf3 Tryz.zeroValue3 (by decide) (by decide) (by kernel_rfl) rfl rfl ?_
            have hh := hS27 
            rw [hF] at hh
            exact VA.to hh (by decide +kernel) (Le.mk hB [0] ⟨rfl, rfl, rfl, rfl, rfl, rfl, rfl, rfl, rfl, rfl, rfl, rfl, rfl, rfl, rfl, rfl, rfl, rfl, rfl, rfl, rfl, rfl, rfl, rfl, trivial⟩ rfl rfl (Nat.le_refl _))
          ·
            refine OpE.buildSlice (zc := #[.int .i64 0, .int .i64 0, .int .i64 0]) rfl hB rfl Tryz.underlying22 Tryz.sizeOf3 Tryz.zeroValue3 (by decide) (by decide) (by kernel_rfl) rfl rfl ?_
            have hh := hS28 
            rw [hF] at hh
            exact VA.to hh (by decide +kernel) (Le.mk hB [0] ⟨rfl, rfl, rfl, rfl, rfl, rfl, rfl, rfl, rfl, rfl, rfl, rfl, rfl, rfl, rfl, rfl, rfl, rfl, rfl, rfl, rfl, rfl, rfl, rfl, trivial⟩ rfl rfl (Nat.le_refl _))
        have hS37 : F 22 (lstB 67 [0, 1, 2, 3, 4, 5, 6, 7, 8, 9, 10, 11, 12, 13, 14, 16, 17, 18, 19, 20, 21, 22, 23, 24, 25, 27, 28, 29, 30, 31, 34, 35, 36, 37, 38, 39, 41, 42, 43, 44, 45, 46, 47, 48, 49]) ⟨[(0, sp p), (53, sp p), (64, sp p), (75, sp p), (82, sp p), (89, sp p), (48, (pO gr (0 + i * 5))), (49, (pO gr (0 + i * 5))), (50, (pO gr (0 + i * 5))), (51, (pO gr (0 + i * 5))), (52, (pO gr (0 + i * 5))), (57, avS (xO l i).key), (61, avS (xO l i).key), (68, avS (xO l i).product), (72, avS (xO l i).product), (79, avI (xO l i).count), (86, avI (xO l i).ready), (93, avI (xO l i).due), (97, avI (xO l i).due), (5, .v (.slice (some ⟨gr, 0, none⟩) l.length cap)), (62, (iO 4 [avS (xO l i).key, avS (xO l i).key, avS ⟨#[]⟩, avS ⟨#[111, 97]⟩])), (73, (iO 4 [avS (xO l i).product, avS (xO l i).product, avS ⟨#[122, 122]⟩, avS ⟨#[]⟩])), (87, (iO 3 [avI (xO l i).ready, avI (-1), avI 345686400000]))], [.box gr ⟨rowL l, 35, cap * 5⟩], k + 1 + 4 * q + 1 + 1⟩ := by
          rw [hF]
          refine VA.all (rs := [15, 32, 50]) (by decide +kernel) (by decide) ?_
          refine ⟨⟨_, rfl, .inl rfl, ?_⟩, ⟨_, rfl, .inl rfl, ?_⟩, ⟨_, rfl, .inl rfl, ?_⟩, trivial⟩
          ·
            refine OpE.callT' (k + 1 + 4 * q + 1 + 1) rfl rfl hB rfl Tryz.call32 rfl (some_Q (by rfl) (by decide) (by decide) (AllQ.cons ⟨(hok.getD i).1, (hok.getD i).2.2⟩ (AllQ.cons ⟨(hok.getD i).1, (hok.getD i).2.2⟩ (AllQ.cons (by decide) (AllQ.cons (by decide) AllQ.nil))))) (by omega) ?_
            rintro _ ⟨r63, hr63, rfl⟩
            have hh := hS22 r63 hr63
            rw [hF] at hh
            exact VA.to hh (by decide +kernel) (Le.mk hB [0] ⟨rfl, rfl, rfl, rfl, rfl, rfl, rfl, rfl, rfl, rfl, rfl, rfl, rfl, rfl, rfl, rfl, rfl, rfl, rfl, rfl, rfl, rfl, rfl, rfl, trivial⟩ rfl rfl (Nat.le_refl _))
          ·
            refine OpE.buildSlice (zc := #[.int .i64 0, .int .i64 0, .int .i64 0]) rfl hB rfl Tryz.underlying22 Tryz.sizeOf3 Tryz.zeroValue3 (by decide) (by decide) (by kernel_rfl) rfl rfl ?_
            have hh := hS27 
            rw [hF] at hh
            exact VA.to hh (by decide +kernel) (Le.mk hB [0] ⟨rfl, rfl, rfl, rfl, rfl, rfl, rfl, rfl, rfl, rfl, rfl, rfl, rfl, rfl, rfl, rfl, rfl, rfl, rfl, rfl, rfl, rfl, rfl, rfl, trivial⟩ rfl rfl (Nat.le_refl _))
          ·
            refine OpE.buildSlice (zc := #[.int .i64 0, .int .i64 0, .int .i64 0]) rfl hB rfl Tryz.underlying22 Tryz.sizeOf3 Tryz.zeroValue3 (by decide) (by decide) (by kernel_rfl) rfl rfl ?_
            have hh := hS29 
            rw [hF] at hh
            exact VA.to hh (by decide +kernel) (Le.mk hB [0] ⟨rfl, rfl, rfl, rfl, rfl, rfl, rfl, rfl, rfl, rfl, rfl, rfl, rfl, rfl, rfl, rfl, rfl, rfl, rfl, rfl, rfl, rfl, rfl, rfl, trivial⟩ rfl rfl (Nat.le_refl _))
        have hS38 : F 22 (lstB 67 [0, 1, 2, 3, 4, 5, 6, 7, 8, 9, 10, 11, 12, 13, 14, 16, 17, 18, 19, 20, 21, 22, 23, 24, 25, 27, 28, 29, 30, 31, 34, 35, 36, 37, 38, 41, 42, 43, 44, 45, 46, 47, 48, 49, 50]) ⟨[(0, sp p), (53, sp p), (64, sp p), (75, sp p), (82, sp p), (89, sp p), (48, (pO gr (0 + i * 5))), (49, (pO gr (0 + i * 5))), (50, (pO gr (0 + i * 5))), (51, (pO gr (0 + i * 5))), (52, (pO gr (0 + i * 5))), (57, avS (xO l i).key), (61, avS (xO l i).key), (68, avS (xO l i).product), (72, avS (xO l i).product), (79, avI (xO l i).count), (86, avI (xO l i).ready), (93, avI (xO l i).due), (97, avI (xO l i).due), (5, .v (.slice (some ⟨gr, 0, none⟩) l.length cap)), (62, (iO 4 [avS (xO l i).key, avS (xO l i).key, avS ⟨#[]⟩, avS ⟨#[111, 97]⟩])), (73, (iO 4 [avS (xO l i).product, avS (xO l i).product, avS ⟨#[122, 122]⟩, avS ⟨#[]⟩])), (98, (iO 3 [avI (xO l i).due, avI (xO l i).due, avI 345686400000]))], [.box gr ⟨rowL l, 35, cap * 5⟩], k + 1 + 4 * q + 1 + 1⟩ := by
          rw [hF]
          refine VA.all (rs := [15, 32, 39]) (by decide +kernel) (by decide) ?_
          refine ⟨⟨_, rfl, .inl rfl, ?_⟩, ⟨_, rfl, .inl rfl, ?_⟩, ⟨_, rfl, .inl rfl, ?_⟩, trivial⟩
          ·
            refine OpE.callT' (k + 1 + 4 * q + 1 + 1) rfl rfl hB rfl Tryz.call32 rfl (some_Q (by rfl) (by decide) (by decide) (AllQ.cons ⟨(hok.getD i).1, (hok.getD i).2.2⟩ (AllQ.cons ⟨(hok.getD i).1, (hok.getD i).2.2⟩ (AllQ.cons (by decide) (AllQ.cons (by decide) AllQ.nil))))) (by omega) ?_
            rintro _ ⟨r63, hr63, rfl⟩
            have hh := hS23 r63 hr63
            rw [hF] at hh
            exact VA.to hh (by decide +kernel) (Le.mk hB [0] ⟨rfl, rfl, rfl, rfl, rfl, rfl, rfl, rfl, rfl, rfl, rfl, rfl, rfl, rfl, rfl, rfl, rfl, rfl, rfl, rfl, rfl, rfl, rfl, rfl, trivial⟩ rfl rfl (Nat.le_refl _))
          ·
            refine OpE.buildSlice (zc := #[.int .i64 0, .int .i64 0, .int .i64 0]) rfl hB rfl Tryz.underlying22 Tryz.sizeOf3 Tryz.zeroValue3 (by decide) (by decide) (by kernel_rfl) rfl rfl ?_
            have hh := hS28 
            rw [hF] at hh
            exact VA.to hh (by decide +kernel) (Le.mk hB [0] ⟨rfl, rfl, rfl, rfl, rfl, rfl, rfl, rfl, rfl, rfl, rfl, rfl, rfl, rfl, rfl, rfl, rfl, rfl, rfl, rfl, rfl, rfl, rfl, rfl, trivial⟩ rfl rfl (Nat.le_refl _))
          ·
            refine OpE.buildSlice (zc := #[.int .i64 0, .int .i64 0, .int .i64 0]) rfl hB rfl Tryz.underlying22 Tryz.sizeOf3 Tryz.zeroValue3 (by decide) (by decide) (by kernel_rfl) rfl rfl ?_
            have hh := hS29 
            rw [hF] at hh
            exact VA.to hh (by decide +kernel) (Le.mk hB [0] ⟨rfl, rfl, rfl, rfl, rfl, rfl, rfl, rfl, rfl, rfl, rfl, rfl, rfl, rfl, rfl, rfl, rfl, rfl, rfl, rfl, rfl, rfl, rfl, rfl, trivial⟩ rfl rfl (Nat.le_refl _))
        have hS39 : F 22 (lstB 67 [0, 1, 2, 3, 4, 5, 6, 7, 8, 9, 10, 11, 12, 13, 14, 16, 17, 18, 19, 20, 21, 22, 23, 24, 27, 28, 29, 30, 31, 32, 34, 35, 36, 37, 38, 39, 41, 42, 43, 44, 45, 46, 47, 48, 49]) ⟨[(0, sp p), (53, sp p), (64, sp p), (75, sp p), (82, sp p), (89, sp p), (48, (pO gr (0 + i * 5))), (49, (pO gr (0 + i * 5))), (50, (pO gr (0 + i * 5))), (51, (pO gr (0 + i * 5))), (52, (pO gr (0 + i * 5))), (57, avS (xO l i).key), (61, avS (xO l i).key), (68, avS (xO l i).product), (72, avS (xO l i).product), (79, avI (xO l i).count), (86, avI (xO l i).ready), (93, avI (xO l i).due), (97, avI (xO l i).due), (5, .v (.slice (some ⟨gr, 0, none⟩) l.length cap)), (62, (iO 4 [avS (xO l i).key, avS (xO l i).key, avS ⟨#[]⟩, avS ⟨#[111, 97]⟩])), (80, (iO 3 [avI (xO l i).count, avI 0, avI 100001])), (87, (iO 3 [avI (xO l i).ready, avI (-1), avI 345686400000]))], [.box gr ⟨rowL l, 35, cap * 5⟩], k + 1 + 4 * q + 1 + 1⟩ := by
          rw [hF]
          refine VA.all (rs := [15, 25, 50]) (by decide +kernel) (by decide) ?_
          refine ⟨⟨_, rfl, .inl rfl, ?_⟩, ⟨_, rfl, .inl rfl, ?_⟩, ⟨_, rfl, .inl rfl, ?_⟩, trivial⟩
          ·
            refine OpE.callT' (k + 1 + 4 * q + 1 + 1) rfl rfl hB rfl Tryz.call32 rfl (some_Q (by rfl) (by decide) (by decide) (AllQ.cons ⟨(hok.getD i).1, (hok.getD i).2.2⟩ (AllQ.cons ⟨(hok.getD i).1, (hok.getD i).2.2⟩ (AllQ.cons (by decide) (AllQ.cons (by decide) AllQ.nil))))) (by omega) ?_
            rintro _ ⟨r63, hr63, rfl⟩
            have hh := hS24 r63 hr63
            rw [hF] at hh
            exact VA.to hh (by decide +kernel) (Le.mk hB [0] ⟨rfl, rfl, rfl, rfl, rfl, rfl, rfl, rfl, rfl, rfl, rfl, rfl, rfl, rfl, rfl, rfl, rfl, rfl, rfl, rfl, rfl, rfl, rfl, rfl, trivial⟩ rfl rfl (Nat.le_refl _))
          ·
            refine OpE.buildSlice (zc := #[.string ⟨#[]⟩, .string ⟨#[]⟩, .string ⟨#[]⟩, .string ⟨#[]⟩]) rfl hB rfl Tryz.underlying95 Tryz.sizeOf9 Tryz.zeroValue9 (by decide) (by decide) (by kernel_rfl) rfl rfl ?_
            have hh := hS27 
            rw [hF] at hh
            exact VA.to hh (by decide +kernel) (Le.mk hB [0] ⟨rfl, rfl, rfl, rfl, rfl, rfl, rfl, rfl, rfl, rfl, rfl, rfl, rfl, rfl, rfl, rfl, rfl, rfl, rfl, rfl, rfl, rfl, rfl, rfl, trivial⟩ rfl rfl (Nat.le_refl _))
          ·
            refine OpE.buildSlice (zc := #[.int .i64 0, .int .i64 0, .int .i64 0]) rfl hB rfl Tryz.underlying22 Tryz.sizeOf3 Tryz.zeroValue3 (by decide) (by decide) (by kernel_rfl) rfl rfl ?_
            have hh := hS30 
            rw [hF] at hh
            exact VA.to hh (by decide +kernel) (Le.mk hB [0] ⟨rfl, rfl, rfl, rfl, rfl, rfl, rfl, rfl, rfl, rfl, rfl, rfl, rfl, rfl, rfl, rfl, rfl, rfl, rfl, rfl, rfl, rfl, rfl, rfl, trivial⟩ rfl rfl (Nat.le_refl _))
        have hS40 : F 22 (lstB 67 [0, 1, 2, 3, 4, 5, 6, 7, 8, 9, 10, 11, 12, 13, 14, 16, 17, 18, 19, 20, 21, 22, 23, 24, 27, 28, 29, 30, 31, 32, 34, 35, 36, 37, 38, 41, 42, 43, 44, 45, 46, 47, 48, 49, 50]) ⟨[(0, sp p), (53, sp p), (64, sp p), (75, sp p), (82, sp p), (89, sp p), (48, (pO gr (0 + i * 5))), (49, (pO gr (0 + i * 5))), (50, (pO gr (0 + i * 5))), (51, (pO gr (0 + i * 5))), (52, (pO gr (0 + i * 5))), (57, avS (xO l i).key), (61, avS (xO l i).key), (68, avS (xO l i).product), (72, avS (xO l i).product), (79, avI (xO l i).count), (86, avI (xO l i).ready), (93, avI (xO l i).due), (97, avI (xO l i).due), (5, .v (.slice (some ⟨gr, 0, none⟩) l.length cap)), (62, (iO 4 [avS (xO l i).key, avS (xO l i).key, avS ⟨#[]⟩, avS ⟨#[111, 97]⟩])), (80, (iO 3 [avI (xO l i).count, avI 0, avI 100001])), (98, (iO 3 [avI (xO l i).due, avI (xO l i).due, avI 345686400000]))], [.box gr ⟨rowL l, 35, cap * 5⟩], k + 1 + 4 * q + 1 + 1⟩ := by
          rw [hF]
          refine VA.all (rs := [15, 25, 39]) (by decide +kernel) (by decide) ?_
          refine ⟨⟨_, rfl, .inl rfl, ?_⟩, ⟨_, rfl, .inl rfl, ?_⟩, ⟨_, rfl, .inl rfl, ?_⟩, trivial⟩
          ·
            refine OpE.callT' (k + 1 + 4 * q + 1 + 1) rfl rfl hB rfl Tryz.call32 rfl (some_Q (by rfl) (by decide) (by decide) (AllQ.cons ⟨(hok.getD i).1, (hok.getD i).2.2⟩ (AllQ.cons ⟨(hok.getD i).1, (hok.getD i).2.2⟩ (AllQ.cons (by decide) (AllQ.cons (by decide) AllQ.nil))))) (by omega) ?_
            rintro _ ⟨r63, hr63, rfl⟩
            have hh := hS25 r63 hr63
            rw [hF] at hh
            exact VA.to hh (by decide +kernel) (Le.mk hB [0] ⟨rfl, rfl, rfl, rfl, rfl, rfl, rfl, rfl, rfl, rfl, rfl, rfl, rfl, rfl, rfl, rfl, rfl, rfl, rfl, rfl, rfl, rfl, rfl, rfl, trivial⟩ rfl rfl (Nat.le_refl _))
          ·
            refine OpE.buildSlice (zc := #[.string ⟨#[]⟩, .string ⟨#[]⟩, .string ⟨#[]⟩, .string ⟨#[]⟩]) rfl hB rfl Tryz.underlying95 Tryz.sizeOf9 Tryz.zeroValue9 (by decide) (by decide) (by kernel_rfl) rfl rfl ?_
            have hh := hS28 
            rw [hF] at hh
            exact VA.to hh (by decide +kernel) (Le.mk hB [0] ⟨rfl, rfl, rfl, rfl, rfl, rfl, rfl, rfl, rfl, rfl, rfl, rfl, rfl, rfl, rfl, rfl, rfl, rfl, rfl, rfl, rfl, rfl, rfl, rfl, trivial⟩ rfl rfl (Nat.le_refl _))
          ·
            refine OpE.buildSlice (zc := #[.int .i64 0, .int .i64 0, .int .i64 0]) rfl hB rfl Tryz.underlying22 Tryz.sizeOf3 Tryz.zeroValue3 (by decide) (by decide) (by kernel_rfl) rfl rfl ?_
            have hh := hS30 
            rw [hF] at hh
            exact VA.to hh (by decide +kernel) (Le.mk hB [0] ⟨rfl, rfl, rfl, rfl, rfl, rfl, rfl, rfl, rfl, rfl, rfl, rfl, rfl, rfl, rfl, rfl, rfl, rfl, rfl, rfl, rfl, rfl, rfl, rfl, trivial⟩ rfl rfl (Nat.le_refl _))
        have hS41 : F 22 (lstB 67 [0, 1, 2, 3, 4, 5, 6, 7, 8, 9, 10, 11, 12, 13, 14, 16, 17, 18, 19, 20, 21, 22, 23, 24, 27, 28, 29, 30, 31, 34, 35, 36, 37, 38, 39, 41, 42, 43, 44, 45, 46, 47, 48, 49, 50]) ⟨[(0, sp p), (53, sp p), (64, sp p), (75, sp p), (82, sp p), (89, sp p), (48, (pO gr (0 + i * 5))), (49, (pO gr (0 + i * 5))), (50, (pO gr (0 + i * 5))), (51, (pO gr (0 + i * 5))), (52, (pO gr (0 + i * 5))), (57, avS (xO l i).key), (61, avS (xO l i).key), (68, avS (xO l i).product), (72, avS (xO l i).product), (79, avI (xO l i).count), (86, avI (xO l i).ready), (93, avI (xO l i).due), (97, avI (xO l i).due), (5, .v (.slice (some ⟨gr, 0, none⟩) l.length cap)), (62, (iO 4 [avS (xO l i).key, avS (xO l i).key, avS ⟨#[]⟩, avS ⟨#[111, 97]⟩])), (87, (iO 3 [avI (xO l i).ready, avI (-1), avI 345686400000])), (98, (iO 3 [avI (xO l i).due, avI (xO l i).due, avI 345686400000]))], [.box gr ⟨rowL l, 35, cap * 5⟩], k + 1 + 4 * q + 1 + 1⟩ := by
          rw [hF]
          refine VA.all (rs := [15, 25, 32]) (by decide +kernel) (by decide) ?_
          refine ⟨⟨_, rfl, .inl rfl, ?_⟩, ⟨_, rfl, .inl rfl, ?_⟩, ⟨_, rfl, .inl rfl, ?_⟩, trivial⟩
          ·
            refine OpE.callT' (k + 1 + 4 * q + 1 + 1) rfl rfl hB rfl Tryz.call32 rfl (some_Q (by rfl) (by decide) (by decide) (AllQ.cons ⟨(hok.getD i).1, (hok.getD i).2.2⟩ (AllQ.cons ⟨(hok.getD i).1, (hok.getD i).2.2⟩ (AllQ.cons (by decide) (AllQ.cons (by decide) AllQ.nil))))) (by omega) ?_
            rintro _ ⟨r63, hr63, rfl⟩
            have hh := hS26 r63 hr63
            rw [hF] at hh
            exact VA.to hh (by decide +kernel) (Le.mk hB [0] ⟨rfl, rfl, rfl, rfl, rfl, rfl, rfl, rfl, rfl, rfl, rfl, rfl, rfl, rfl, rfl, rfl, rfl, rfl, rfl, rfl, rfl, rfl, rfl, rfl, trivial⟩ rfl rfl (Nat.le_refl _))
          ·
            refine OpE.buildSlice (zc := #[.string ⟨#[]⟩, .string ⟨#[]⟩, .string ⟨#[]⟩, .string ⟨#[]⟩]) rfl hB rfl Tryz.underlying95 Tryz.sizeOf9 Tryz.zeroValue9 (by decide) (by decide) (by kernel_rfl) rfl rfl ?_
            have hh := hS29 
            rw [hF] at hh
            exact VA.to hh (by decide +kernel) (Le.mk hB [0] ⟨rfl, rfl, rfl, rfl, rfl, rfl, rfl, rfl, rfl, rfl, rfl, rfl, rfl, rfl, rfl, rfl, rfl, rfl, rfl, rfl, rfl, rfl, rfl, rfl, trivial⟩ rfl rfl (Nat.le_refl _))
          ·
            refine OpE.buildSlice (zc := #[.int .i64 0, .int .i64 0, .int .i64 0]) rfl hB rfl Tryz.underlying22 Tryz.sizeOf3 Tryz.zeroValue3 (by decide) (by decide) (by kernel_rfl) rfl rfl ?_
            have hh := hS30 
            rw [hF] at hh
            exact VA.to hh (by decide +kernel) (Le.mk hB [0] ⟨rfl, rfl, rfl, rfl, rfl, rfl, rfl, rfl, rfl, rfl, rfl, rfl, rfl, rfl, rfl, rfl, rfl, rfl, rfl, rfl, rfl, rfl, rfl, rfl, trivial⟩ rfl rfl (Nat.le_refl _))
        have hS42 : F 22 (lstB 67 [0, 1, 2, 3, 4, 5, 6, 7, 8, 9, 10, 11, 12, 13, 16, 17, 18, 19, 20, 21, 22, 23, 24, 25, 27, 28, 29, 30, 31, 32, 34, 35, 36, 37, 38, 39, 41, 42, 43, 44, 45, 46, 47, 48, 49]) ⟨[(0, sp p), (53, sp p), (64, sp p), (75, sp p), (82, sp p), (89, sp p), (48, (pO gr (0 + i * 5))), (49, (pO gr (0 + i * 5))), (50, (pO gr (0 + i * 5))), (51, (pO gr (0 + i * 5))), (52, (pO gr (0 + i * 5))), (57, avS (xO l i).key), (61, avS (xO l i).key), (68, avS (xO l i).product), (72, avS (xO l i).product), (79, avI (xO l i).count), (86, avI (xO l i).ready), (93, avI (xO l i).due), (97, avI (xO l i).due), (5, .v (.slice (some ⟨gr, 0, none⟩) l.length cap)), (73, (iO 4 [avS (xO l i).product, avS (xO l i).product, avS ⟨#[122, 122]⟩, avS ⟨#[]⟩])), (80, (iO 3 [avI (xO l i).count, avI 0, avI 100001])), (87, (iO 3 [avI (xO l i).ready, avI (-1), avI 345686400000]))], [.box gr ⟨rowL l, 35, cap * 5⟩], k + 1 + 4 * q + 1 + 1⟩ := by
          rw [hF]
          refine VA.all (rs := [14, 50]) (by decide +kernel) (by decide) ?_
          refine ⟨⟨_, rfl, .inl rfl, ?_⟩, ⟨_, rfl, .inl rfl, ?_⟩, trivial⟩
          ·
            refine OpE.buildSlice (zc := #[.string ⟨#[]⟩, .string ⟨#[]⟩, .string ⟨#[]⟩, .string ⟨#[]⟩]) rfl hB rfl Tryz.underlying95 Tryz.sizeOf9 Tryz.zeroValue9 (by decide) (by decide) (by kernel_rfl) rfl rfl ?_
            have hh := hS27 
            rw [hF] at hh
            exact VA.to hh (by decide +kernel) (Le.mk hB [0] ⟨rfl, rfl, rfl, rfl, rfl, rfl, rfl, rfl, rfl, rfl, rfl, rfl, rfl, rfl, rfl, rfl, rfl, rfl, rfl, rfl, rfl, rfl, rfl, rfl, trivial⟩ rfl rfl (Nat.le_refl _))
          ·
            refine OpE.buildSlice (zc := #[.int .i64 0, .int .i64 0, .int .i64 0]) rfl hB rfl Tryz.underlying22 Tryz.sizeOf3 Tryz.zeroValue3 (by decide) (by decide) (by kernel_rfl) rfl rfl ?_
            have hh := hS31 
            rw [hF] at hh
            exact VA.to hh (by decide +kernel) (Le.mk hB [0] ⟨rfl, rfl, rfl, rfl, rfl, rfl, rfl, rfl, rfl, rfl, rfl, rfl, rfl, rfl, rfl, rfl, rfl, rfl, rfl, rfl, rfl, rfl, rfl, rfl, trivial⟩ rfl rfl (Nat.le_refl _))
        have hS43 : F 22 (lstB 67 [0, 1, 2, 3, 4, 5, 6, 7, 8, 9, 10, 11, 12, 13, 16, 17, 18, 19, 20, 21, 22, 23, 24, 25, 27, 28, 29, 30, 31, 32, 34, 35, 36, 37, 38, 41, 42, 43, 44, 45, 46, 47, 48, 49, 50]) ⟨[(0, sp p), (53, sp p), (64, sp p), (75, sp p), (82, sp p), (89, sp p), (48, (pO gr (0 + i * 5))), (49, (pO gr (0 + i * 5))), (50, (pO gr (0 + i * 5))), (51, (pO gr (0 + i * 5))), (52, (pO gr (0 + i * 5))), (57, avS (xO l i).key), (61, avS (xO l i).key), (68, avS (xO l i).product), (72, avS (xO l i).product), (79, avI (xO l i).count), (86, avI (xO l i).ready), (93, avI (xO l i).due), (97, avI (xO l i).due), (5, .v (.slice (some ⟨gr, 0, none⟩) l.length cap)), (73, (iO 4 [avS (xO l i).product, avS (xO l i).product, avS ⟨#[122, 122]⟩, avS ⟨#[]⟩])), (80, (iO 3 [avI (xO l i).count, avI 0, avI 100001])), (98, (iO 3 [avI (xO l i).due, avI (xO l i).due, avI 345686400000]))], [.box gr ⟨rowL l, 35, cap * 5⟩], k + 1 + 4 * q + 1 + 1⟩ := by
          rw [hF]
          refine VA.all (rs := [14, 39]) (by decide +kernel) (by decide) ?_
          refine ⟨⟨_, rfl, .inl rfl, ?_⟩, ⟨_, rfl, .inl rfl, ?_⟩, trivial⟩
          ·
            refine OpE.buildSlice (zc := #[.string ⟨#[]⟩, .string ⟨#[]⟩, .string ⟨#[]⟩, .string ⟨#[]⟩]) rfl hB rfl Tryz.underlying95 Tryz.sizeOf9 Tryz.zeroValue9 (by decide) (by decide) (by kernel_rfl) rfl rfl ?_
            have hh := hS28 
            rw [hF] at hh
            exact VA.to hh (by decide +kernel) (Le.mk hB [0] ⟨rfl, rfl, rfl, rfl, rfl, rfl, rfl, rfl, rfl, rfl, rfl, rfl, rfl, rfl, rfl, rfl, rfl, rfl, rfl, rfl, rfl, rfl, rfl, rfl, trivial⟩ rfl rfl (Nat.le_refl _))
          ·
            refine OpE.buildSlice (zc := #[.int .i64 0, .int .i64 0, .int .i64 0]) rfl hB rfl Tryz.underlying22 Tryz.sizeOf3 Tryz.zeroValue3 (by decide) (by decide) (by kernel_rfl) rfl rfl ?_
            have hh := hS31 
            rw [hF] at hh
            exact VA.to hh (by decide +kernel) (Le.mk hB [0] ⟨rfl, rfl, rfl, rfl, rfl, rfl, rfl, rfl, rfl, rfl, rfl, rfl, rfl, rfl, rfl, rfl, rfl, rfl, rfl, rfl, rfl, rfl, rfl, rfl, trivial⟩ rfl rfl (Nat.le_refl _))
        have hS44 : F 22 (lstB 67 [0, 1, 2, 3, 4, 5, 6, 7, 8, 9, 10, 11, 12, 13, 16, 17, 18, 19, 20, 21, 22, 23, 24, 25, 27, 28, 29, 30, 31, 34, 35, 36, 37, 38, 39, 41, 42, 43, 44, 45, 46, 47, 48, 49, 50]) ⟨[(0, sp p), (53, sp p), (64, sp p), (75, sp p), (82, sp p), (89, sp p), (48, (pO gr (0 + i * 5))), (49, (pO gr (0 + i * 5))), (50, (pO gr (0 + i * 5))), (51, (pO gr (0 + i * 5))), (52, (pO gr (0 + i * 5))), (57, avS (xO l i).key), (61, avS (xO l i).key), (68, avS (xO l i).product), (72, avS (xO l i).product), (79, avI (xO l i).count), (86, avI (xO l i).ready), (93, avI (xO l i).due), (97, avI (xO l i).due), (5, .v (.slice (some ⟨gr, 0, none⟩) l.length cap)), (73, (iO 4 [avS (xO l i).product, avS (xO l i).product, avS ⟨#[122, 122]⟩, avS ⟨#[]⟩])), (87, (iO 3 [avI (xO l i).ready, avI (-1), avI 345686400000])), (98, (iO 3 [avI (xO l i).due, avI (xO l i).due, avI 345686400000]))], [.box gr ⟨rowL l, 35, cap * 5⟩], k + 1 + 4 * q + 1 + 1⟩ := by
          rw [hF]
          refine VA.all (rs := [14, 32]) (by decide +kernel) (by decide) ?_
          refine ⟨⟨_, rfl, .inl rfl, ?_⟩, ⟨_, rfl, .inl rfl, ?_⟩, trivial⟩
          ·
            refine OpE.buildSlice (zc := #[.string ⟨#[]⟩, .string ⟨#[]⟩, .string ⟨#[]⟩, .string ⟨#[]⟩]) rfl hB rfl Tryz.underlying95 Tryz.sizeOf9 Tryz.zeroValue9 (by decide) (by decide) (by kernel_rfl) rfl rfl ?_
            have hh := hS29 
            rw [hF] at hh
            exact VA.to hh (by decide +kernel) (Le.mk hB [0] ⟨rfl, rfl, rfl, rfl, rfl, rfl, rfl, rfl, rfl, rfl, rfl, rfl, rfl, rfl, rfl, rfl, rfl, rfl, rfl, rfl, rfl, rfl, rfl, rfl, trivial⟩ rfl rfl (Nat.le_refl _))
          ·
            refine OpE.buildSlice (zc := #[.int .i64 0, .int .i64 0, .int .i64 0]) rfl hB rfl Tryz.underlying22 Tryz.sizeOf3 Tryz.zeroValue3 (by decide) (by decide) (by kernel_rfl) rfl rfl ?_
            have hh := hS31 
            rw [hF] at hh
            exact VA.to hh (by decide +kernel) (Le.mk hB [0] ⟨rfl, rfl, rfl, rfl, rfl, rfl, rfl, rfl, rfl, rfl, rfl, rfl, rfl, rfl, rfl, rfl, rfl, rfl, rfl, rfl, rfl, rfl, rfl, rfl, trivial⟩ rfl rfl (Nat.le_refl _))
        have hS45 : F 22 (lstB 67 [0, 1, 2, 3, 4, 5, 6, 7, 8, 9, 10, 11, 12, 13, 16, 17, 18, 19, 20, 21, 22, 23, 24, 27, 28, 29, 30, 31, 32, 34, 35, 36, 37, 38, 39, 41, 42, 43, 44, 45, 46, 47, 48, 49, 50]) ⟨[(0, sp p), (53, sp p), (64, sp p), (75, sp p), (82, sp p), (89, sp p), (48, (pO gr (0 + i * 5))), (49, (pO gr (0 + i * 5))), (50, (pO gr (0 + i * 5))), (51, (pO gr (0 + i * 5))), (52, (pO gr (0 + i * 5))), (57, avS (xO l i).key), (61, avS (xO l i).key), (68, avS (xO l i).product), (72, avS (xO l i).product), (79, avI (xO l i).count), (86, avI (xO l i).ready), (93, avI (xO l i).due), (97, avI (xO l i).due), (5, .v (.slice (some ⟨gr, 0, none⟩) l.length cap)), (80, (iO 3 [avI (xO l i).count, avI 0, avI 100001])), (87, (iO 3 [avI (xO l i).ready, avI (-1), avI 345686400000])), (98, (iO 3 [avI (xO l i).due, avI (xO l i).due, avI 345686400000]))], [.box gr ⟨rowL l, 35, cap * 5⟩], k + 1 + 4 * q + 1 + 1⟩ := by
          rw [hF]
          refine VA.all (rs := [14, 25]) (by decide +kernel) (by decide) ?_
          refine ⟨⟨_, rfl, .inl rfl, ?_⟩, ⟨_, rfl, .inl rfl, ?_⟩, trivial⟩
          ·
            refine OpE.buildSlice (zc := #[.string ⟨#[]⟩, .string ⟨#[]⟩, .string ⟨#[]⟩, .string ⟨#[]⟩]) rfl hB rfl Tryz.underlying95 Tryz.sizeOf9 Tryz.zeroValue9 (by decide) (by decide) (by kernel_rfl) rfl rfl ?_
            have hh := hS30 
            rw [hF] at hh
            exact VA.to hh (by decide +kernel) (Le.mk hB [0] ⟨rfl, rfl, rfl, rfl, rfl, rfl, rfl, rfl, rfl, rfl, rfl, rfl, rfl, rfl, rfl, rfl, rfl, rfl, rfl, rfl, rfl, rfl, rfl, rfl, trivial⟩ rfl rfl (Nat.le_refl _))
          ·
            refine OpE.buildSlice (zc := #[.string ⟨#[]⟩, .string ⟨#[]⟩, .string ⟨#[]⟩, .string ⟨#[]⟩]) rfl hB rfl Tryz.underlying95 Tryz.sizeOf9 Tryz.zeroValue9 (by decide) (by decide) (by kernel_rfl) rfl rfl ?_
            have hh := hS31 
            rw [hF] at hh
            exact VA.to hh (by decide +kernel) (Le.mk hB [0] ⟨rfl, rfl, rfl, rfl, rfl, rfl, rfl, rfl, rfl, rfl, rfl, rfl, rfl, rfl, rfl, rfl, rfl, rfl, rfl, rfl, rfl, rfl, rfl, rfl, trivial⟩ rfl rfl (Nat.le_refl _))
        have hS46 : ∀ (r63 : ByteArray) (hr63 : r63.size ≤ 1000 ∧ r63 ≠ ozK), F 23 (lstB 67 [0, 1, 2, 3, 4, 5, 6, 7, 8, 9, 10, 11, 12, 13, 14, 15, 16, 17, 18, 19, 20, 21, 22, 23, 24, 27, 28, 29, 30, 31, 34, 35, 36, 37, 38, 41, 42, 43, 44, 45, 46, 47, 48, 49]) ⟨[(0, sp p), (53, sp p), (64, sp p), (75, sp p), (82, sp p), (89, sp p), (48, (pO gr (0 + i * 5))), (49, (pO gr (0 + i * 5))), (50, (pO gr (0 + i * 5))), (51, (pO gr (0 + i * 5))), (52, (pO gr (0 + i * 5))), (57, avS (xO l i).key), (61, avS (xO l i).key), (68, avS (xO l i).product), (72, avS (xO l i).product), (79, avI (xO l i).count), (86, avI (xO l i).ready), (93, avI (xO l i).due), (97, avI (xO l i).due), (5, .v (.slice (some ⟨gr, 0, none⟩) l.length cap)), (62, (iO 4 [avS (xO l i).key, avS (xO l i).key, avS ⟨#[]⟩, avS ⟨#[111, 97]⟩])), (63, avS r63)], [.box gr ⟨rowL l, 35, cap * 5⟩], k + 1 + 4 * q + 1 + 1 + 1⟩ := by
          intro r63 hr63
          rw [hF]
          refine VA.all (rs := [25, 32, 39, 50]) (by decide +kernel) (by decide) ?_
          refine ⟨⟨_, rfl, .inl rfl, ?_⟩, ⟨_, rfl, .inl rfl, ?_⟩, ⟨_, rfl, .inl rfl, ?_⟩, ⟨_, rfl, .inl rfl, ?_⟩, trivial⟩
          ·
            refine OpE.buildSlice (zc := #[.string ⟨#[]⟩, .string ⟨#[]⟩, .string ⟨#[]⟩, .string ⟨#[]⟩]) rfl hB rfl Tryz.underlying95 Tryz.sizeOf9 Tryz.zeroValue9 (by decide) (by decide) (by kernel_rfl) rfl rfl ?_
            have hh := hS32 r63 hr63
            rw [hF] at hh
            exact VA.to hh (by decide +kernel) (Le.mk hB [0] ⟨rfl, rfl, rfl, rfl, rfl, rfl, rfl, rfl, rfl, rfl, rfl, rfl, rfl, rfl, rfl, rfl, rfl, rfl, rfl, rfl, rfl, rfl, rfl, trivial⟩ rfl rfl (Nat.le_refl _))
          ·
            refine OpE.buildSlice (zc := #[.int .i64 0, .int .i64 0, .int .i64 0]) rfl hB rfl Tryz.underlying22 Tryz.sizeOf3 Tryz.zeroValue3 (by decide) (by decide) (by kernel_rfl) rfl rfl ?_
            have hh := hS33 r63 hr63
            rw [hF] at hh
            exact VA.to hh (by decide +kernel) (Le.mk hB [0] ⟨rfl, rfl, rfl, rfl, rfl, rfl, rfl, rfl, rfl, rfl, rfl, rfl, rfl, rfl, rfl, rfl, rfl, rfl, rfl, rfl, rfl, rfl, rfl, trivial⟩ rfl rfl (Nat.le_refl _))
          ·
            refine OpE.buildSlice (zc := #[.int .i64 0, .int .i64 0, .int .i64 0]) rfl hB rfl Tryz.underlying22 Tryz.sizeOf3 Tryz.zeroValue3 (by decide) (by decide) (by kernel_rfl) rfl rfl ?_
            have hh := hS34 r63 hr63
            rw [hF] at hh
            exact VA.to hh (by decide +kernel) (Le.mk hB [0] ⟨rfl, rfl, rfl, rfl, rfl, rfl, rfl, rfl, rfl, rfl, rfl, rfl, rfl, rfl, rfl, rfl, rfl, rfl, rfl, rfl, rfl, rfl, rfl, trivial⟩ rfl rfl (Nat.le_refl _))
          ·
            refine OpE.buildSlice (zc := #[.int .i64 0, .int .i64 0, .int .i64 0]) rfl hB rfl Tryz.underlying22 Tryz.sizeOf3 Tryz.zeroValue3 (by decide) (by decide) (by kernel_rfl) rfl rfl ?_
            have hh := hS35 r63 hr63
            rw [hF] at hh
            exact VA.to hh (by decide +kernel) (Le.mk hB [0] ⟨rfl, rfl, rfl, rfl, rfl, rfl, rfl, rfl, rfl, rfl, rfl, rfl, rfl, rfl, rfl, rfl, rfl, rfl, rfl, rfl, rfl, rfl, rfl, trivial⟩ rfl rfl (Nat.le_refl _))
        have hS47 : F 23 (lstB 67 [0, 1, 2, 3, 4, 5, 6, 7, 8, 9, 10, 11, 12, 13, 14, 16, 17, 18, 19, 20, 21, 22, 23, 24, 25, 27, 28, 29, 30, 31, 34, 35, 36, 37, 38, 41, 42, 43, 44, 45, 46, 47, 48, 49]) ⟨[(0, sp p), (53, sp p), (64, sp p), (75, sp p), (82, sp p), (89, sp p), (48, (pO gr (0 + i * 5))), (49, (pO gr (0 + i * 5))), (50, (pO gr (0 + i * 5))), (51, (pO gr (0 + i * 5))), (52, (pO gr (0 + i * 5))), (57, avS (xO l i).key), (61, avS (xO l i).key), (68, avS (xO l i).product), (72, avS (xO l i).product), (79, avI (xO l i).count), (86, avI (xO l i).ready), (93, avI (xO l i).due), (97, avI (xO l i).due), (5, .v (.slice (some ⟨gr, 0, none⟩) l.length cap)), (62, (iO 4 [avS (xO l i).key, avS (xO l i).key, avS ⟨#[]⟩, avS ⟨#[111, 97]⟩])), (73, (iO 4 [avS (xO l i).product, avS (xO l i).product, avS ⟨#[122, 122]⟩, avS ⟨#[]⟩]))], [.box gr ⟨rowL l, 35, cap * 5⟩], k + 1 + 4 * q + 1 + 1⟩ := by
          rw [hF]
          refine VA.all (rs := [15, 32, 39, 50]) (by decide +kernel) (by decide) ?_
          refine ⟨⟨_, rfl, .inl rfl, ?_⟩, ⟨_, rfl, .inl rfl, ?_⟩, ⟨_, rfl, .inl rfl, ?_⟩, ⟨_, rfl, .inl rfl, ?_⟩, trivial⟩
          ·
            refine OpE.callT' (k + 1 + 4 * q + 1 + 1) rfl rfl hB rfl Tryz.call32 rfl (some_Q (by rfl) (by decide) (by decide) (AllQ.cons ⟨(hok.getD i).1, (hok.getD i).2.2⟩ (AllQ.cons ⟨(hok.getD i).1, (hok.getD i).2.2⟩ (AllQ.cons (by decide) (AllQ.cons (by decide) AllQ.nil))))) (by omega) ?_
            rintro _ ⟨r63, hr63, rfl⟩
            have hh := hS32 r63 hr63
            rw [hF] at hh
            exact VA.to hh (by decide +kernel) (Le.mk hB [0] ⟨rfl, rfl, rfl, rfl, rfl, rfl, rfl, rfl, rfl, rfl, rfl, rfl, rfl, rfl, rfl, rfl, rfl, rfl, rfl, rfl, rfl, rfl, rfl, trivial⟩ rfl rfl (Nat.le_refl _))
          ·
            refine OpE.buildSlice (zc := #[.int .i64 0, .int .i64 0, .int .i64 0]) rfl hB rfl Tryz.underlying22 Tryz.sizeOf3 Tryz.zeroValue3 (by decide) (by decide) (by kernel_rfl) rfl rfl ?_
            have hh := hS36 
            rw [hF] at hh
            exact VA.to hh (by decide +kernel) (Le.mk hB [0] ⟨rfl, rfl, rfl, rfl, rfl, rfl, rfl, rfl, rfl, rfl, rfl, rfl, rfl, rfl, rfl, rfl, rfl, rfl, rfl, rfl, rfl, rfl, rfl, trivial⟩ rfl rfl (Nat.le_refl _))
          ·
            refine OpE.buildSlice (zc := #[.int .i64 0, .int .i64 0, .int .i64 0]) rfl hB rfl Tryz.underlying22 Tryz.sizeOf3 Tryz.zeroValue3 (by decide) (by decide) (by kernel_rfl) rfl rfl ?_
            have hh := hS37 
            rw [hF] at hh
            exact VA.to hh (by decide +kernel) (Le.mk hB [0] ⟨rfl, rfl, rfl, rfl, rfl, rfl, rfl, rfl, rfl, rfl, rfl, rfl, rfl, rfl, rfl, rfl, rfl, rfl, rfl, rfl, rfl, rfl, rfl, trivial⟩ rfl rfl (Nat.le_refl _))
          ·
            refine OpE.buildSlice (zc := #[.int .i64 0, .int .i64 0, .int .i64 0]) rfl hB rfl Tryz.underlying22 Tryz.sizeOf3 Tryz.zeroValue3 (by decide) (by decide) (by kernel_rfl) rfl rfl ?_
            have hh := hS38 
            rw [hF] at hh
            exact VA.to hh (by decide +kernel) (Le.mk hB [0] ⟨rfl, rfl, rfl, rfl, rfl, rfl, rfl, rfl, rfl, rfl, rfl, rfl, rfl, rfl, rfl, rfl, rfl, rfl, rfl, rfl, rfl, rfl, rfl, trivial⟩ rfl rfl (Nat.le_refl _))
        have hS48 : F 23 (lstB 67 [0, 1, 2, 3, 4, 5, 6, 7, 8, 9, 10, 11, 12, 13, 14, 16, 17, 18, 19, 20, 21, 22, 23, 24, 27, 28, 29, 30, 31, 32, 34, 35, 36, 37, 38, 41, 42, 43, 44, 45, 46, 47, 48, 49]) ⟨[(0, sp p), (53, sp p), (64, sp p), (75, sp p), (82, sp p), (89, sp p), (48, (pO gr (0 + i * 5))), (49, (pO gr (0 + i * 5))), (50, (pO gr (0 + i * 5))), (51, (pO gr (0 + i * 5))), (52, (pO gr (0 + i * 5))), (57, avS (xO l i).key), (61, avS (xO l i).key), (68, avS (xO l i).product), (72, avS (xO l i).product), (79, avI (xO l i).count), (86, avI (xO l i).ready), (93, avI (xO l i).due), (97, avI (xO l i).due), (5, .v (.slice (some ⟨gr, 0, none⟩) l.length cap)), (62, (iO 4 [avS (xO l i).key, avS (xO l i).key, avS ⟨#[]⟩, avS ⟨#[111, 97]⟩])), (80, (iO 3 [avI (xO l i).count, avI 0, avI 100001]))], [.box gr ⟨rowL l, 35, cap * 5⟩], k + 1 + 4 * q + 1 + 1⟩ := by
          rw [hF]
          refine VA.all (rs := [15, 25, 39, 50]) (by decide +kernel) (by decide) ?_
          refine ⟨⟨_, rfl, .inl rfl, ?_⟩, ⟨_, rfl, .inl rfl, ?_⟩, ⟨_, rfl, .inl rfl, ?_⟩, ⟨_, rfl, .inl rfl, ?_⟩, trivial⟩
          ·
            refine OpE.callT' (k + 1 + 4 * q + 1 + 1) rfl rfl hB rfl Tryz.call32 rfl (some_Q (by rfl) (by decide) (by decide) (AllQ.cons ⟨(hok.getD i).1, (hok.getD i).2.2⟩ (AllQ.cons ⟨(hok.getD i).1, (hok.getD i).2.2⟩ (AllQ.cons (by decide) (AllQ.cons (by decide) AllQ.nil))))) (by omega) ?_
            rintro _ ⟨r63, hr63, rfl⟩
            have hh := hS33 r63 hr63
            rw [hF] at hh
            exact VA.to hh (by decide +kernel) (Le.mk hB [0] ⟨rfl, rfl, rfl, rfl, rfl, rfl, rfl, rfl, rfl, rfl, rfl, rfl, rfl, rfl, rfl, rfl, rfl, rfl, rfl, rfl, rfl, rfl, rfl, trivial⟩ rfl rfl (Nat.le_refl _))
          ·
            refine OpE.buildSlice (zc := #[.string ⟨#[]⟩, .string ⟨#[]⟩, .string ⟨#[]⟩, .string ⟨#[]⟩]) rfl hB rfl Tryz.underlying95 Tryz.sizeOf9 Tryz.zeroValue9 (by decide) (by decide) (by kernel_rfl) rfl rfl ?_
            have hh := hS36 
            rw [hF] at hh
            exact VA.to hh (by decide +kernel) (Le.mk hB [0] ⟨rfl, rfl, rfl, rfl, rfl, rfl, rfl, rfl, rfl, rfl, rfl, rfl, rfl, rfl, rfl, rfl, rfl, rfl, rfl, rfl, rfl, rfl, rfl, trivial⟩ rfl rfl (Nat.le_refl _))
          ·
            refine OpE.buildSlice (zc := #[.int .i64 0, .int .i64 0, .int .i64 0]) rfl hB rfl Tryz.underlying22 Tryz.sizeOf3 Tryz.zeroValue3 (by decide) (by decide) (by kernel_rfl) rfl rfl ?_
            have hh := hS39 
            rw [hF] at hh
            exact VA.to hh (by decide +kernel) (Le.mk hB [0] ⟨rfl, rfl, rfl, rfl, rfl, rfl, rfl, rfl, rfl, rfl, rfl, rfl, rfl, rfl, rfl, rfl, rfl, rfl, rfl, rfl, rfl, rfl, rfl, trivial⟩ rfl rfl (Nat.le_refl _))
          ·
            refine OpE.buildSlice (zc := #[.int .i64 0, .int .i64 0, .int .i64 0]) rfl hB rfl Tryz.underlying22 Tryz.sizeOf3 Tryz.zeroValue3 (by decide) (by decide) (by kernel_rfl) rfl rfl ?_
            have hh := hS40 
            rw [hF] at hh
            exact VA.to hh (by decide +kernel) (Le.mk hB [0] ⟨rfl, rfl, rfl, rfl, rfl, rfl, rfl, rfl, rfl, rfl, rfl, rfl, rfl, rfl, rfl, rfl, rfl, rfl, rfl, rfl, rfl, rfl, rfl, trivial⟩ rfl rfl (Nat.le_refl _))
        have hS49 : F 23 (lstB 67 [0, 1, 2, 3, 4, 5, 6, 7, 8, 9, 10, 11, 12, 13, 14, 16, 17, 18, 19, 20, 21, 22, 23, 24, 27, 28, 29, 30, 31, 34, 35, 36, 37, 38, 39, 41, 42, 43, 44, 45, 46, 47, 48, 49]) ⟨[(0, sp p), (53, sp p), (64, sp p), (75, sp p), (82, sp p), (89, sp p), (48, (pO gr (0 + i * 5))), (49, (pO gr (0 + i * 5))), (50, (pO gr (0 + i * 5))), (51, (pO gr (0 + i * 5))), (52, (pO gr (0 + i * 5))), (57, avS (xO l i).key), (61, avS (xO l i).key), (68, avS (xO l i).product), (72, avS (xO l i).product), (79, avI (xO l i).count), (86, avI (xO l i).ready), (93, avI (xO l i).due), (97, avI (xO l i).due), (5, .v (.slice (some ⟨gr, 0, none⟩) l.length cap)), (62, (iO 4 [avS (xO l i).key, avS (xO l i).key, avS ⟨#[]⟩, avS ⟨#[111, 97]⟩])), (87, (iO 3 [avI (xO l i).ready, avI (-1), avI 345686400000]))], [.box gr ⟨rowL l, 35, cap * 5⟩], k + 1 + 4 * q + 1 + 1⟩ := by
          rw [hF]
          refine VA.all (rs := [15, 25, 32, 50]) (by decide +kernel) (by decide) ?_
          refine ⟨⟨_, rfl, .inl rfl, ?_⟩, ⟨_, rfl, .inl rfl, ?_⟩, ⟨_, rfl, .inl rfl, ?_⟩, ⟨_, rfl, .inl rfl, ?_⟩, trivial⟩
          ·
            refine OpE.callT' (k + 1 + 4 * q + 1 + 1) rfl rfl hB rfl Tryz.call32 rfl (some_Q (by rfl) (by decide) (by decide) (AllQ.cons ⟨(hok.getD i).1, (hok.getD i).2.2⟩ (AllQ.cons ⟨(hok.getD i).1, (hok.getD i).2.2⟩ (AllQ.cons (by decide) (AllQ.cons (by decide) AllQ.nil))))) (by omega) ?_
            rintro _ ⟨r63, hr63, rfl⟩
            have hh := hS34 r63 hr63
            rw [hF] at hh
            exact VA.to hh (by decide +kernel) (Le.mk hB [0] ⟨rfl, rfl, rfl, rfl, rfl, rfl, rfl, rfl, rfl, rfl, rfl, rfl, rfl, rfl, rfl, rfl, rfl, rfl, rfl, rfl, rfl, rfl, rfl, trivial⟩ rfl rfl (Nat.le_refl _))
          ·
            refine OpE.buildSlice (zc := #[.string ⟨#[]⟩, .string ⟨#[]⟩, .string ⟨#[]⟩, .string ⟨#[]⟩]) rfl hB rfl Tryz.underlying95 Tryz.sizeOf9 Tryz.zeroValue9 (by decide) (by decide) (by kernel_rfl) rfl rfl ?_
            have hh := hS37 
            rw [hF] at hh
            exact VA.to hh (by decide +kernel) (Le.mk hB [0] ⟨rfl, rfl, rfl, rfl, rfl, rfl, rfl, rfl, rfl, rfl, rfl, rfl, rfl, rfl, rfl, rfl, rfl, rfl, rfl, rfl, rfl, rfl, rfl, trivial⟩ rfl rfl (Nat.le_refl _))
          ·
            refine OpE.buildSlice (zc := #[.int .i64 0, .int .i64 0, .int .i64 0]) rfl hB rfl Tryz.underlying22 Tryz.sizeOf3 Tryz.zeroValue3 (by decide) (by decide) (by kernel_rfl) rfl rfl ?_
            have hh := hS39 
            rw [hF] at hh
            exact VA.to hh (by decide +kernel) (Le.mk hB [0] ⟨rfl, rfl, rfl, rfl, rfl, rfl, rfl, rfl, rfl, rfl, rfl, rfl, rfl, rfl, rfl, rfl, rfl, rfl, rfl, rfl, rfl, rfl, rfl, trivial⟩ rfl rfl (Nat.le_refl _))
          ·
            refine OpE.buildSlice (zc := #[.int .i64 0, .int .i64 0, .int .i64 0]) rfl hB rfl Tryz.underlying22 Tryz.sizeOf3 Tryz.zeroValue3 (by decide) (by decide) (by kernel_rfl) rfl rfl ?_
            have hh := hS41 
            rw [hF] at hh
            exact VA.to hh (by decide +kernel) (Le.mk hB [0] ⟨rfl, rfl, rfl, rfl, rfl, rfl, rfl, rfl, rfl, rfl, rfl, rfl, rfl, rfl, rfl, rfl, rfl, rfl, rfl, rfl, rfl, rfl, rfl, trivial⟩ rfl rfl (Nat.le_refl _))
        have hS50 : F 23 (lstB 67 [0, 1, 2, 3, 4, 5, 6, 7, 8, 9, 10, 11, 12, 13, 14, 16, 17, 18, 19, 20, 21, 22, 23, 24, 27, 28, 29, 30, 31, 34, 35, 36, 37, 38, 41, 42, 43, 44, 45, 46, 47, 48, 49, 50]) ⟨[(0, sp p), (53, sp p), (64, sp p), (75, sp p), (82, sp p), (89, sp p), (48, (pO gr (0 + i * 5))), (49, (pO gr (0 + i * 5))), (50, (pO gr (0 + i * 5))), (51, (pO gr (0 + i * 5))), (52, (pO gr (0 + i * 5))), (57, avS (xO l i).key), (61, avS (xO l i).key), (68, avS (xO l i).product), (72, avS (xO l i).product), (79, avI (xO l i).count), (86, avI (xO l i).ready), (93, avI (xO l i).due), (97, avI (xO l i).due), (5, .v (.slice (some ⟨gr, 0, none⟩) l.length cap)), (62, (iO 4 [avS (xO l i).key, avS (xO l i).key, avS ⟨#[]⟩, avS ⟨#[111, 97]⟩])), (98, (iO 3 [avI (xO l i).due, avI (xO l i).due, avI 345686400000]))], [.box gr ⟨rowL l, 35, cap * 5⟩], k + 1 + 4 * q + 1 + 1⟩ := by
          rw [hF]
          refine VA.all (rs := [15, 25, 32, 39]) (by decide +kernel) (by decide) ?_
          refine ⟨⟨_, rfl, .inl rfl, ?_⟩, ⟨_, rfl, .inl rfl, ?_⟩, ⟨_, rfl, .inl rfl, ?_⟩, ⟨_, rfl, .inl rfl, ?_⟩, trivial⟩
          ·
            refine OpE.callT' (k + 1 + 4 * q + 1 + 1) rfl rfl hB rfl Tryz.call32 rfl (some_Q (by rfl) (by decide) (by decide) (AllQ.cons ⟨(hok.getD i).1, (hok.getD i).2.2⟩ (AllQ.cons ⟨(hok.getD i).1, (hok.getD i).2.2⟩ (AllQ.cons (by decide) (AllQ.cons (by decide) AllQ.nil))))) (by omega) ?_
            rintro _ ⟨r63, hr63, rfl⟩
            have hh := hS35 r63 hr63
            rw [hF] at hh
            exact VA.to hh (by decide +kernel) (Le.mk hB [0] ⟨rfl, rfl, rfl, rfl, rfl, rfl, rfl, rfl, rfl, rfl, rfl, rfl, rfl, rfl, rfl, rfl, rfl, rfl, rfl, rfl, rfl, rfl, rfl, trivial⟩ rfl rfl (Nat.le_refl _))
          ·
            refine OpE.buildSlice (zc := #[.string ⟨#[]⟩, .string ⟨#[]⟩, .string ⟨#[]⟩, .string ⟨#[]⟩]) rfl hB rfl Tryz.underlying95 Tryz.sizeOf9 Tryz.zeroValue9 (by decide) (by decide) (by kernel_rfl) rfl rfl ?_
            have hh := hS38 
            rw [hF] at hh
            exact VA.to hh (by decide +kernel) (Le.mk hB [0] ⟨rfl, rfl, rfl, rfl, rfl, rfl, rfl, rfl, rfl, rfl, rfl, rfl, rfl, rfl, rfl, rfl, rfl, rfl, rfl, rfl, rfl, rfl, rfl, trivial⟩ rfl rfl (Nat.le_refl _))
          ·
            refine OpE.buildSlice (zc := #[.int .i64 0, .int .i64 0, .int .i64 0]) rfl hB rfl Tryz.underlying22 Tryz.sizeOf3 Tryz.zeroValue3 (by decide) (by decide) (by kernel_rfl) rfl rfl ?_
            have hh := hS40 
            rw [hF] at hh
            exact VA.to hh (by decide +kernel) (Le.mk hB [0] ⟨rfl, rfl, rfl, rfl, rfl, rfl, rfl, rfl, rfl, rfl, rfl, rfl, rfl, rfl, rfl, rfl, rfl, rfl, rfl, rfl, rfl, rfl, rfl, trivial⟩ rfl rfl (Nat.le_refl _))
          ·
            refine OpE.buildSlice (zc := #[.int .i64 0, .int .i64 0, .int .i64 0]) rfl hB rfl Tryz.underlying22 Tryz.sizeOf3 Tryz.zeroValue3 (by decide) (by decide) (by kernel_rfl) rfl rfl ?_
            have hh := hS41 
            rw [hF] at hh
            exact VA.to hh (by decide +kernel) (Le.mk hB [0] ⟨rfl, rfl, rfl, rfl, rfl, rfl, rfl, rfl, rfl, rfl, rfl, rfl, rfl, rfl, rfl, rfl, rfl, rfl, rfl, rfl, rfl, rfl, rfl, trivial⟩ rfl rfl (Nat.le_refl _))
        have hS51 : F 23 (lstB 67 [0, 1, 2, 3, 4, 5, 6, 7, 8, 9, 10, 11, 12, 13, 16, 17, 18, 19, 20, 21, 22, 23, 24, 25, 27, 28, 29, 30, 31, 32, 34, 35, 36, 37, 38, 41, 42, 43, 44, 45, 46, 47, 48, 49]) ⟨[(0, sp p), (53, sp p), (64, sp p), (75, sp p), (82, sp p), (89, sp p), (48, (pO gr (0 + i * 5))), (49, (pO gr (0 + i * 5))), (50, (pO gr (0 + i * 5))), (51, (pO gr (0 + i * 5))), (52, (pO gr (0 + i * 5))), (57, avS (xO l i).key), (61, avS (xO l i).key), (68, avS (xO l i).product), (72, avS (xO l i).product), (79, avI (xO l i).count), (86, avI (xO l i).ready), (93, avI (xO l i).due), (97, avI (xO l i).due), (5, .v (.slice (some ⟨gr, 0, none⟩) l.length cap)), (73, (iO 4 [avS (xO l i).product, avS (xO l i).product, avS ⟨#[122, 122]⟩, avS ⟨#[]⟩])), (80, (iO 3 [avI (xO l i).count, avI 0, avI 100001]))], [.box gr ⟨rowL l, 35, cap * 5⟩], k + 1 + 4 * q + 1 + 1⟩ := by
          rw [hF]
          refine VA.all (rs := [14, 39, 50]) (by decide +kernel) (by decide) ?_
          refine ⟨⟨_, rfl, .inl rfl, ?_⟩, ⟨_, rfl, .inl rfl, ?_⟩, ⟨_, rfl, .inl rfl, ?_⟩, trivial⟩
          ·
            refine OpE.buildSlice (zc := #[.string ⟨#[]⟩, .string ⟨#[]⟩, .string ⟨#[]⟩, .string ⟨#[]⟩]) rfl hB rfl Tryz.underlying95 Tryz.sizeOf9 Tryz.zeroValue9 (by decide) (by decide) (by kernel_rfl) rfl rfl ?_
            have hh := hS36 
            rw [hF] at hh
            exact VA.to hh (by decide +kernel) (Le.mk hB [0] ⟨rfl, rfl, rfl, rfl, rfl, rfl, rfl, rfl, rfl, rfl, rfl, rfl, rfl, rfl, rfl, rfl, rfl, rfl, rfl, rfl, rfl, rfl, rfl, trivial⟩ rfl rfl (Nat.le_refl _))
          ·
            refine OpE.buildSlice (zc := #[.int .i64 0, .int .i64 0, .int .i64 0]) rfl hB rfl Tryz.underlying22 Tryz.sizeOf3 Tryz.zeroValue3 (by decide) (by decide) (by kernel_rfl) rfl rfl ?_
            have hh := hS42 
            rw [hF] at hh
            exact VA.to hh (by decide +kernel) (Le.mk hB [0] ⟨rfl, rfl, rfl, rfl, rfl, rfl, rfl, rfl, rfl, rfl, rfl, rfl, rfl, rfl, rfl, rfl, rfl, rfl, rfl, rfl, rfl, rfl, rfl, trivial⟩ rfl rfl (Nat.le_refl _))
          ·
            refine OpE.buildSlice (zc := #[.int .i64 0, .int .i64 0, .int .i64 0]) rfl hB rfl Tryz.underlying22 Tryz.sizeOf3 Tryz.zeroValue3 (by decide) (by decide) (by kernel_rfl) rfl rfl ?_
            have hh := hS43 
            rw [hF] at hh
            exact VA.to hh (by decide +kernel) (Le.mk hB [0] ⟨rfl, rfl, rfl, rfl, rfl, rfl, rfl, rfl, rfl, rfl, rfl, rfl, rfl, rfl, rfl, rfl, rfl, rfl, rfl, rfl, rfl, rfl, rfl, trivial⟩ rfl rfl (Nat.le_refl _))
        have hS52 : F 23 (lstB 67 [0, 1, 2, 3, 4, 5, 6, 7, 8, 9, 10, 11, 12, 13, 16, 17, 18, 19, 20, 21, 22, 23, 24, 25, 27, 28, 29, 30, 31, 34, 35, 36, 37, 38, 39, 41, 42, 43, 44, 45, 46, 47, 48, 49]) ⟨[(0, sp p), (53, sp p), (64, sp p), (75, sp p), (82, sp p), (89, sp p), (48, (pO gr (0 + i * 5))), (49, (pO gr (0 + i * 5))), (50, (pO gr (0 + i * 5))), (51, (pO gr (0 + i * 5))), (52, (pO gr (0 + i * 5))), (57, avS (xO l i).key), (61, avS (xO l i).key), (68, avS (xO l i).product), (72, avS (xO l i).product), (79, avI (xO l i).count), (86, avI (xO l i).ready), (93, avI (xO l i).due), (97, avI (xO l i).due), (5, .v (.slice (some ⟨gr, 0, none⟩) l.length cap)), (73, (iO 4 [avS (xO l i).product, avS (xO l i).product, avS ⟨#[122, 122]⟩, avS ⟨#[]⟩])), (87, (iO 3 [avI (xO l i).ready, avI (-1), avI 345686400000]))], [.box gr ⟨rowL l, 35, cap * 5⟩], k + 1 + 4 * q + 1 + 1⟩ := by
          rw [hF]
          refine VA.all (rs := [14, 32, 50]) (by decide +kernel) (by decide) ?_
          refine ⟨⟨_, rfl, .inl rfl, ?_⟩, ⟨_, rfl, .inl rfl, ?_⟩, ⟨_, rfl, .inl rfl, ?_⟩, trivial⟩
          ·
            refine OpE.buildSlice (zc := #[.string ⟨#[]⟩, .string ⟨#[]⟩, .string ⟨#[]⟩, .string ⟨#[]⟩]) rfl hB rfl Tryz.underlying95 Tryz.sizeOf9 Tryz.zeroValue9 (by decide) (by decide) (by kernel_rfl) rfl rfl ?_
            have hh := hS37 
            rw [hF] at hh
            exact VA.to hh (by decide +kernel) (Le.mk hB [0] ⟨rfl, rfl, rfl, rfl, rfl, rfl, rfl, rfl, rfl, rfl, rfl, rfl, rfl, rfl, rfl, rfl, rfl, rfl, rfl, rfl, rfl, rfl, rfl, trivial⟩ rfl rfl (Nat.le_refl _))
          ·
            refine OpE.buildSlice (zc := #[.int .i64 0, .int .i64 0, .int .i64 0]) rfl hB rfl Tryz.underlying22 Tryz.sizeOf3 Tryz.zeroValue3 (by decide) (by decide) (by kernel_rfl) rfl rfl ?_
            have hh := hS42 
            rw [hF] at hh
            exact VA.to hh (by decide +kernel) (Le.mk hB [0] ⟨rfl, rfl, rfl, rfl, rfl, rfl, rfl, rfl, rfl, rfl, rfl, rfl, rfl, rfl, rfl, rfl, rfl, rfl, rfl, rfl, rfl, rfl, rfl, trivial⟩ rfl rfl (Nat.le_refl _))
          ·
            refine OpE.buildSlice (zc := #[.int .i64 0, .int .i64 0, .int .i64 0]) rfl hB rfl Tryz.underlying22 Tryz.sizeOf3 Tryz.zeroValue3 (by decide) (by decide) (by kernel_rfl) rfl rfl ?_
            have hh := hS44 
            rw [hF] at hh
            exact VA.to hh (by decide +kernel) (Le.mk hB [0] ⟨rfl, rfl, rfl, rfl, rfl, rfl, rfl, rfl, rfl, rfl, rfl, rfl, rfl, rfl, rfl, rfl, rfl, rfl, rfl, rfl, rfl, rfl, rfl, trivial⟩ rfl rfl (Nat.le_refl _))
        have hS53 : F 23 (lstB 67 [0, 1, 2, 3, 4, 5, 6, 7, 8, 9, 10, 11, 12, 13, 16, 17, 18, 19, 20, 21, 22, 23, 24, 25, 27, 28, 29, 30, 31, 34, 35, 36, 37, 38, 41, 42, 43, 44, 45, 46, 47, 48, 49, 50]) ⟨[(0, sp p), (53, sp p), (64, sp p), (75, sp p), (82, sp p), (89, sp p), (48, (pO gr (0 + i * 5))), (49, (pO gr (0 + i * 5))), (50, (pO gr (0 + i * 5))), (51, (pO gr (0 + i * 5))), (52, (pO gr (0 + i * 5))), (57, avS (xO l i).key), (61, avS (xO l i).key), (68, avS (xO l i).product), (72, avS (xO l i).product), (79, avI (xO l i).count), (86, avI (xO l i).ready), (93, avI (xO l i).due), (97, avI (xO l i).due), (5, .v (.slice (some ⟨gr, 0, none⟩) l.length cap)), (73, (iO 4 [avS (xO l i).product, avS (xO l i).product, avS ⟨#[122, 122]⟩, avS ⟨#[]⟩])), (98, (iO 3 [avI (xO l i).due, avI (xO l i).due, avI 345686400000]))], [.box gr ⟨rowL l, 35, cap * 5⟩], k + 1 + 4 * q + 1 + 1⟩ := by
          rw [hF]
          refine VA.all (rs := [14, 32, 39]) (by decide +kernel) (by decide) ?_
          refine ⟨⟨_, rfl, .inl rfl, ?_⟩, ⟨_, rfl, .inl rfl, ?_⟩, ⟨_, rfl, .inl rfl, ?_⟩, trivial⟩
          ·
            refine OpE.buildSlice (zc := #[.string ⟨#[]⟩, .string ⟨#[]⟩, .string ⟨#[]⟩, .string ⟨#[]⟩]) rfl hB rfl Tryz.underlying95 Tryz.sizeOf9 Tryz.zeroValue9 (by decide) (by decide) (by kernel_rfl) rfl rfl ?_
            have hh := hS38 
            rw [hF] at hh
            exact VA.to hh (by decide +kernel) (Le.mk hB [0] ⟨rfl, rfl, rfl, rfl, rfl, rfl, rfl, rfl, rfl, rfl, rfl, rfl, rfl, rfl, rfl, rfl, rfl, rfl, rfl, rfl, rfl, rfl, rfl, trivial⟩ rfl rfl (Nat.le_refl _))
          ·
            refine OpE.buildSlice (zc := #[.int .i64 0, .int .i64 0, .int .i64 0]) rfl hB rfl Tryz.underlying22 Tryz.sizeOf3 Tryz.zeroValue3 (by decide) (by decide) (by kernel_rfl) rfl rfl ?_
            have hh := hS43 
            rw [hF] at hh
            exact VA.to hh (by decide +kernel) (Le.mk hB [0] ⟨rfl, rfl, rfl, rfl, rfl, rfl, rfl, rfl, rfl, rfl, rfl, rfl, rfl, rfl, rfl, rfl, rfl, rfl, rfl, rfl, rfl, rfl, rfl, trivial⟩ rfl rfl (Nat.le_refl _))
          ·
            refine OpE.buildSlice (zc := #[.int .i64 0, .int .i64 0, .int .i64 0]) rfl hB rfl Tryz.underlying22 Tryz.sizeOf3 Tryz.zeroValue3 (by decide) (by decide) (by kernel_rfl) rfl rfl ?_
            have hh := hS44 
            rw [hF] at hh
            exact VA.to hh (by decide +kernel) (Le.mk hB [0] ⟨rfl, rfl, rfl, rfl, rfl, rfl, rfl, rfl, rfl, rfl, rfl, rfl, rfl, rfl, rfl, rfl, rfl, rfl, rfl, rfl, rfl, rfl, rfl, trivial⟩ rfl rfl (Nat.le_refl _))
        have hS54 : F 23 (lstB 67 [0, 1, 2, 3, 4, 5, 6, 7, 8, 9, 10, 11, 12, 13, 16, 17, 18, 19, 20, 21, 22, 23, 24, 27, 28, 29, 30, 31, 32, 34, 35, 36, 37, 38, 39, 41, 42, 43, 44, 45, 46, 47, 48, 49]) ⟨[(0, sp p), (53, sp p), (64, sp p), (75, sp p), (82, sp p), (89, sp p), (48, (pO gr (0 + i * 5))), (49, (pO gr (0 + i * 5))), (50, (pO gr (0 + i * 5))), (51, (pO gr (0 + i * 5))), (52, (pO gr (0 + i * 5))), (57, avS (xO l i).key), (61, avS (xO l i).key), (68, avS (xO l i).product), (72, avS (xO l i).product), (79, avI (xO l i).count), (86, avI (xO l i).ready), (93, avI (xO l i).due), (97, avI (xO l i).due), (5, .v (.slice (some ⟨gr, 0, none⟩) l.length cap)), (80, (iO 3 [avI (xO l i).count, avI 0, avI 100001])), (87, (iO 3 [avI (xO l i).ready, avI (-1), avI 345686400000]))], [.box gr ⟨rowL l, 35, cap * 5⟩], k + 1 + 4 * q + 1 + 1⟩ := by
          rw [hF]
          refine VA.all (rs := [14, 25, 50]) (by decide +kernel) (by decide) ?_
          refine ⟨⟨_, rfl, .inl rfl, ?_⟩, ⟨_, rfl, .inl rfl, ?_⟩, ⟨_, rfl, .inl rfl, ?_⟩, trivial⟩
          ·
            refine OpE.buildSlice (zc := #[.string ⟨#[]⟩, .string ⟨#[]⟩, .string ⟨#[]⟩, .string ⟨#[]⟩]) rfl hB rfl Tryz.underlying95 Tryz.sizeOf9 Tryz.zeroValue9 (by decide) (by decide) (by kernel_rfl) rfl rfl ?_
            have hh := hS39 
            rw [hF] at hh
            exact VA.to hh (by decide +kernel) (Le.mk hB [0] ⟨rfl, rfl, rfl, rfl, rfl, rfl, rfl, rfl, rfl, rfl, rfl, rfl, rfl, rfl, rfl, rfl, rfl, rfl, rfl, rfl, rfl, rfl, rfl, trivial⟩ rfl rfl (Nat.le_refl _))
          ·
            refine OpE.buildSlice (zc := #[.string ⟨#[]⟩, .string ⟨#[]⟩, .string ⟨#[]⟩, .string ⟨#[]⟩]) rfl hB rfl Tryz.underlying95 Tryz.sizeOf9 Tryz.zeroValue9 (by decide) (by decide) (by kernel_rfl) rfl rfl ?_
            have hh := hS42 
            rw [hF] at hh
            exact VA.to hh (by decide +kernel) (Le.mk hB [0] ⟨rfl, rfl, rfl, rfl, rfl, rfl, rfl, rfl, rfl, rfl, rfl, rfl, rfl, rfl, rfl, rfl, rfl, rfl, rfl, rfl, rfl, rfl, rfl, trivial⟩ rfl rfl (Nat.le_refl _))
          ·
            refine OpE.buildSlice (zc := #[.int .i64 0, .int .i64 0, .int .i64 0]) rfl hB rfl Tryz.underlying22 Tryz.sizeOf3 Tryz.zeroValue3 (by decide) (by decide) (by kernel_rfl) rfl rfl ?_
            have hh := hS45 
            rw [hF] at hh
            exact VA.to hh (by decide +kernel) (Le.mk hB [0] ⟨rfl, rfl, rfl, rfl, rfl, rfl, rfl, rfl, rfl, rfl, rfl, rfl, rfl, rfl, rfl, rfl, rfl, rfl, rfl, rfl, rfl, rfl, rfl, trivial⟩ rfl rfl (Nat.le_refl _))
        have hS55 : F 23 (lstB 67 [0, 1, 2, 3, 4, 5, 6, 7, 8, 9, 10, 11, 12, 13, 16, 17, 18, 19, 20, 21, 22, 23, 24, 27, 28, 29, 30, 31, 32, 34, 35, 36, 37, 38, 41, 42, 43, 44, 45, 46, 47, 48, 49, 50]) ⟨[(0, sp p), (53, sp p), (64, sp p), (75, sp p), (82, sp p), (89, sp p), (48, (pO gr (0 + i * 5))), (49, (pO gr (0 + i * 5))), (50, (pO gr (0 + i * 5))), (51, (pO gr (0 + i * 5))), (52, (pO gr (0 + i * 5))), (57, avS (xO l i).key), (61, avS (xO l i).key), (68, avS (xO l i).product), (72, avS (xO l i).product), (79, avI (xO l i).count), (86, avI (xO l i).ready), (93, avI (xO l i).due), (97, avI (xO l i).due), (5, .v (.slice (some ⟨gr, 0, none⟩) l.length cap)), (80, (iO 3 [avI (xO l i).count, avI 0, avI 100001])), (98, (iO 3 [avI (xO l i).due, avI (xO l i).due, avI 345686400000]))], [.box gr ⟨rowL l, 35, cap * 5⟩], k + 1 + 4 * q + 1 + 1⟩ := by
          rw [hF]
          refine VA.all (rs := [14, 25, 39]) (by decide +kernel) (by decide) ?_
          refine ⟨⟨_, rfl, .inl rfl, ?_⟩, ⟨_, rfl, .inl rfl, ?_⟩, ⟨_, rfl, .inl rfl, ?_⟩, trivial⟩
          ·
            refine OpE.buildSlice (zc := #[.string ⟨#[]⟩, .string ⟨#[]⟩, .string ⟨#[]⟩, .string ⟨#[]⟩]) rfl hB rfl Tryz.underlying95 Tryz.sizeOf9 Tryz.zeroValue9 (by decide) (by decide) (by kernel_rfl) rfl rfl ?_
            have hh := hS40 
            rw [hF] at hh
            exact VA.to hh (by decide +kernel) (Le.mk hB [0] ⟨rfl, rfl, rfl, rfl, rfl, rfl, rfl, rfl, rfl, rfl, rfl, rfl, rfl, rfl, rfl, rfl, rfl, rfl, rfl, rfl, rfl, rfl, rfl, trivial⟩ rfl rfl (Nat.le_refl _))
          ·
            refine OpE.buildSlice (zc := #[.string ⟨#[]⟩, .string ⟨#[]⟩, .string ⟨#[]⟩, .string ⟨#[]⟩]) rfl hB rfl Tryz.underlying95 Tryz.sizeOf9 Tryz.zeroValue9 (by decide) (by decide) (by kernel_rfl) rfl rfl ?_
            have hh := hS43 
            rw [hF] at hh
            exact VA.to hh (by decide +kernel) (Le.mk hB [0] ⟨rfl, rfl, rfl, rfl, rfl, rfl, rfl, rfl, rfl, rfl, rfl, rfl, rfl, rfl, rfl, rfl, rfl, rfl, rfl, rfl, rfl, rfl, rfl, trivial⟩ rfl rfl (Nat.le_refl _))
          ·
            refine OpE.buildSlice (zc := #[.int .i64 0, .int .i64 0, .int .i64 0]) rfl hB rfl Tryz.underlying22 Tryz.sizeOf3 Tryz.zeroValue3 (by decide) (by decide) (by kernel_rfl) rfl rfl ?_
            have hh := hS45 
            rw [hF] at hh
            exact VA.to hh (by decide +kernel) (Le.mk hB [0] ⟨rfl, rfl, rfl, rfl, rfl, rfl, rfl, rfl, rfl, rfl, rfl, rfl, rfl, rfl, rfl, rfl, rfl, rfl, rfl, rfl, rfl, rfl, rfl, trivial⟩ rfl rfl (Nat.le_refl _))
        have hS56 : F 23 (lstB 67 [0, 1, 2, 3, 4, 5, 6, 7, 8, 9, 10, 11, 12, 13, 16, 17, 18, 19, 20, 21, 22, 23, 24, 27, 28, 29, 30, 31, 34, 35, 36, 37, 38, 39, 41, 42, 43, 44, 45, 46, 47, 48, 49, 50]) ⟨[(0, sp p), (53, sp p), (64, sp p), (75, sp p), (82, sp p), (89, sp p), (48, (pO gr (0 + i * 5))), (49, (pO gr (0 + i * 5))), (50, (pO gr (0 + i * 5))), (51, (pO gr (0 + i * 5))), (52, (pO gr (0 + i * 5))), (57, avS (xO l i).key), (61, avS (xO l i).key), (68, avS (xO l i).product), (72, avS (xO l i).product), (79, avI (xO l i).count), (86, avI (xO l i).ready), (93, avI (xO l i).due), (97, avI (xO l i).due), (5, .v (.slice (some ⟨gr, 0, none⟩) l.length cap)), (87, (iO 3 [avI (xO l i).ready, avI (-1), avI 345686400000])), (98, (iO 3 [avI (xO l i).due, avI (xO l i).due, avI 345686400000]))], [.box gr ⟨rowL l, 35, cap * 5⟩], k + 1 + 4 * q + 1 + 1⟩ := by
          rw [hF]
          refine VA.all (rs := [14, 25, 32]) (by decide +kernel) (by decide) ?_
          refine ⟨⟨_, rfl, .inl rfl, ?_⟩, ⟨_, rfl, .inl rfl, ?_⟩, ⟨_, rfl, .inl rfl, ?_⟩, trivial⟩
          ·
            refine OpE.buildSlice (zc := #[.string ⟨#[]⟩, .string ⟨#[]⟩, .string ⟨#[]⟩, .string ⟨#[]⟩]) rfl hB rfl Tryz.underlying95 Tryz.sizeOf9 Tryz.zeroValue9 (by decide) (by decide) (by kernel_rfl) rfl rfl ?_
            have hh := hS41 
            rw [hF] at hh
            exact VA.to hh (by decide +kernel) (Le.mk hB [0] ⟨rfl, rfl, rfl, rfl, rfl, rfl, rfl, rfl, rfl, rfl, rfl, rfl, rfl, rfl, rfl, rfl, rfl, rfl, rfl, rfl, rfl, rfl, rfl, trivial⟩ rfl rfl (Nat.le_refl _))
          ·
            refine OpE.buildSlice (zc := #[.string ⟨#[]⟩, .string ⟨#[]⟩, .string ⟨#[]⟩, .string ⟨#[]⟩]) rfl hB rfl Tryz.underlying95 Tryz.sizeOf9 Tryz.zeroValue9 (by decide) (by decide) (by kernel_rfl) rfl rfl ?_
            have hh := hS44 
            rw [hF] at hh
            exact VA.to hh (by decide +kernel) (Le.mk hB [0] ⟨rfl, rfl, rfl, rfl, rfl, rfl, rfl, rfl, rfl, rfl, rfl, rfl, rfl, rfl, rfl, rfl, rfl, rfl, rfl, rfl, rfl, rfl, rfl, trivial⟩ rfl rfl (Nat.le_refl _))
          ·
            refine OpE.buildSlice (zc := #[.int .i64 0, .int .i64 0, .int .i64 0]) rfl hB rfl Tryz.underlying22 Tryz.sizeOf3 Tryz.zeroValue3 (by decide) (by decide) (by kernel_rfl) rfl rfl ?_
            have hh := hS45 
            rw [hF] at hh
            exact VA.to hh (by decide +kernel) (Le.mk hB [0] ⟨rfl, rfl, rfl, rfl, rfl, rfl, rfl, rfl, rfl, rfl, rfl, rfl, rfl, rfl, rfl, rfl, rfl, rfl, rfl, rfl, rfl, rfl, rfl, trivial⟩ rfl rfl (Nat.le_refl _))
        have hS57 : F 24 (lstB 67 [0, 1, 2, 3, 4, 5, 6, 7, 8, 9, 10, 11, 12, 13, 14, 16, 17, 18, 19, 20, 21, 22, 23, 24, 27, 28, 29, 30, 31, 34, 35, 36, 37, 38, 41, 42, 43, 44, 45, 46, 47, 48, 49]) ⟨[(0, sp p), (53, sp p), (64, sp p), (75, sp p), (82, sp p), (89, sp p), (48, (pO gr (0 + i * 5))), (49, (pO gr (0 + i * 5))), (50, (pO gr (0 + i * 5))), (51, (pO gr (0 + i * 5))), (52, (pO gr (0 + i * 5))), (57, avS (xO l i).key), (61, avS (xO l i).key), (68, avS (xO l i).product), (72, avS (xO l i).product), (79, avI (xO l i).count), (86, avI (xO l i).ready), (93, avI (xO l i).due), (97, avI (xO l i).due), (5, .v (.slice (some ⟨gr, 0, none⟩) l.length cap)), (62, (iO 4 [avS (xO l i).key, avS (xO l i).key, avS ⟨#[]⟩, avS ⟨#[111, 97]⟩]))], [.box gr ⟨rowL l, 35, cap * 5⟩], k + 1 + 4 * q + 1 + 1⟩ := by
          rw [hF]
          refine VA.all (rs := [15, 25, 32, 39, 50]) (by decide +kernel) (by decide) ?_
          refine ⟨⟨_, rfl, .inl rfl, ?_⟩, ⟨_, rfl, .inl rfl, ?_⟩, ⟨_, rfl, .inl rfl, ?_⟩, ⟨_, rfl, .inl rfl, ?_⟩, ⟨_, rfl, .inl rfl, ?_⟩, trivial⟩
          ·
            refine OpE.callT' (k + 1 + 4 * q + 1 + 1) rfl rfl hB rfl Tryz.call32 rfl (some_Q (by rfl) (by decide) (by decide) (AllQ.cons ⟨(hok.getD i).1, (hok.getD i).2.2⟩ (AllQ.cons ⟨(hok.getD i).1, (hok.getD i).2.2⟩ (AllQ.cons (by decide) (AllQ.cons (by decide) AllQ.nil))))) (by omega) ?_
            rintro _ ⟨r63, hr63, rfl⟩
            have hh := hS46 r63 hr63
            rw [hF] at hh
            exact VA.to hh (by decide +kernel) (Le.mk hB [0] ⟨rfl, rfl, rfl, rfl, rfl, rfl, rfl, rfl, rfl, rfl, rfl, rfl, rfl, rfl, rfl, rfl, rfl, rfl, rfl, rfl, rfl, rfl, trivial⟩ rfl rfl (Nat.le_refl _))
          ·
            refine OpE.buildSlice (zc := #[.string ⟨#[]⟩, .string ⟨#[]⟩, .string ⟨#[]⟩, .string ⟨#[]⟩]) rfl hB rfl Tryz.underlying95 Tryz.sizeOf9 Tryz.zeroValue9 (by decide) (by decide) (by kernel_rfl) rfl rfl ?_
            have hh := hS47 
            rw [hF] at hh
            exact VA.to hh (by decide +kernel) (Le.mk hB [0] ⟨rfl, rfl, rfl, rfl, rfl, rfl, rfl, rfl, rfl, rfl, rfl, rfl, rfl, rfl, rfl, rfl, rfl, rfl, rfl, rfl, rfl, rfl, trivial⟩ rfl rfl (Nat.le_refl _))
          ·
            refine OpE.buildSlice (zc := #[.int .i64 0, .int .i64 0, .int .i64 0]) rfl hB rfl Tryz.underlying22 Tryz.sizeOf3 Tryz.zeroValue3 (by decide) (by decide) (by kernel_rfl) rfl rfl ?_
            have hh := hS48 
            rw [hF] at hh
            exact VA.to hh (by decide +kernel) (Le.mk hB [0] ⟨rfl, rfl, rfl, rfl, rfl, rfl, rfl, rfl, rfl, rfl, rfl, rfl, rfl, rfl, rfl, rfl, rfl, rfl, rfl, rfl, rfl, rfl, trivial⟩ rfl rfl (Nat.le_refl _))
          ·
            refine OpE.buildSlice (zc := #[.int .i64 0, .int .i64 0, .int .i64 0]) rfl hB rfl Tryz.underlying22 Tryz.sizeOf3 Tryz.zeroValue3 (by decide) (by decide) (by kernel_rfl) rfl rfl ?_
            have hh := hS49 
            rw [hF] at hh
            exact VA.to hh (by decide +kernel) (Le.mk hB [0] ⟨rfl, rfl, rfl, rfl, rfl, rfl, rfl, rfl, rfl, rfl, rfl, rfl, rfl, rfl, rfl, rfl, rfl, rfl, rfl, rfl, rfl, rfl, trivial⟩ rfl rfl (Nat.le_refl _))
          ·
            refine OpE.buildSlice (zc := #[.int .i64 0, .int .i64 0, .int .i64 0]) rfl hB rfl Tryz.underlying22 Tryz.sizeOf3 Tryz.zeroValue3 (by decide) (by decide) (by kernel_rfl) rfl rfl ?_
            have hh := hS50 
            rw [hF] at hh
            exact VA.to hh (by decide +kernel) (Le.mk hB [0] ⟨rfl, rfl, rfl, rfl, rfl, rfl, rfl, rfl, rfl, rfl, rfl, rfl, rfl, rfl, rfl, rfl, rfl, rfl, rfl, rfl, rfl, rfl, trivial⟩ rfl rfl (Nat.le_refl _))
        have hS58 : F 24 (lstB 67 [0, 1, 2, 3, 4, 5, 6, 7, 8, 9, 10, 11, 12, 13, 16, 17, 18, 19, 20, 21, 22, 23, 24, 25, 27, 28, 29, 30, 31, 34, 35, 36, 37, 38, 41, 42, 43, 44, 45, 46, 47, 48, 49]) ⟨[(0, sp p), (53, sp p), (64, sp p), (75, sp p), (82, sp p), (89, sp p), (48, (pO gr (0 + i * 5))), (49, (pO gr (0 + i * 5))), (50, (pO gr (0 + i * 5))), (51, (pO gr (0 + i * 5))), (52, (pO gr (0 + i * 5))), (57, avS (xO l i).key), (61, avS (xO l i).key), (68, avS (xO l i).product), (72, avS (xO l i).product), (79, avI (xO l i).count), (86, avI (xO l i).ready), (93, avI (xO l i).due), (97, avI (xO l i).due), (5, .v (.slice (some ⟨gr, 0, none⟩) l.length cap)), (73, (iO 4 [avS (xO l i).product, avS (xO l i).product, avS ⟨#[122, 122]⟩, avS ⟨#[]⟩]))], [.box gr ⟨rowL l, 35, cap * 5⟩], k + 1 + 4 * q + 1 + 1⟩ := by
          rw [hF]
          refine VA.all (rs := [14, 32, 39, 50]) (by decide +kernel) (by decide) ?_
          refine ⟨⟨_, rfl, .inl rfl, ?_⟩, ⟨_, rfl, .inl rfl, ?_⟩, ⟨_, rfl, .inl rfl, ?_⟩, ⟨_, rfl, .inl rfl, ?_⟩, trivial⟩
          ·
            refine OpE.buildSlice (zc := #[.string ⟨#[]⟩, .string ⟨#[]⟩, .string ⟨#[]⟩, .string ⟨#[]⟩]) rfl hB rfl Tryz.underlying95 Tryz.sizeOf9 Tryz.zeroValue9 (by decide) (by decide) (by kernel_rfl) rfl rfl ?_
            have hh := hS47 
            rw [hF] at hh
            exact VA.to hh (by decide +kernel) (Le.mk hB [0] ⟨rfl, rfl, rfl, rfl, rfl, rfl, rfl, rfl, rfl, rfl, rfl, rfl, rfl, rfl, rfl, rfl, rfl, rfl, rfl, rfl, rfl, rfl, trivial⟩ rfl rfl (Nat.le_refl _))
          ·
            refine OpE.buildSlice (zc := #[.int .i64 0, .int .i64 0, .int .i64 0]) rfl hB rfl Tryz.underlying22 Tryz.sizeOf3 Tryz.zeroValue3 (by decide) (by decide) (by kernel_rfl) rfl rfl ?_
            have hh := hS51 
            rw [hF] at hh
            exact VA.to hh (by decide +kernel) (Le.mk hB [0] ⟨rfl, rfl, rfl, rfl, rfl, rfl, rfl, rfl, rfl, rfl, rfl, rfl, rfl, rfl, rfl, rfl, rfl, rfl, rfl, rfl, rfl, rfl, trivial⟩ rfl rfl (Nat.le_refl _))
          ·
            refine OpE.buildSlice (zc := #[.int .i64 0, .int .i64 0, .int .i64 0]) rfl hB rfl Tryz.underlying22 Tryz.sizeOf3 Tryz.zeroValue3 (by decide) (by decide) (by kernel_rfl) rfl rfl ?_
            have hh := hS52 
            rw [hF] at hh
            exact VA.to hh (by decide +kernel) (Le.mk hB [0] ⟨rfl, rfl, rfl, rfl, rfl, rfl, rfl, rfl, rfl, rfl, rfl, rfl, rfl, rfl, rfl, rfl, rfl, rfl, rfl, rfl, rfl, rfl, trivial⟩ rfl rfl (Nat.le_refl _))
          ·
            refine OpE.buildSlice (zc := #[.int .i64 0, .int .i64 0, .int .i64 0]) rfl hB rfl Tryz.underlying22 Tryz.sizeOf3 Tryz.zeroValue3 (by decide) (by decide) (by kernel_rfl) rfl rfl ?_
            have hh := hS53 
            rw [hF] at hh
            exact VA.to hh (by decide +kernel) (Le.mk hB [0] ⟨rfl, rfl, rfl, rfl, rfl, rfl, rfl, rfl, rfl, rfl, rfl, rfl, rfl, rfl, rfl, rfl, rfl, rfl, rfl, rfl, rfl, rfl, trivial⟩ rfl rfl (Nat.le_refl _))
        have hS59 : F 24 (lstB 67 [0, 1, 2, 3, 4, 5, 6, 7, 8, 9, 10, 11, 12, 13, 16, 17, 18, 19, 20, 21, 22, 23, 24, 27, 28, 29, 30, 31, 32, 34, 35, 36, 37, 38, 41, 42, 43, 44, 45, 46, 47, 48, 49]) ⟨[(0, sp p), (53, sp p), (64, sp p), (75, sp p), (82, sp p), (89, sp p), (48, (pO gr (0 + i * 5))), (49, (pO gr (0 + i * 5))), (50, (pO gr (0 + i * 5))), (51, (pO gr (0 + i * 5))), (52, (pO gr (0 + i * 5))), (57, avS (xO l i).key), (61, avS (xO l i).key), (68, avS (xO l i).product), (72, avS (xO l i).product), (79, avI (xO l i).count), (86, avI (xO l i).ready), (93, avI (xO l i).due), (97, avI (xO l i).due), (5, .v (.slice (some ⟨gr, 0, none⟩) l.length cap)), (80, (iO 3 [avI (xO l i).count, avI 0, avI 100001]))], [.box gr ⟨rowL l, 35, cap * 5⟩], k + 1 + 4 * q + 1 + 1⟩ := by
          rw [hF]
          refine VA.all (rs := [14, 25, 39, 50]) (by decide +kernel) (by decide) ?_
          refine ⟨⟨_, rfl, .inl rfl, ?_⟩, ⟨_, rfl, .inl rfl, ?_⟩, ⟨_, rfl, .inl rfl, ?_⟩, ⟨_, rfl, .inl rfl, ?_⟩, trivial⟩
          ·
            refine OpE.buildSlice (zc := #[.string ⟨#[]⟩, .string ⟨#[]⟩, .string ⟨#[]⟩, .string ⟨#[]⟩]) rfl hB rfl Tryz.underlying95 Tryz.sizeOf9 Tryz.zeroValue9 (by decide) (by decide) (by kernel_rfl) rfl rfl ?_
            have hh := hS48 
            rw [hF] at hh
            exact VA.to hh (by decide +kernel) (Le.mk hB [0] ⟨rfl, rfl, rfl, rfl, rfl, rfl, rfl, rfl, rfl, rfl, rfl, rfl, rfl, rfl, rfl, rfl, rfl, rfl, rfl, rfl, rfl, rfl, trivial⟩ rfl rfl (Nat.le_refl _))
          ·
            refine OpE.buildSlice (zc := #[.string ⟨#[]⟩, .string ⟨#[]⟩, .string ⟨#[]⟩, .string ⟨#[]⟩]) rfl hB rfl Tryz.underlying95 Tryz.sizeOf9 Tryz.zeroValue9 (by decide) (by decide) (by kernel_rfl) rfl rfl ?_
            have hh := hS51 
            rw [hF] at hh
            exact VA.to hh (by decide +kernel) (Le.mk hB [0] ⟨rfl, rfl, rfl, rfl, rfl, rfl, rfl, rfl, rfl, rfl, rfl, rfl, rfl, rfl, rfl, rfl, rfl, rfl, rfl, rfl, rfl, rfl, trivial⟩ rfl rfl (Nat.le_refl _))
          ·
            refine OpE.buildSlice (zc := #[.int .i64 0, .int .i64 0, .int .i64 0]) rfl hB rfl Tryz.underlying22 Tryz.sizeOf3 Tryz.zeroValue3 (by decide) (by decide) (by kernel_rfl) rfl rfl ?_
            have hh := hS54 
            rw [hF] at hh
            exact VA.to hh (by decide +kernel) (Le.mk hB [0] ⟨rfl, rfl, rfl, rfl, rfl, rfl, rfl, rfl, rfl, rfl, rfl, rfl, rfl, rfl, rfl, rfl, rfl, rfl, rfl, rfl, rfl, rfl, trivial⟩ rfl rfl (Nat.le_refl _))
          ·
            refine OpE.buildSlice (zc := #[.int .i64 0, .int .i64 0, .int .i64 0]) rfl hB rfl Tryz.underlying22 Tryz.sizeOf3 Tryz.zeroValue3 (by decide) (by decide) (by kernel_rfl) rfl rfl ?_
            have hh := hS55 
            rw [hF] at hh
            exact VA.to hh (by decide +kernel) (Le.mk hB [0] ⟨rfl, rfl, rfl, rfl, rfl, rfl, rfl, rfl, rfl, rfl, rfl, rfl, rfl, rfl, rfl, rfl, rfl, rfl, rfl, rfl, rfl, rfl, trivial⟩ rfl rfl (Nat.le_refl _))
        have hS60 : F 24 (lstB 67 [0, 1, 2, 3, 4, 5, 6, 7, 8, 9, 10, 11, 12, 13, 16, 17, 18, 19, 20, 21, 22, 23, 24, 27, 28, 29, 30, 31, 34, 35, 36, 37, 38, 39, 41, 42, 43, 44, 45, 46, 47, 48, 49]) ⟨[(0, sp p), (53, sp p), (64, sp p), (75, sp p), (82, sp p), (89, sp p), (48, (pO gr (0 + i * 5))), (49, (pO gr (0 + i * 5))), (50, (pO gr (0 + i * 5))), (51, (pO gr (0 + i * 5))), (52, (pO gr (0 + i * 5))), (57, avS (xO l i).key), (61, avS (xO l i).key), (68, avS (xO l i).product), (72, avS (xO l i).product), (79, avI (xO l i).count), (86, avI (xO l i).ready), (93, avI (xO l i).due), (97, avI (xO l i).due), (5, .v (.slice (some ⟨gr, 0, none⟩) l.length cap)), (87, (iO 3 [avI (xO l i).ready, avI (-1), avI 345686400000]))], [.box gr ⟨rowL l, 35, cap * 5⟩], k + 1 + 4 * q + 1 + 1⟩ := by
          rw [hF]
          refine VA.all (rs := [14, 25, 32, 50]) (by decide +kernel) (by decide) ?_
          refine ⟨⟨_, rfl, .inl rfl, ?_⟩, ⟨_, rfl, .inl rfl, ?_⟩, ⟨_, rfl, .inl rfl, ?_⟩, ⟨_, rfl, .inl rfl, ?_⟩, trivial⟩
          ·
            refine OpE.buildSlice (zc := #[.string ⟨#[]⟩, .string ⟨#[]⟩, .string ⟨#[]⟩, .string ⟨#[]⟩]) rfl hB rfl Tryz.underlying95 Tryz.sizeOf9 Tryz.zeroValue9 (by decide) (by decide) (by kernel_rfl) rfl rfl ?_
            have hh := hS49 
            rw [hF] at hh
            exact VA.to hh (by decide +kernel) (Le.mk hB [0] ⟨rfl, rfl, rfl, rfl, rfl, rfl, rfl, rfl, rfl, rfl, rfl, rfl, rfl, rfl, rfl, rfl, rfl, rfl, rfl, rfl, rfl, rfl, trivial⟩ rfl rfl (Nat.le_refl _))
          ·
            refine OpE.buildSlice (zc := #[.string ⟨#[]⟩, .string ⟨#[]⟩, .string ⟨#[]⟩, .string ⟨#[]⟩]) rfl hB rfl Tryz.underlying95 Tryz.sizeOf9 Tryz.zeroValue9 (by decide) (by decide) (by kernel_rfl) rfl rfl ?_
            have hh := hS52 
            rw [hF] at hh
            exact VA.to hh (by decide +kernel) (Le.mk hB [0] ⟨rfl, rfl, rfl, rfl, rfl, rfl, rfl, rfl, rfl, rfl, rfl, rfl, rfl, rfl, rfl, rfl, rfl, rfl, rfl, rfl, rfl, rfl, trivial⟩ rfl rfl (Nat.le_refl _))
          ·
            refine OpE.buildSlice (zc := #[.int .i64 0, .int .i64 0, .int .i64 0]) rfl hB rfl Tryz.underlying22 Tryz.sizeOf3 Tryz.zeroValue3 (by decide) (by decide) (by kernel_rfl) rfl rfl ?_
            have hh := hS54 
            rw [hF] at hh
            exact VA.to hh (by decide +kernel) (Le.mk hB [0] ⟨rfl, rfl, rfl, rfl, rfl, rfl, rfl, rfl, rfl, rfl, rfl, rfl, rfl, rfl, rfl, rfl, rfl, rfl, rfl, rfl, rfl, rfl, trivial⟩ rfl rfl (Nat.le_refl _))
          ·
            refine OpE.buildSlice (zc := #[.int .i64 0, .int .i64 0, .int .i64 0]) rfl hB rfl Tryz.underlying22 Tryz.sizeOf3 Tryz.zeroValue3 (by decide) (by decide) (by kernel_rfl) rfl rfl ?_
            have hh := hS56 
            rw [hF] at hh
            exact VA.to hh (by decide +kernel) (Le.mk hB [0] ⟨rfl, rfl, rfl, rfl, rfl, rfl, rfl, rfl, rfl, rfl, rfl, rfl, rfl, rfl, rfl, rfl, rfl, rfl, rfl, rfl, rfl, rfl, trivial⟩ rfl rfl (Nat.le_refl _))
        have hS61 : F 24 (lstB 67 [0, 1, 2, 3, 4, 5, 6, 7, 8, 9, 10, 11, 12, 13, 16, 17, 18, 19, 20, 21, 22, 23, 24, 27, 28, 29, 30, 31, 34, 35, 36, 37, 38, 41, 42, 43, 44, 45, 46, 47, 48, 49, 50]) ⟨[(0, sp p), (53, sp p), (64, sp p), (75, sp p), (82, sp p), (89, sp p), (48, (pO gr (0 + i * 5))), (49, (pO gr (0 + i * 5))), (50, (pO gr (0 + i * 5))), (51, (pO gr (0 + i * 5))), (52, (pO gr (0 + i * 5))), (57, avS (xO l i).key), (61, avS (xO l i).key), (68, avS (xO l i).product), (72, avS (xO l i).product), (79, avI (xO l i).count), (86, avI (xO l i).ready), (93, avI (xO l i).due), (97, avI (xO l i).due), (5, .v (.slice (some ⟨gr, 0, none⟩) l.length cap)), (98, (iO 3 [avI (xO l i).due, avI (xO l i).due, avI 345686400000]))], [.box gr ⟨rowL l, 35, cap * 5⟩], k + 1 + 4 * q + 1 + 1⟩ := by
          rw [hF]
          refine VA.all (rs := [14, 25, 32, 39]) (by decide +kernel) (by decide) ?_
          refine ⟨⟨_, rfl, .inl rfl, ?_⟩, ⟨_, rfl, .inl rfl, ?_⟩, ⟨_, rfl, .inl rfl, ?_⟩, ⟨_, rfl, .inl rfl, ?_⟩, trivial⟩
          ·
            refine OpE.buildSlice (zc := #[.string ⟨#[]⟩, .string ⟨#[]⟩, .string ⟨#[]⟩, .string ⟨#[]⟩]) rfl hB rfl Tryz.underlying95 Tryz.sizeOf9 Tryz.zeroValue9 (by decide) (by decide) (by kernel_rfl) rfl rfl ?_
            have hh := hS50 
            rw [hF] at hh
            exact VA.to hh (by decide +kernel) (Le.mk hB [0] ⟨rfl, rfl, rfl, rfl, rfl, rfl, rfl, rfl, rfl, rfl, rfl, rfl, rfl, rfl, rfl, rfl, rfl, rfl, rfl, rfl, rfl, rfl, trivial⟩ rfl rfl (Nat.le_refl _))
          ·
            refine OpE.buildSlice (zc := #[.string ⟨#[]⟩, .string ⟨#[]⟩, .string ⟨#[]⟩, .string ⟨#[]⟩]) rfl hB rfl Tryz.underlying95 Tryz.sizeOf9 Tryz.zeroValue9 (by decide) (by decide) (by kernel_rfl) rfl rfl ?_
            have hh := hS53 
            rw [hF] at hh
            exact VA.to hh (by decide +kernel) (Le.mk hB [0] ⟨rfl, rfl, rfl, rfl, rfl, rfl, rfl, rfl, rfl, rfl, rfl, rfl, rfl, rfl, rfl, rfl, rfl, rfl, rfl, rfl, rfl, rfl, trivial⟩ rfl rfl (Nat.le_refl _))
          ·
            refine OpE.buildSlice (zc := #[.int .i64 0, .int .i64 0, .int .i64 0]) rfl hB rfl Tryz.underlying22 Tryz.sizeOf3 Tryz.zeroValue3 (by decide) (by decide) (by kernel_rfl) rfl rfl ?_
            have hh := hS55 
            rw [hF] at hh
            exact VA.to hh (by decide +kernel) (Le.mk hB [0] ⟨rfl, rfl, rfl, rfl, rfl, rfl, rfl, rfl, rfl, rfl, rfl, rfl, rfl, rfl, rfl, rfl, rfl, rfl, rfl, rfl, rfl, rfl, trivial⟩ rfl rfl (Nat.le_refl _))
          ·
            refine OpE.buildSlice (zc := #[.int .i64 0, .int .i64 0, .int .i64 0]) rfl hB rfl Tryz.underlying22 Tryz.sizeOf3 Tryz.zeroValue3 (by decide) (by decide) (by kernel_rfl) rfl rfl ?_
            have hh := hS56 
            rw [hF] at hh
            exact VA.to hh (by decide +kernel) (Le.mk hB [0] ⟨rfl, rfl, rfl, rfl, rfl, rfl, rfl, rfl, rfl, rfl, rfl, rfl, rfl, rfl, rfl, rfl, rfl, rfl, rfl, rfl, rfl, rfl, trivial⟩ rfl rfl (Nat.le_refl _))
        have hS62 : F 25 (lstB 67 [0, 1, 2, 3, 4, 5, 6, 7, 8, 9, 10, 11, 12, 13, 16, 17, 18, 19, 20, 21, 22, 23, 24, 27, 28, 29, 30, 31, 34, 35, 36, 37, 38, 41, 42, 43, 44, 45, 46, 47, 48, 49]) ⟨[(0, sp p), (53, sp p), (64, sp p), (75, sp p), (82, sp p), (89, sp p), (48, (pO gr (0 + i * 5))), (49, (pO gr (0 + i * 5))), (50, (pO gr (0 + i * 5))), (51, (pO gr (0 + i * 5))), (52, (pO gr (0 + i * 5))), (57, avS (xO l i).key), (61, avS (xO l i).key), (68, avS (xO l i).product), (72, avS (xO l i).product), (79, avI (xO l i).count), (86, avI (xO l i).ready), (93, avI (xO l i).due), (97, avI (xO l i).due), (5, .v (.slice (some ⟨gr, 0, none⟩) l.length cap))], [.box gr ⟨rowL l, 35, cap * 5⟩], k + 1 + 4 * q + 1 + 1⟩ := by
          rw [hF]
          refine VA.all (rs := [14, 25, 32, 39, 50]) (by decide +kernel) (by decide) ?_
          refine ⟨⟨_, rfl, .inl rfl, ?_⟩, ⟨_, rfl, .inl rfl, ?_⟩, ⟨_, rfl, .inl rfl, ?_⟩, ⟨_, rfl, .inl rfl, ?_⟩, ⟨_, rfl, .inl rfl, ?_⟩, trivial⟩
          ·
            refine OpE.buildSlice (zc := #[.string ⟨#[]⟩, .string ⟨#[]⟩, .string ⟨#[]⟩, .string ⟨#[]⟩]) rfl hB rfl Tryz.underlying95 Tryz.sizeOf9 Tryz.zeroValue9 (by decide) (by decide) (by kernel_rfl) rfl rfl ?_
            have hh := hS57 
            rw [hF] at hh
            exact VA.to hh (by decide +kernel) (Le.mk hB [0] ⟨rfl, rfl, rfl, rfl, rfl, rfl, rfl, rfl, rfl, rfl, rfl, rfl, rfl, rfl, rfl, rfl, rfl, rfl, rfl, rfl, rfl, trivial⟩ rfl rfl (Nat.le_refl _))
          ·
            refine OpE.buildSlice (zc := #[.string ⟨#[]⟩, .string ⟨#[]⟩, .string ⟨#[]⟩, .string ⟨#[]⟩]) rfl hB rfl Tryz.underlying95 Tryz.sizeOf9 Tryz.zeroValue9 (by decide) (by decide) (by kernel_rfl) rfl rfl ?_
            have hh := hS58 
            rw [hF] at hh
            exact VA.to hh (by decide +kernel) (Le.mk hB [0] ⟨rfl, rfl, rfl, rfl, rfl, rfl, rfl, rfl, rfl, rfl, rfl, rfl, rfl, rfl, rfl, rfl, rfl, rfl, rfl, rfl, rfl, trivial⟩ rfl rfl (Nat.le_refl _))
          ·
            refine OpE.buildSlice (zc := #[.int .i64 0, .int .i64 0, .int .i64 0]) rfl hB rfl Tryz.underlying22 Tryz.sizeOf3 Tryz.zeroValue3 (by decide) (by decide) (by kernel_rfl) rfl rfl ?_
            have hh := hS59 
            rw [hF] at hh
            exact VA.to hh (by decide +kernel) (Le.mk hB [0] ⟨rfl, rfl, rfl, rfl, rfl, rfl, rfl, rfl, rfl, rfl, rfl, rfl, rfl, rfl, rfl, rfl, rfl, rfl, rfl, rfl, rfl, trivial⟩ rfl rfl (Nat.le_refl _))
          ·
            refine OpE.buildSlice (zc := #[.int .i64 0, .int .i64 0, .int .i64 0]) rfl hB rfl Tryz.underlying22 Tryz.sizeOf3 Tryz.zeroValue3 (by decide) (by decide) (by kernel_rfl) rfl rfl ?_
            have hh := hS60 
            rw [hF] at hh
            exact VA.to hh (by decide +kernel) (Le.mk hB [0] ⟨rfl, rfl, rfl, rfl, rfl, rfl, rfl, rfl, rfl, rfl, rfl, rfl, rfl, rfl, rfl, rfl, rfl, rfl, rfl, rfl, rfl, trivial⟩ rfl rfl (Nat.le_refl _))
          ·
            refine OpE.buildSlice (zc := #[.int .i64 0, .int .i64 0, .int .i64 0]) rfl hB rfl Tryz.underlying22 Tryz.sizeOf3 Tryz.zeroValue3 (by decide) (by decide) (by kernel_rfl) rfl rfl ?_
            have hh := hS61 
            rw [hF] at hh
            exact VA.to hh (by decide +kernel) (Le.mk hB [0] ⟨rfl, rfl, rfl, rfl, rfl, rfl, rfl, rfl, rfl, rfl, rfl, rfl, rfl, rfl, rfl, rfl, rfl, rfl, rfl, rfl, rfl, trivial⟩ rfl rfl (Nat.le_refl _))
        rw [hF]
        have hh := hS62 
        rw [hF] at hh
        exact VA.to hh (by decide +kernel) (Le.mk hB [0] ⟨rfl, rfl, rfl, rfl, rfl, rfl, rfl, rfl, rfl, rfl, rfl, rfl, rfl, rfl, rfl, rfl, rfl, rfl, rfl, rfl, trivial⟩ rfl rfl (Nat.le_refl _))
      · have aH3 := aH3b
        try simp only [qqT, qqF, qqN, qqM, qqL, qqE] at aH3
        refine VC.skip ?_
        refine VC.sr ?_
        refine VO.mv rfl rfl rfl rfl ?_
        refine VO.ma rfl rfl rfl rfl ?_
        refine VO.nil ?_
        refine VC.le _ (Le.rowT (t := 4) (i := 0) (n := l.length) (xs := l) hB hnew rfl rfl rfl) ?_
        refine VC.ret ?_
        exact Exists.intro _ (And.intro (RetV.one Tryz.results16 (ResV.tmp rfl)) (And.intro (by first | exact ⟨l, ⟨by omega, hok⟩, rfl⟩ | exact ⟨_, ⟨by simp; omega, by repeat (first | exact hok | refine OOk.set ?_ _ ⟨by first | exact hr63.1 | exact (hok.getD i).1, by first | exact hr74 | exact (hok.getD i).2.1, by first | exact hr63.2 | exact (hok.getD i).2.2⟩)⟩, rfl⟩) ((show k + 1 + 4 * q + 1 ≤ k + 100 by omega))))
    · replace aK2b : _ = false := aK2b
      have aK2 := aK2b
      try simp only [qqT, qqF, qqN, qqM, qqL, qqE] at aK2
      refine VO.opX rfl rfl rfl rfl aK2b ?_
      refine VO.val rfl rfl (OpV.pickF rfl rfl rfl rfl aK2b) ?_
      refine VO.nil ?_
      refine VC.condF rfl rfl ?_
      refine VC.skip ?_
      refine VC.sr ?_
      refine VO.mv rfl rfl rfl rfl ?_
      refine VO.ma rfl rfl rfl rfl ?_
      refine VO.nil ?_
      refine VC.le _ (Le.rowT (t := 4) (i := 0) (n := l.length) (xs := l) hB hnew rfl rfl rfl) ?_
      refine VC.ret ?_
      exact Exists.intro _ (And.intro (RetV.one Tryz.results16 (ResV.tmp rfl)) (And.intro (by first | exact ⟨l, ⟨by omega, hok⟩, rfl⟩ | exact ⟨_, ⟨by simp; omega, by repeat (first | exact hok | refine OOk.set ?_ _ ⟨by first | exact hr63.1 | exact (hok.getD i).1, by first | exact hr74 | exact (hok.getD i).2.1, by first | exact hr63.2 | exact (hok.getD i).2.2⟩)⟩, rfl⟩) ((show k + 1 + 4 * q ≤ k + 100 by omega))))
end Go.Proofs.YtmahammdnmmmoaaGreatDoor
