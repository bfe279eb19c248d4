/- Part 5 of a proof: the walks and laws that it needs. -/
import Derived.Test.YtaaokimiadfidaaGreatDoorProg
import Derived.Shelf.Abstract
import Derived.Deep.QuietTactic
import Derived.BigQuiet
import Derived.BigRegion
import Derived.Deep.RegionLaw
import Derived.Deep.LoopGhost
import Derived.Deep.DeepCutAuto
import Derived.Test.YtaaokimiadfidaaGreatDoorZK4
namespace Go.Proofs.YtaaokimiadfidaaGreatDoor
open Go.RowKit
set_option linter.unusedVariables false
set_option linter.unusedSimpArgs false
theorem encO_small (n : Int) : (Utf8.encode n).size ≤ 4 := by
 unfold Utf8.encode
 simp only
 repeat' split
 all_goals simp [ByteArray.size]
theorem getSet_self {α : Type} {xs : List α} {q : Nat} {x d : α} (h : q < xs.length) : (xs.set q x).getD q d = x := by simp [h]
def ozK : ByteArray := ⟨#[111, 122]⟩
def keyO (q : Nat) : ByteArray := ⟨#[111]⟩ ++ Utf8.encode (97 + (q : Int))
theorem keyO_size (q : Nat) : (keyO q).size ≤ 1000 := by
 have := encO_small (97 + (q : Int))
 show (⟨#[111]⟩ ++ Utf8.encode (97 + (q : Int)) : ByteArray).size ≤ 1000
 rw [ByteArray.size_append]; have h1 : (⟨#[111]⟩ : ByteArray).size = 1 := rfl; omega
theorem keyO_ne {q : Nat} (h : q < 20) : keyO q ≠ ozK := by
 have : ∀ q : Fin 20, keyO q.val ≠ ozK := by decide +kernel
 exact this ⟨q, h⟩
def OOk (o : List OrdrS) : Prop := ∀ x ∈ o, x.key.size ≤ 1000 ∧ x.product.size ≤ 1000 ∧ x.key ≠ ozK
theorem OOk.snoc {l : List OrdrS} (h : OOk l) {x : OrdrS} (hx : x.key.size ≤ 1000 ∧ x.product.size ≤ 1000 ∧ x.key ≠ ozK) : OOk (l ++ [x]) := fun y hy => by
 rcases List.mem_append.1 hy with hy | hy
 ·exact h y hy
 ·simp at hy; subst hy; exact hx
theorem OOk.set {l : List OrdrS} (h : OOk l) (q : Nat) {x : OrdrS} (hx : x.key.size ≤ 1000 ∧ x.product.size ≤ 1000 ∧ x.key ≠ ozK) : OOk (l.set q x) := fun y hy => by
 rcases List.mem_or_eq_of_mem_set hy with h' | rfl
 ·exact h y h'
 ·exact hx
theorem OOk.getD {l : List OrdrS} (h : OOk l) (i : Nat) : (l.getD i default).key.size ≤ 1000 ∧ (l.getD i default).product.size ≤ 1000 ∧ (l.getD i default).key ≠ ozK := by
 rw [List.getD_eq_getElem?_getD]
 cases hi : l[i]? with
 | none => decide
 | some x => exact h x (List.mem_of_getElem? hi)
theorem OOk.sm {l : List OrdrS} (h : OOk l) (hl : l.length ≤ 1000) : SmOr l := ⟨by omega, fun i => by have := (h.getD i).1; omega, fun i => by have := (h.getD i).2.1; omega⟩
theorem or_upd {a b : OrdrS} {k : Nat} (h0 : k = 0 ∨ a.key = b.key) (h1 : k = 1 ∨ a.product = b.product) (h2 : k = 2 ∨ a.count = b.count) (h3 : k = 3 ∨ a.ready = b.ready) (h4 : k = 4 ∨ a.due = b.due) : ∀ i, i < 5 → i ≠ k → Sxc.cell a i = Sxc.cell b i := fun i hi hn => by
 match i, hi with
 | 0, _ => show avS a.key = avS b.key; rw [h0.resolve_left fun h => hn h.symm]
 | 1, _ => show avS a.product = avS b.product; rw [h1.resolve_left fun h => hn h.symm]
 | 2, _ => show avI a.count = avI b.count; rw [h2.resolve_left fun h => hn h.symm]
 | 3, _ => show avI a.ready = avI b.ready; rw [h3.resolve_left fun h => hn h.symm]
 | 4, _ => show avI a.due = avI b.due; rw [h4.resolve_left fun h => hn h.symm]
def AllQ : List AV → Prop
 | [] => True
 | x :: r => (∃ i : ByteArray, (i.size ≤ 1000 ∧ i ≠ ozK) ∧ x = avS i) ∧ AllQ r
theorem AllQ.nil : AllQ [] := trivial
theorem AllQ.cons {i : ByteArray} {r : List AV} (h : i.size ≤ 1000 ∧ i ≠ ozK) (hr : AllQ r) : AllQ (avS i :: r) := ⟨⟨i, h, rfl⟩, hr⟩
theorem AllQ.get : ∀ {l : List AV} {q : Nat}, AllQ l → q < l.length → ∃ i : ByteArray, (i.size ≤ 1000 ∧ i ≠ ozK) ∧ l.getD q .any = avS i
 | [], q, _, h => by simp at h
 | x :: r, 0, h, _ => by simpa using h.1
 | x :: r, q + 1, h, hq => by simpa using AllQ.get h.2 (by simpa using hq)
set_option maxRecDepth 100000 in
theorem some_Q {p : Nat} {L : List Int} {n : Nat} {l : List AV} (hn : l.length = n) (h0 : 0 < n) (h1 : n ≤ 1000) (hall : AllQ l) :
  SpecT Tryz.prog (TT p L) (fun b => b = p) 16 [sp p, .im n 1 fun j => l.getD j .any] 1 (fun y => ∃ r : ByteArray, (r.size ≤ 1000 ∧ r ≠ ozK) ∧ y = avS r) := by
 refine SpecT.of_VC Tryz.func16 rfl Tryz.ntmps16 (Nle rfl) (low := (fun b => b ≤ p)) (fun w A k h => h.ok) fun w A k hk hB => ?_
 have hnew : True := trivial
 refine VC.sr ?_
 refine VO.ma rfl rfl rfl rfl ?_
 refine VO.nil ?_
 refine VC.sr ?_
 refine VO.mv rfl rfl rfl rfl ?_
 refine VO.mv rfl rfl rfl rfl ?_
 refine VO.mv rfl rfl rfl rfl ?_
 refine VO.val rfl rfl (OpV.len_im rfl Tryz.underlying67 rfl) ?_
 refine VO.op rfl (OpE.callT' (k) rfl rfl hB rfl Tryz.call103 rfl ((next_T (by omega))) (by omega) ?_)
 rintro _ ⟨r9, hr9, rfl⟩
 refine VO.val rfl rfl (OpV.indexAddr_1 rfl Tryz.underlying67 Tryz.sizeOf9 rfl rfl (Int.toNat_of_nonneg (by omega)).symm (by omega)) ?_
 refine VO.val rfl rfl (OpV.load_at rfl hB OutW.no Tryz.isAgg9 rfl rfl) ?_
 refine VO.ma rfl rfl rfl rfl ?_
 refine VO.nil ?_
 refine VC.ret ?_
 exact Exists.intro _ (And.intro (RetV.one Tryz.results16 (ResV.tmp rfl)) (And.intro (hall.get (by omega)) ((show k + 1 ≤ k + 1 by omega))))
abbrev xO (l : List OrdrS) (m : Nat) : OrdrS := l.getD m default
abbrev pO (g o : Nat) : AV := .v (.pointer (some ⟨g, o, none⟩))
abbrev iO (n : Nat) (cs : List AV) : AV := .im n 1 (fun j => cs.getD j .any)
set_option maxRecDepth 100000 in
set_option maxHeartbeats 40000000 in
theorem orders_M {p : Nat} {L : List Int} {m : Nat} (hm : m ≤ 20) :
    SpecT Tryz.prog (TT p L) (fun b => b = p) 45 [sp p, avI (m : Int)] 100 (fun y => ∃ o : List OrdrS, (o.length ≤ m ∧ OOk o) ∧ y = avL o) := by
  refine SpecT.of_VC Tryz.func45 rfl Tryz.ntmps45 (Nle rfl) (low := (fun b => b ≤ p)) (fun w A k h => h.ok) fun w A k hk hB => ?_
  have hnew : True := trivial
  refine VC.sr ?_
  refine VO.ma rfl rfl rfl rfl ?_
  refine VO.nil ?_
  refine VC.sr ?_
  refine VO.ma rfl rfl rfl rfl ?_
  refine VO.nil ?_
  refine VC.seq ?_
  refine VC.sr ?_
  refine VO.mv rfl rfl rfl rfl ?_
  refine VO.mv rfl rfl rfl rfl ?_
  refine VO.op rfl (OpE.callT' (k) rfl rfl hB rfl Tryz.call14 rfl ((range_T (by omega) (by omega) (by omega))) (by omega) ?_)
  rintro _ ⟨r10, hr10, rfl⟩
  obtain ⟨N, rfl⟩ : ∃ N : Nat, r10 = N := ⟨r10.toNat, by omega⟩
  refine VO.mv rfl rfl rfl rfl ?_
  refine VO.nil ?_
  refine VC.block ?_
  refine VC.le _ (Le.nilRow 5 89) ?_
  refine VC.loopK [(0, _)] ⟨rfl, trivial⟩ ({t : Value × List OrdrS × Nat // t.2.2 ≤ N ∧ t.2.1.length = t.2.2 ∧ OOk t.2.1}) (fun (iZ : {t : Value × List OrdrS × Nat // t.2.2 ≤ N ∧ t.2.1.length = t.2.2 ∧ OOk t.2.1}) => match iZ with | ⟨⟨u, l, q⟩, hq, hl, hok⟩ => [(5, .v u), (10, avI (N : Int)), (11, avI (q : Int))]) (fun (iZ : {t : Value × List OrdrS × Nat // t.2.2 ≤ N ∧ t.2.1.length = t.2.2 ∧ OOk t.2.1}) => match iZ with | ⟨⟨u, l, q⟩, hq, hl, hok⟩ => [.row u l.length 5 (rowL l) 89]) (fun (iZ : {t : Value × List OrdrS × Nat // t.2.2 ≤ N ∧ t.2.1.length = t.2.2 ∧ OOk t.2.1}) => match iZ with | ⟨⟨u, l, q⟩, hq, hl, hok⟩ => k + 1 + 4 * q) (fun (iZ : {t : Value × List OrdrS × Nat // t.2.2 ≤ N ∧ t.2.1.length = t.2.2 ∧ OOk t.2.1}) => match iZ with | ⟨⟨u, l, q⟩, hq, hl, hok⟩ => N - q) ⟨(.slice none 0 0, [], 0), Nat.zero_le _, rfl, fun x h => by simp at h⟩ (Le.mk hB [0] ⟨rfl, rfl, rfl, rfl, trivial⟩ rfl rfl (show k + 1 ≤ k + 1 + 4 * 0 by omega)) ?_
  rintro ⟨⟨u, l, q⟩, hq, hl, hok⟩
  show VC _ _ _ _ ⟨[(5, .v u), (10, avI (N : Int)), (11, avI (q : Int))] ++ [(0, _)], [.row u l.length 5 (rowL l) 89], k + 1 + 4 * q⟩
  simp only at hq hl hok
  refine VC.sr ?_
  refine VO.val rfl rfl (OpV.lss rfl rfl rfl) ?_
  refine VO.nil ?_
  refine VC.seq ?_
  refine VC.cond rfl (fun aH1b => ?_) (fun aH1b => ?_)
  · have aH1 := aH1b
    try simp only [qqT, qqF, qqN, qqM, qqL, qqE] at aH1
    refine VC.skip ?_
    refine VC.seq ?_
    refine VC.block ?_
    refine VC.sr ?_
    refine VO.mv rfl rfl rfl rfl ?_
    refine VO.ma rfl rfl rfl rfl ?_
    refine VO.nil ?_
    refine VC.region ?_
    refine VO.mv rfl rfl rfl rfl ?_
    refine VO.mv rfl rfl rfl rfl ?_
    refine VO.val rfl rfl (OpV.add rfl rfl rfl (by unfold fits; omega)) ?_
    refine VO.val rfl rfl (OpV.conv rfl Tryz.underlying3 Tryz.underlying21 rfl (IntWalk.i32_in _ (by omega))) ?_
    refine VO.val rfl rfl (OpV.convStr rfl Tryz.underlying21 Tryz.underlying9 rfl) ?_
    refine VO.val rfl rfl (OpV.sadd rfl rfl rfl (by have := encO_small (97 + (q : Int)); have h1 : (⟨#[111]⟩ : ByteArray).size = 1 := rfl; omega)) ?_
    refine VO.mv rfl rfl rfl rfl ?_
    refine VO.op rfl (OpE.buildSlice (zc := #[.string ⟨#[]⟩, .string ⟨#[]⟩, .string ⟨#[]⟩, .string ⟨#[]⟩]) rfl hB rfl Tryz.underlying67 Tryz.sizeOf9 Tryz.zeroValue9 (by decide) (by decide) (by kernel_rfl) rfl rfl ?_)
    refine VO.op rfl (OpE.callT' (k + 1 + 4 * q) rfl rfl hB rfl Tryz.call16 rfl ((some_T 1000 (by rfl) (by decide) (by decide) (by repeat (first | exact AllS.nil | refine AllS.cons (by first | decide | omega) ?_)))) (by omega) ?_)
    rintro _ ⟨r22, hr22, rfl⟩
    refine VO.mv rfl rfl rfl rfl ?_
    refine VO.op rfl (OpE.callT' (k + 1 + 4 * q + 1) rfl rfl hB rfl Tryz.call14 rfl ((range_T (by omega) (by omega) (by omega))) (by omega) ?_)
    rintro _ ⟨r24, hr24, rfl⟩
    refine VO.mv rfl rfl rfl rfl ?_
    refine VO.op rfl (OpE.buildSlice (zc := #[.int .i64 0, .int .i64 0, .int .i64 0, .int .i64 0]) rfl hB rfl Tryz.underlying22 Tryz.sizeOf3 Tryz.zeroValue3 (by decide) (by decide) (by kernel_rfl) rfl rfl ?_)
    refine VO.op rfl (OpE.callT' (k + 1 + 4 * q + 1 + 1) rfl rfl hB rfl Tryz.call15 rfl (pick_X (by rfl) (by decide) (by decide) (by repeat (first | exact AllX.nil | refine AllX.cons ?_))) (by omega) ?_)
    rintro _ ⟨r27, rfl⟩
    refine VO.mv rfl rfl rfl rfl ?_
    refine VO.op rfl (OpE.buildSlice (zc := #[.int .i64 0, .int .i64 0, .int .i64 0, .int .i64 0, .int .i64 0]) rfl hB rfl Tryz.underlying22 Tryz.sizeOf3 Tryz.zeroValue3 (by decide) (by decide) (by kernel_rfl) rfl rfl ?_)
    refine VO.op rfl (OpE.callT' (k + 1 + 4 * q + 1 + 1 + 1) rfl rfl hB rfl Tryz.call15 rfl (pick_X (by rfl) (by decide) (by decide) (by repeat (first | exact AllX.nil | refine AllX.cons ?_))) (by omega) ?_)
    rintro _ ⟨r30, rfl⟩
    refine VO.val rfl rfl (OpV.build (pls := #[(0, 1), (1, 1), (2, 1), (3, 1), (4, 1)]) rfl Tryz.zeroValue89 Tryz.underlying89 (fun w => by kernel_rfl) rfl rfl) ?_
    refine VO.op rfl (OpE.buildSlice (zc := #[.string ⟨#[]⟩, .string ⟨#[]⟩, .int .i64 0, .int .i64 0, .int .i64 0]) rfl hB rfl Tryz.underlying75 Tryz.sizeOf89 Tryz.zeroValue89 (by decide) (by decide) (by kernel_rfl) rfl rfl ?_)
    refine VO.op rfl (OpE.append1 (i := 0) rfl hB rfl Tryz.underlying75 (infoOf Tryz.t89 5 (by kernel_rfl) rfl rfl) rfl (by decide) (by decide) rfl rfl rfl rfl (rowL_snoc l (⟨keyO q, r22, r24, r27, r30⟩ : OrdrS)) (by omega) (fun _ _ => trivial) ?_)
    intro u2
    refine VO.ma rfl rfl rfl rfl ?_
    refine VO.nil ?_
    refine VC.region ?_
    refine VO.val rfl rfl (OpV.add rfl rfl rfl (by unfold fits; omega)) ?_
    refine VO.mv rfl rfl rfl rfl ?_
    refine VO.nil ?_
    exact Exists.intro (⟨(u2, l ++ [⟨keyO q, r22, r24, r27, r30⟩], q + 1), by show q + 1 ≤ N; omega, by show (l ++ [_]).length = q + 1; simp; omega, hok.snoc ⟨keyO_size q, hr22, keyO_ne (by omega)⟩⟩) (And.intro (Le.mk hB [0] ⟨rfl, rfl, rfl, rfl, trivial⟩ rfl (by dsimp only; rw [List.length_append]; rfl) (show k + 1 + 4 * q + 1 + 1 + 1 + 1 ≤ k + 1 + 4 * (q + 1) by omega)) (by first | omega | (show _ < _; omega) | (simp only []; omega)))
  · have aH1 := aH1b
    try simp only [qqT, qqF, qqN, qqM, qqL, qqE] at aH1
    refine VC.exit ?_
    refine VC.seq ?_
    refine VC.sr ?_
    refine VO.mv rfl rfl rfl rfl ?_
    refine VO.val rfl rfl (OpV.len_row (i := 0) rfl Tryz.underlying75 rfl rfl) ?_
    refine VO.val rfl rfl (OpV.gtr rfl rfl rfl) ?_
    refine VO.mv rfl rfl rfl rfl ?_
    refine VO.opG rfl rfl rfl rfl (fun aK2b => ?_) (fun aK2b => ?_)
    · replace aK2b : _ = true := aK2b
      have aK2 := aK2b
      try simp only [qqT, qqF, qqN, qqM, qqL, qqE] at aK2
      refine OpE.val (W := NoB) (OpV.move (.inl rfl) rfl) rfl ?_
      refine VO.opY rfl rfl rfl rfl aK2b ?_
      refine OpE.callT' (k + 1 + 4 * q) rfl rfl hB rfl Tryz.call17 rfl ((flip_T (by omega))) (by omega) ?_
      rintro _ ⟨r40, rfl⟩
      refine VO.val rfl rfl (OpV.pickT rfl rfl rfl rfl aK2b) ?_
      refine VO.nil ?_
      refine VC.cond rfl (fun aH3b => ?_) (fun aH3b => ?_)
      · have aH3 := aH3b
        try simp only [qqT, qqF, qqN, qqM, qqL, qqE] at aH3
        refine VC.seq ?_
        refine VC.asBox (i := 0) rfl (by omega) (fun gr cap hu hcap hmx => ?_)
        subst hu
        refine VC.region ?_
        refine VO.mv rfl rfl rfl rfl ?_
        refine VO.mv rfl rfl rfl rfl ?_
        refine VO.mv rfl rfl rfl rfl ?_
        refine VO.val rfl rfl (OpV.len_v rfl Tryz.underlying75 rfl) ?_
        refine VO.op rfl (OpE.callT' (k + 1 + 4 * q + 1) rfl rfl hB rfl Tryz.call103 rfl ((next_T (by omega))) (by omega) ?_)
        rintro _ ⟨r46, hr46, rfl⟩
        obtain ⟨i, rfl⟩ : ∃ i : Nat, r46 = i := ⟨r46.toNat, by omega⟩
        refine VO.val rfl rfl (OpV.indexAddr_q rfl Tryz.underlying75 Tryz.sizeOf89 rfl rfl rfl (by omega)) ?_
        refine VO.ma rfl rfl rfl rfl ?_
        refine VO.nil ?_
        refine VC.draw (fun j b => j ∈ [54, 57, 60, 63, 66] ∧ b = gr) hB (by kernel_rfl) ?_
        refine VA.take (i := 0) rfl (by decide +kernel) (by decide +kernel) (by decide +kernel) rfl rfl (OpV.move (.inl rfl) rfl) ?_
        refine VA.take (i := 1) rfl (by decide +kernel) (by decide +kernel) (by decide +kernel) rfl rfl (OpV.move (.inl rfl) rfl) ?_
        refine VA.take (i := 2) rfl (by decide +kernel) (by decide +kernel) (by decide +kernel) rfl rfl (OpV.move (.inl rfl) rfl) ?_
        refine VA.take (i := 3) rfl (by decide +kernel) (by decide +kernel) (by decide +kernel) rfl rfl (OpV.move (.inl rfl) rfl) ?_
        refine VA.take (i := 4) rfl (by decide +kernel) (by decide +kernel) (by decide +kernel) rfl rfl (OpV.move (.inl rfl) rfl) ?_
        refine VA.take (i := 5) rfl (by decide +kernel) (by decide +kernel) (by decide +kernel) rfl rfl (OpV.move (.inl rfl) rfl) ?_
        refine VA.take (i := 6) rfl (by decide +kernel) (by decide +kernel) (by decide +kernel) rfl rfl (OpV.move (.inl rfl) rfl) ?_
        refine VA.take (i := 7) rfl (by decide +kernel) (by decide +kernel) (by decide +kernel) rfl rfl (OpV.nilCheck rfl rfl) ?_
        refine VA.take (i := 8) rfl (by decide +kernel) (by decide +kernel) (by decide +kernel) rfl rfl (OpV.fieldAddrO 0 rfl Tryz.underlying89 rfl rfl Tryz.sizeOf9 rfl) ?_
        refine VA.take (i := 9) rfl (by decide +kernel) (by decide +kernel) (by decide +kernel) rfl rfl (OpV.load_own (i := 0) rfl hB Tryz.isAgg9 rfl rfl (rowL_at rfl (by omega) (by decide)) (Wi.notD (by decide +kernel))) ?_
        refine VA.take (i := 10) rfl (by decide +kernel) (by decide +kernel) (by decide +kernel) rfl rfl (OpV.move (.inl rfl) rfl) ?_
        refine VA.take (i := 11) rfl (by decide +kernel) (by decide +kernel) (by decide +kernel) rfl rfl (OpV.nilCheck rfl rfl) ?_
        refine VA.take (i := 12) rfl (by decide +kernel) (by decide +kernel) (by decide +kernel) rfl rfl (OpV.fieldAddrO 0 rfl Tryz.underlying89 rfl rfl Tryz.sizeOf9 rfl) ?_
        refine VA.take (i := 13) rfl (by decide +kernel) (by decide +kernel) (by decide +kernel) rfl rfl (OpV.load_own (i := 0) rfl hB Tryz.isAgg9 rfl rfl (rowL_at rfl (by omega) (by decide)) (Wi.notD (by decide +kernel))) ?_
        refine VA.take (i := 16) rfl (by decide +kernel) (by decide +kernel) (by decide +kernel) rfl rfl (OpV.move (.inl rfl) rfl) ?_
        refine VA.take (i := 17) rfl (by decide +kernel) (by decide +kernel) (by decide +kernel) rfl rfl (OpV.move (.inl rfl) rfl) ?_
        refine VA.take (i := 18) rfl (by decide +kernel) (by decide +kernel) (by decide +kernel) rfl rfl (OpV.nilCheck rfl rfl) ?_
        refine VA.take (i := 19) rfl (by decide +kernel) (by decide +kernel) (by decide +kernel) rfl rfl (OpV.fieldAddrO 1 rfl Tryz.underlying89 rfl rfl Tryz.sizeOf9 rfl) ?_
        refine VA.take (i := 20) rfl (by decide +kernel) (by decide +kernel) (by decide +kernel) rfl rfl (OpV.load_own (i := 0) rfl hB Tryz.isAgg9 rfl rfl (rowL_at rfl (by omega) (by decide)) (Wi.notD (by decide +kernel))) ?_
        refine VA.take (i := 21) rfl (by decide +kernel) (by decide +kernel) (by decide +kernel) rfl rfl (OpV.move (.inl rfl) rfl) ?_
        refine VA.take (i := 22) rfl (by decide +kernel) (by decide +kernel) (by decide +kernel) rfl rfl (OpV.nilCheck rfl rfl) ?_
        refine VA.take (i := 23) rfl (by decide +kernel) (by decide +kernel) (by decide +kernel) rfl rfl (OpV.fieldAddrO 1 rfl Tryz.underlying89 rfl rfl Tryz.sizeOf9 rfl) ?_
        refine VA.take (i := 24) rfl (by decide +kernel) (by decide +kernel) (by decide +kernel) rfl rfl (OpV.load_own (i := 0) rfl hB Tryz.isAgg9 rfl rfl (rowL_at rfl (by omega) (by decide)) (Wi.notD (by decide +kernel))) ?_
        refine VA.take (i := 27) rfl (by decide +kernel) (by decide +kernel) (by decide +kernel) rfl rfl (OpV.move (.inl rfl) rfl) ?_
        refine VA.take (i := 28) rfl (by decide +kernel) (by decide +kernel) (by decide +kernel) rfl rfl (OpV.move (.inl rfl) rfl) ?_
        refine VA.take (i := 29) rfl (by decide +kernel) (by decide +kernel) (by decide +kernel) rfl rfl (OpV.nilCheck rfl rfl) ?_
        refine VA.take (i := 30) rfl (by decide +kernel) (by decide +kernel) (by decide +kernel) rfl rfl (OpV.fieldAddrO 2 rfl Tryz.underlying89 rfl rfl Tryz.sizeOf3 rfl) ?_
        refine VA.take (i := 31) rfl (by decide +kernel) (by decide +kernel) (by decide +kernel) rfl rfl (OpV.load_own (i := 0) rfl hB Tryz.isAgg3 rfl rfl (rowL_at rfl (by omega) (by decide)) (Wi.notD (by decide +kernel))) ?_
        refine VA.take (i := 34) rfl (by decide +kernel) (by decide +kernel) (by decide +kernel) rfl rfl (OpV.move (.inl rfl) rfl) ?_
        refine VA.take (i := 35) rfl (by decide +kernel) (by decide +kernel) (by decide +kernel) rfl rfl (OpV.move (.inl rfl) rfl) ?_
        refine VA.take (i := 36) rfl (by decide +kernel) (by decide +kernel) (by decide +kernel) rfl rfl (OpV.nilCheck rfl rfl) ?_
        refine VA.take (i := 37) rfl (by decide +kernel) (by decide +kernel) (by decide +kernel) rfl rfl (OpV.fieldAddrO 3 rfl Tryz.underlying89 rfl rfl Tryz.sizeOf3 rfl) ?_
        refine VA.take (i := 38) rfl (by decide +kernel) (by decide +kernel) (by decide +kernel) rfl rfl (OpV.load_own (i := 0) rfl hB Tryz.isAgg3 rfl rfl (rowL_at rfl (by omega) (by decide)) (Wi.notD (by decide +kernel))) ?_
        refine VA.take (i := 41) rfl (by decide +kernel) (by decide +kernel) (by decide +kernel) rfl rfl (OpV.move (.inl rfl) rfl) ?_
        refine VA.take (i := 42) rfl (by decide +kernel) (by decide +kernel) (by decide +kernel) rfl rfl (OpV.move (.inl rfl) rfl) ?_
        refine VA.take (i := 43) rfl (by decide +kernel) (by decide +kernel) (by decide +kernel) rfl rfl (OpV.nilCheck rfl rfl) ?_
        refine VA.take (i := 44) rfl (by decide +kernel) (by decide +kernel) (by decide +kernel) rfl rfl (OpV.fieldAddrO 4 rfl Tryz.underlying89 rfl rfl Tryz.sizeOf3 rfl) ?_
        refine VA.take (i := 45) rfl (by decide +kernel) (by decide +kernel) (by decide +kernel) rfl rfl (OpV.load_own (i := 0) rfl hB Tryz.isAgg3 rfl rfl (rowL_at rfl (by omega) (by decide)) (Wi.notD (by decide +kernel))) ?_
        refine VA.take (i := 46) rfl (by decide +kernel) (by decide +kernel) (by decide +kernel) rfl rfl (OpV.move (.inl rfl) rfl) ?_
        refine VA.take (i := 47) rfl (by decide +kernel) (by decide +kernel) (by decide +kernel) rfl rfl (OpV.nilCheck rfl rfl) ?_
        refine VA.take (i := 48) rfl (by decide +kernel) (by decide +kernel) (by decide +kernel) rfl rfl (OpV.fieldAddrO 4 rfl Tryz.underlying89 rfl rfl Tryz.sizeOf3 rfl) ?_
        refine VA.take (i := 49) rfl (by decide +kernel) (by decide +kernel) (by decide +kernel) rfl rfl (OpV.load_own (i := 0) rfl hB Tryz.isAgg3 rfl rfl (rowL_at rfl (by omega) (by decide)) (Wi.notD (by decide +kernel))) ?_
        refine VA.bind (fun F hF => ?_)
        have hS0 : ∀ (r63 : ByteArray) (hr63 : r63.size ≤ 1000 ∧ r63 ≠ ozK) (r74 : ByteArray) (hr74 : r74.size ≤ 1000) (r81 : Int) (r88 : Int) (r99 : Int), F 13 (lstB 67 [0, 1, 2, 3, 4, 5, 6, 7, 8, 9, 10, 11, 12, 13, 14, 15, 16, 17, 18, 19, 20, 21, 22, 23, 24, 25, 26, 27, 28, 29, 30, 31, 32, 33, 34, 35, 36, 37, 38, 39, 40, 41, 42, 43, 44, 45, 46, 47, 48, 49, 50, 51, 52, 53]) ⟨[(0, sp p), (53, sp p), (64, sp p), (75, sp p), (82, sp p), (89, sp p), (48, (pO gr (0 + i * 5))), (49, (pO gr (0 + i * 5))), (50, (pO gr (0 + i * 5))), (51, (pO gr (0 + i * 5))), (52, (pO gr (0 + i * 5))), (57, avS (xO l i).key), (61, avS (xO l i).key), (68, avS (xO l i).product), (72, avS (xO l i).product), (79, avI (xO l i).count), (86, avI (xO l i).ready), (93, avI (xO l i).due), (97, avI (xO l i).due), (5, .v (.slice (some ⟨gr, 0, none⟩) l.length cap)), (62, (iO 4 [avS (xO l i).key, avS (xO l i).key, avS ⟨#[]⟩, avS ⟨#[111, 97]⟩])), (63, avS r63), (73, (iO 4 [avS (xO l i).product, avS (xO l i).product, avS ⟨#[122, 122]⟩, avS ⟨#[]⟩])), (74, avS r74), (80, (iO 3 [avI (xO l i).count, avI 0, avI 100001])), (81, avI r81), (87, (iO 3 [avI (xO l i).ready, avI (-1), avI 345686400000])), (88, avI r88), (98, (iO 3 [avI (xO l i).due, avI (xO l i).due, avI 345686400000])), (99, avI r99), (101, (pO gr (0 + i * 5 + 0)))], [.box gr ⟨rowL l, 89, cap * 5⟩], k + 1 + 4 * q + 1 + 1 + 1 + 1 + 1 + 1 + 1⟩ := by
          intro r63 hr63 r74 hr74 r81 r88 r99
          rw [hF]
          refine VA.all (rs := [54]) (by decide +kernel) (by decide) ?_
          refine ⟨⟨_, rfl, .inl rfl, ?_⟩, trivial⟩
          refine OpE.store1 (i := 0) rfl hB rfl Tryz.sizeOf9 rfl rfl rfl rfl rfl rfl (rowL_in rfl (by omega) (by decide)) (rowL_set (x := ({l.getD i default with key := r63} : OrdrS)) rfl (by omega) (by decide) rfl (fun i hi hn => or_upd (by simp) (by simp) (by simp) (by simp) (by simp) i hi hn)) (by first | exact ⟨rfl, rfl⟩ | exact .inl ⟨rfl, rfl⟩ | exact .inr ⟨rfl, rfl⟩ | exact ⟨rfl, trivial⟩ | exact .inl ⟨rfl, trivial⟩ | exact .inr ⟨rfl, trivial⟩ | exact ⟨by decide, rfl⟩) ?_
          refine VA.take (i := 55) rfl (by decide +kernel) (by decide +kernel) (by decide +kernel) rfl rfl (OpV.nilCheck rfl rfl) ?_
          refine VA.take (i := 56) rfl (by decide +kernel) (by decide +kernel) (by decide +kernel) rfl rfl (OpV.fieldAddrO 1 rfl Tryz.underlying89 rfl rfl Tryz.sizeOf9 rfl) ?_
          refine VA.all (rs := [57]) (by decide +kernel) (by decide) ?_
          refine ⟨⟨_, rfl, .inl rfl, ?_⟩, trivial⟩
          refine OpE.store1 (i := 0) rfl hB rfl Tryz.sizeOf9 rfl rfl rfl rfl rfl rfl (rowL_in rfl (by first | omega | (simp only [List.length_set]; omega) | (simp; omega)) (by decide)) (rowL_set (x := ({l.getD i default with key := r63, product := r74} : OrdrS)) rfl (by first | omega | (simp only [List.length_set]; omega) | (simp; omega)) (by decide) rfl (fun i hi hn => by rw [getSet_self (by first | omega | (simp only [List.length_set]; omega) | (simp; omega))]; exact or_upd (by simp) (by simp) (by simp) (by simp) (by simp) i hi hn)) (by first | exact ⟨rfl, rfl⟩ | exact .inl ⟨rfl, rfl⟩ | exact .inr ⟨rfl, rfl⟩ | exact ⟨rfl, trivial⟩ | exact .inl ⟨rfl, trivial⟩ | exact .inr ⟨rfl, trivial⟩ | exact ⟨by decide, rfl⟩) ?_
          refine VA.take (i := 58) rfl (by decide +kernel) (by decide +kernel) (by decide +kernel) rfl rfl (OpV.nilCheck rfl rfl) ?_
          refine VA.take (i := 59) rfl (by decide +kernel) (by decide +kernel) (by decide +kernel) rfl rfl (OpV.fieldAddrO 2 rfl Tryz.underlying89 rfl rfl Tryz.sizeOf3 rfl) ?_
          refine VA.all (rs := [60]) (by decide +kernel) (by decide) ?_
          refine ⟨⟨_, rfl, .inl rfl, ?_⟩, trivial⟩
          refine OpE.store1 (i := 0) rfl hB rfl Tryz.sizeOf3 rfl rfl rfl rfl rfl rfl (rowL_in rfl (by first | omega | (simp only [List.length_set]; omega) | (simp; omega)) (by decide)) (rowL_set (x := ({l.getD i default with key := r63, product := r74, count := r81} : OrdrS)) rfl (by first | omega | (simp only [List.length_set]; omega) | (simp; omega)) (by decide) rfl (fun i hi hn => by rw [getSet_self (by first | omega | (simp only [List.length_set]; omega) | (simp; omega))]; exact or_upd (by simp) (by simp) (by simp) (by simp) (by simp) i hi hn)) (by first | exact ⟨rfl, rfl⟩ | exact .inl ⟨rfl, rfl⟩ | exact .inr ⟨rfl, rfl⟩ | exact ⟨rfl, trivial⟩ | exact .inl ⟨rfl, trivial⟩ | exact .inr ⟨rfl, trivial⟩ | exact ⟨by decide, rfl⟩) ?_
          refine VA.take (i := 61) rfl (by decide +kernel) (by decide +kernel) (by decide +kernel) rfl rfl (OpV.nilCheck rfl rfl) ?_
          refine VA.take (i := 62) rfl (by decide +kernel) (by decide +kernel) (by decide +kernel) rfl rfl (OpV.fieldAddrO 3 rfl Tryz.underlying89 rfl rfl Tryz.sizeOf3 rfl) ?_
          refine VA.all (rs := [63]) (by decide +kernel) (by decide) ?_
          refine ⟨⟨_, rfl, .inl rfl, ?_⟩, trivial⟩
          refine OpE.store1 (i := 0) rfl hB rfl Tryz.sizeOf3 rfl rfl rfl rfl rfl rfl (rowL_in rfl (by first | omega | (simp only [List.length_set]; omega) | (simp; omega)) (by decide)) (rowL_set (x := ({l.getD i default with key := r63, product := r74, count := r81, ready := r88} : OrdrS)) rfl (by first | omega | (simp only [List.length_set]; omega) | (simp; omega)) (by decide) rfl (fun i hi hn => by rw [getSet_self (by first | omega | (simp only [List.length_set]; omega) | (simp; omega))]; exact or_upd (by simp) (by simp) (by simp) (by simp) (by simp) i hi hn)) (by first | exact ⟨rfl, rfl⟩ | exact .inl ⟨rfl, rfl⟩ | exact .inr ⟨rfl, rfl⟩ | exact ⟨rfl, trivial⟩ | exact .inl ⟨rfl, trivial⟩ | exact .inr ⟨rfl, trivial⟩ | exact ⟨by decide, rfl⟩) ?_
          refine VA.take (i := 64) rfl (by decide +kernel) (by decide +kernel) (by decide +kernel) rfl rfl (OpV.nilCheck rfl rfl) ?_
          refine VA.take (i := 65) rfl (by decide +kernel) (by decide +kernel) (by decide +kernel) rfl rfl (OpV.fieldAddrO 4 rfl Tryz.underlying89 rfl rfl Tryz.sizeOf3 rfl) ?_
          refine VA.all (rs := [66]) (by decide +kernel) (by decide) ?_
          refine ⟨⟨_, rfl, .inl rfl, ?_⟩, trivial⟩
          refine OpE.store1 (i := 0) rfl hB rfl Tryz.sizeOf3 rfl rfl rfl rfl rfl rfl (rowL_in rfl (by first | omega | (simp only [List.length_set]; omega) | (simp; omega)) (by decide)) (rowL_set (x := ({l.getD i default with key := r63, product := r74, count := r81, ready := r88, due := r99} : OrdrS)) rfl (by first | omega | (simp only [List.length_set]; omega) | (simp; omega)) (by decide) rfl (fun i hi hn => by rw [getSet_self (by first | omega | (simp only [List.length_set]; omega) | (simp; omega))]; exact or_upd (by simp) (by simp) (by simp) (by simp) (by simp) i hi hn)) (by first | exact ⟨rfl, rfl⟩ | exact .inl ⟨rfl, rfl⟩ | exact .inr ⟨rfl, rfl⟩ | exact ⟨rfl, trivial⟩ | exact .inl ⟨rfl, trivial⟩ | exact .inr ⟨rfl, trivial⟩ | exact ⟨by decide, rfl⟩) ?_
          refine VA.done (by decide +kernel) ?_
          refine VC.sr ?_
          refine VO.mv rfl rfl rfl rfl ?_
          refine VO.ma rfl rfl rfl rfl ?_
          refine VO.nil ?_
          refine VC.le _ (Le.boxT (t := 4) (i := 0) (n := l.length) hB hnew rfl rfl (by simp) hcap hmx) ?_
          refine VC.ret ?_
          exact Exists.intro _ (And.intro (RetV.one Tryz.results45 (ResV.tmp rfl)) (And.intro (by first | exact ⟨l, ⟨by omega, hok⟩, rfl⟩ | exact ⟨_, ⟨by simp; omega, by repeat (first | exact hok | refine OOk.set ?_ _ ⟨by first | exact hr63.1 | exact (hok.getD i).1, by first | exact hr74 | exact (hok.getD i).2.1, by first | exact hr63.2 | exact (hok.getD i).2.2⟩)⟩, rfl⟩) ((show k + 1 + 4 * q + 1 + 1 + 1 + 1 + 1 + 1 + 1 ≤ k + 100 by omega))))
        have hS1 : ∀ (r63 : ByteArray) (hr63 : r63.size ≤ 1000 ∧ r63 ≠ ozK) (r74 : ByteArray) (hr74 : r74.size ≤ 1000) (r81 : Int) (r88 : Int), F 16 (lstB 67 [0, 1, 2, 3, 4, 5, 6, 7, 8, 9, 10, 11, 12, 13, 14, 15, 16, 17, 18, 19, 20, 21, 22, 23, 24, 25, 26, 27, 28, 29, 30, 31, 32, 33, 34, 35, 36, 37, 38, 39, 40, 41, 42, 43, 44, 45, 46, 47, 48, 49, 50]) ⟨[(0, sp p), (53, sp p), (64, sp p), (75, sp p), (82, sp p), (89, sp p), (48, (pO gr (0 + i * 5))), (49, (pO gr (0 + i * 5))), (50, (pO gr (0 + i * 5))), (51, (pO gr (0 + i * 5))), (52, (pO gr (0 + i * 5))), (57, avS (xO l i).key), (61, avS (xO l i).key), (68, avS (xO l i).product), (72, avS (xO l i).product), (79, avI (xO l i).count), (86, avI (xO l i).ready), (93, avI (xO l i).due), (97, avI (xO l i).due), (5, .v (.slice (some ⟨gr, 0, none⟩) l.length cap)), (62, (iO 4 [avS (xO l i).key, avS (xO l i).key, avS ⟨#[]⟩, avS ⟨#[111, 97]⟩])), (63, avS r63), (73, (iO 4 [avS (xO l i).product, avS (xO l i).product, avS ⟨#[122, 122]⟩, avS ⟨#[]⟩])), (74, avS r74), (80, (iO 3 [avI (xO l i).count, avI 0, avI 100001])), (81, avI r81), (87, (iO 3 [avI (xO l i).ready, avI (-1), avI 345686400000])), (88, avI r88), (98, (iO 3 [avI (xO l i).due, avI (xO l i).due, avI 345686400000]))], [.box gr ⟨rowL l, 89, cap * 5⟩], k + 1 + 4 * q + 1 + 1 + 1 + 1 + 1 + 1⟩ := by
          intro r63 hr63 r74 hr74 r81 r88
          rw [hF]
          refine VA.all (rs := [51]) (by decide +kernel) (by decide) ?_
          refine ⟨⟨_, rfl, .inl rfl, ?_⟩, trivial⟩
          refine OpE.callT' (k + 1 + 4 * q + 1 + 1 + 1 + 1 + 1 + 1) rfl rfl hB rfl Tryz.call15 rfl (pick_X (by rfl) (by decide) (by decide) (by repeat (first | exact AllX.nil | refine AllX.cons ?_))) (by omega) ?_
          rintro _ ⟨r99, rfl⟩
          refine VA.take (i := 52) rfl (by decide +kernel) (by decide +kernel) (by decide +kernel) rfl rfl (OpV.nilCheck rfl rfl) ?_
          refine VA.take (i := 53) rfl (by decide +kernel) (by decide +kernel) (by decide +kernel) rfl rfl (OpV.fieldAddrO 0 rfl Tryz.underlying89 rfl rfl Tryz.sizeOf9 rfl) ?_
          have hh := hS0 r63 hr63 r74 hr74 r81 r88 r99
          rw [hF] at hh
          exact VA.to hh (by decide +kernel) (Le.mk hB [0] ⟨rfl, rfl, rfl, rfl, rfl, rfl, rfl, rfl, rfl, rfl, rfl, rfl, rfl, rfl, rfl, rfl, rfl, rfl, rfl, rfl, rfl, rfl, rfl, rfl, rfl, rfl, rfl, rfl, rfl, rfl, rfl, trivial⟩ rfl rfl (Nat.le_refl _))
        have hS2 : ∀ (r63 : ByteArray) (hr63 : r63.size ≤ 1000 ∧ r63 ≠ ozK) (r74 : ByteArray) (hr74 : r74.size ≤ 1000) (r81 : Int) (r88 : Int), F 17 (lstB 67 [0, 1, 2, 3, 4, 5, 6, 7, 8, 9, 10, 11, 12, 13, 14, 15, 16, 17, 18, 19, 20, 21, 22, 23, 24, 25, 26, 27, 28, 29, 30, 31, 32, 33, 34, 35, 36, 37, 38, 39, 40, 41, 42, 43, 44, 45, 46, 47, 48, 49]) ⟨[(0, sp p), (53, sp p), (64, sp p), (75, sp p), (82, sp p), (89, sp p), (48, (pO gr (0 + i * 5))), (49, (pO gr (0 + i * 5))), (50, (pO gr (0 + i * 5))), (51, (pO gr (0 + i * 5))), (52, (pO gr (0 + i * 5))), (57, avS (xO l i).key), (61, avS (xO l i).key), (68, avS (xO l i).product), (72, avS (xO l i).product), (79, avI (xO l i).count), (86, avI (xO l i).ready), (93, avI (xO l i).due), (97, avI (xO l i).due), (5, .v (.slice (some ⟨gr, 0, none⟩) l.length cap)), (62, (iO 4 [avS (xO l i).key, avS (xO l i).key, avS ⟨#[]⟩, avS ⟨#[111, 97]⟩])), (63, avS r63), (73, (iO 4 [avS (xO l i).product, avS (xO l i).product, avS ⟨#[122, 122]⟩, avS ⟨#[]⟩])), (74, avS r74), (80, (iO 3 [avI (xO l i).count, avI 0, avI 100001])), (81, avI r81), (87, (iO 3 [avI (xO l i).ready, avI (-1), avI 345686400000])), (88, avI r88)], [.box gr ⟨rowL l, 89, cap * 5⟩], k + 1 + 4 * q + 1 + 1 + 1 + 1 + 1 + 1⟩ := by
          intro r63 hr63 r74 hr74 r81 r88
          rw [hF]
          refine VA.all (rs := [50]) (by decide +kernel) (by decide) ?_
          refine ⟨⟨_, rfl, .inl rfl, ?_⟩, trivial⟩
          refine OpE.buildSlice (zc := #[.int .i64 0, .int .i64 0, .int .i64 0]) rfl hB rfl Tryz.underlying22 Tryz.sizeOf3 Tryz.zeroValue3 (by decide) (by decide) (by kernel_rfl) rfl rfl ?_
          have hh := hS1 r63 hr63 r74 hr74 r81 r88
          rw [hF] at hh
          exact VA.to hh (by decide +kernel) (Le.mk hB [0] ⟨rfl, rfl, rfl, rfl, rfl, rfl, rfl, rfl, rfl, rfl, rfl, rfl, rfl, rfl, rfl, rfl, rfl, rfl, rfl, rfl, rfl, rfl, rfl, rfl, rfl, rfl, rfl, rfl, rfl, trivial⟩ rfl rfl (Nat.le_refl _))
        have hS3 : ∀ (r63 : ByteArray) (hr63 : r63.size ≤ 1000 ∧ r63 ≠ ozK) (r74 : ByteArray) (hr74 : r74.size ≤ 1000) (r81 : Int), F 17 (lstB 67 [0, 1, 2, 3, 4, 5, 6, 7, 8, 9, 10, 11, 12, 13, 14, 15, 16, 17, 18, 19, 20, 21, 22, 23, 24, 25, 26, 27, 28, 29, 30, 31, 32, 33, 34, 35, 36, 37, 38, 39, 41, 42, 43, 44, 45, 46, 47, 48, 49, 50]) ⟨[(0, sp p), (53, sp p), (64, sp p), (75, sp p), (82, sp p), (89, sp p), (48, (pO gr (0 + i * 5))), (49, (pO gr (0 + i * 5))), (50, (pO gr (0 + i * 5))), (51, (pO gr (0 + i * 5))), (52, (pO gr (0 + i * 5))), (57, avS (xO l i).key), (61, avS (xO l i).key), (68, avS (xO l i).product), (72, avS (xO l i).product), (79, avI (xO l i).count), (86, avI (xO l i).ready), (93, avI (xO l i).due), (97, avI (xO l i).due), (5, .v (.slice (some ⟨gr, 0, none⟩) l.length cap)), (62, (iO 4 [avS (xO l i).key, avS (xO l i).key, avS ⟨#[]⟩, avS ⟨#[111, 97]⟩])), (63, avS r63), (73, (iO 4 [avS (xO l i).product, avS (xO l i).product, avS ⟨#[122, 122]⟩, avS ⟨#[]⟩])), (74, avS r74), (80, (iO 3 [avI (xO l i).count, avI 0, avI 100001])), (81, avI r81), (87, (iO 3 [avI (xO l i).ready, avI (-1), avI 345686400000])), (98, (iO 3 [avI (xO l i).due, avI (xO l i).due, avI 345686400000]))], [.box gr ⟨rowL l, 89, cap * 5⟩], k + 1 + 4 * q + 1 + 1 + 1 + 1 + 1⟩ := by
          intro r63 hr63 r74 hr74 r81
          rw [hF]
          refine VA.all (rs := [40]) (by decide +kernel) (by decide) ?_
          refine ⟨⟨_, rfl, .inl rfl, ?_⟩, trivial⟩
          refine OpE.callT' (k + 1 + 4 * q + 1 + 1 + 1 + 1 + 1) rfl rfl hB rfl Tryz.call15 rfl (pick_X (by rfl) (by decide) (by decide) (by repeat (first | exact AllX.nil | refine AllX.cons ?_))) (by omega) ?_
          rintro _ ⟨r88, rfl⟩
          have hh := hS1 r63 hr63 r74 hr74 r81 r88
          rw [hF] at hh
          exact VA.to hh (by decide +kernel) (Le.mk hB [0] ⟨rfl, rfl, rfl, rfl, rfl, rfl, rfl, rfl, rfl, rfl, rfl, rfl, rfl, rfl, rfl, rfl, rfl, rfl, rfl, rfl, rfl, rfl, rfl, rfl, rfl, rfl, rfl, rfl, rfl, trivial⟩ rfl rfl (Nat.le_refl _))
        have hS4 : ∀ (r63 : ByteArray) (hr63 : r63.size ≤ 1000 ∧ r63 ≠ ozK) (r74 : ByteArray) (hr74 : r74.size ≤ 1000) (r81 : Int), F 18 (lstB 67 [0, 1, 2, 3, 4, 5, 6, 7, 8, 9, 10, 11, 12, 13, 14, 15, 16, 17, 18, 19, 20, 21, 22, 23, 24, 25, 26, 27, 28, 29, 30, 31, 32, 33, 34, 35, 36, 37, 38, 39, 41, 42, 43, 44, 45, 46, 47, 48, 49]) ⟨[(0, sp p), (53, sp p), (64, sp p), (75, sp p), (82, sp p), (89, sp p), (48, (pO gr (0 + i * 5))), (49, (pO gr (0 + i * 5))), (50, (pO gr (0 + i * 5))), (51, (pO gr (0 + i * 5))), (52, (pO gr (0 + i * 5))), (57, avS (xO l i).key), (61, avS (xO l i).key), (68, avS (xO l i).product), (72, avS (xO l i).product), (79, avI (xO l i).count), (86, avI (xO l i).ready), (93, avI (xO l i).due), (97, avI (xO l i).due), (5, .v (.slice (some ⟨gr, 0, none⟩) l.length cap)), (62, (iO 4 [avS (xO l i).key, avS (xO l i).key, avS ⟨#[]⟩, avS ⟨#[111, 97]⟩])), (63, avS r63), (73, (iO 4 [avS (xO l i).product, avS (xO l i).product, avS ⟨#[122, 122]⟩, avS ⟨#[]⟩])), (74, avS r74), (80, (iO 3 [avI (xO l i).count, avI 0, avI 100001])), (81, avI r81), (87, (iO 3 [avI (xO l i).ready, avI (-1), avI 345686400000]))], [.box gr ⟨rowL l, 89, cap * 5⟩], k + 1 + 4 * q + 1 + 1 + 1 + 1 + 1⟩ := by
          intro r63 hr63 r74 hr74 r81
          rw [hF]
          refine VA.all (rs := [40, 50]) (by decide +kernel) (by decide) ?_
          refine ⟨⟨_, rfl, .inl rfl, ?_⟩, ⟨_, rfl, .inl rfl, ?_⟩, trivial⟩
          ·
            refine OpE.callT' (k + 1 + 4 * q + 1 + 1 + 1 + 1 + 1) rfl rfl hB rfl Tryz.call15 rfl (pick_X (by rfl) (by decide) (by decide) (by repeat (first | exact AllX.nil | refine AllX.cons ?_))) (by omega) ?_
            rintro _ ⟨r88, rfl⟩
            have hh := hS2 r63 hr63 r74 hr74 r81 r88
            rw [hF] at hh
            exact VA.to hh (by decide +kernel) (Le.mk hB [0] ⟨rfl, rfl, rfl, rfl, rfl, rfl, rfl, rfl, rfl, rfl, rfl, rfl, rfl, rfl, rfl, rfl, rfl, rfl, rfl, rfl, rfl, rfl, rfl, rfl, rfl, rfl, rfl, rfl, trivial⟩ rfl rfl (Nat.le_refl _))
          ·
            refine OpE.buildSlice (zc := #[.int .i64 0, .int .i64 0, .int .i64 0]) rfl hB rfl Tryz.underlying22 Tryz.sizeOf3 Tryz.zeroValue3 (by decide) (by decide) (by kernel_rfl) rfl rfl ?_
            have hh := hS3 r63 hr63 r74 hr74 r81
            rw [hF] at hh
            exact VA.to hh (by decide +kernel) (Le.mk hB [0] ⟨rfl, rfl, rfl, rfl, rfl, rfl, rfl, rfl, rfl, rfl, rfl, rfl, rfl, rfl, rfl, rfl, rfl, rfl, rfl, rfl, rfl, rfl, rfl, rfl, rfl, rfl, rfl, rfl, trivial⟩ rfl rfl (Nat.le_refl _))
        have hS5 : ∀ (r63 : ByteArray) (hr63 : r63.size ≤ 1000 ∧ r63 ≠ ozK) (r74 : ByteArray) (hr74 : r74.size ≤ 1000) (r81 : Int), F 18 (lstB 67 [0, 1, 2, 3, 4, 5, 6, 7, 8, 9, 10, 11, 12, 13, 14, 15, 16, 17, 18, 19, 20, 21, 22, 23, 24, 25, 26, 27, 28, 29, 30, 31, 32, 33, 34, 35, 36, 37, 38, 41, 42, 43, 44, 45, 46, 47, 48, 49, 50]) ⟨[(0, sp p), (53, sp p), (64, sp p), (75, sp p), (82, sp p), (89, sp p), (48, (pO gr (0 + i * 5))), (49, (pO gr (0 + i * 5))), (50, (pO gr (0 + i * 5))), (51, (pO gr (0 + i * 5))), (52, (pO gr (0 + i * 5))), (57, avS (xO l i).key), (61, avS (xO l i).key), (68, avS (xO l i).product), (72, avS (xO l i).product), (79, avI (xO l i).count), (86, avI (xO l i).ready), (93, avI (xO l i).due), (97, avI (xO l i).due), (5, .v (.slice (some ⟨gr, 0, none⟩) l.length cap)), (62, (iO 4 [avS (xO l i).key, avS (xO l i).key, avS ⟨#[]⟩, avS ⟨#[111, 97]⟩])), (63, avS r63), (73, (iO 4 [avS (xO l i).product, avS (xO l i).product, avS ⟨#[122, 122]⟩, avS ⟨#[]⟩])), (74, avS r74), (80, (iO 3 [avI (xO l i).count, avI 0, avI 100001])), (81, avI r81), (98, (iO 3 [avI (xO l i).due, avI (xO l i).due, avI 345686400000]))], [.box gr ⟨rowL l, 89, cap * 5⟩], k + 1 + 4 * q + 1 + 1 + 1 + 1 + 1⟩ := by
          intro r63 hr63 r74 hr74 r81
          rw [hF]
          refine VA.all (rs := [39]) (by decide +kernel) (by decide) ?_
          refine ⟨⟨_, rfl, .inl rfl, ?_⟩, trivial⟩
          refine OpE.buildSlice (zc := #[.int .i64 0, .int .i64 0, .int .i64 0]) rfl hB rfl Tryz.underlying22 Tryz.sizeOf3 Tryz.zeroValue3 (by decide) (by decide) (by kernel_rfl) rfl rfl ?_
          have hh := hS3 r63 hr63 r74 hr74 r81
          rw [hF] at hh
          exact VA.to hh (by decide +kernel) (Le.mk hB [0] ⟨rfl, rfl, rfl, rfl, rfl, rfl, rfl, rfl, rfl, rfl, rfl, rfl, rfl, rfl, rfl, rfl, rfl, rfl, rfl, rfl, rfl, rfl, rfl, rfl, rfl, rfl, rfl, rfl, trivial⟩ rfl rfl (Nat.le_refl _))
        have hS6 : ∀ (r63 : ByteArray) (hr63 : r63.size ≤ 1000 ∧ r63 ≠ ozK) (r74 : ByteArray) (hr74 : r74.size ≤ 1000), F 18 (lstB 67 [0, 1, 2, 3, 4, 5, 6, 7, 8, 9, 10, 11, 12, 13, 14, 15, 16, 17, 18, 19, 20, 21, 22, 23, 24, 25, 26, 27, 28, 29, 30, 31, 32, 34, 35, 36, 37, 38, 39, 41, 42, 43, 44, 45, 46, 47, 48, 49, 50]) ⟨[(0, sp p), (53, sp p), (64, sp p), (75, sp p), (82, sp p), (89, sp p), (48, (pO gr (0 + i * 5))), (49, (pO gr (0 + i * 5))), (50, (pO gr (0 + i * 5))), (51, (pO gr (0 + i * 5))), (52, (pO gr (0 + i * 5))), (57, avS (xO l i).key), (61, avS (xO l i).key), (68, avS (xO l i).product), (72, avS (xO l i).product), (79, avI (xO l i).count), (86, avI (xO l i).ready), (93, avI (xO l i).due), (97, avI (xO l i).due), (5, .v (.slice (some ⟨gr, 0, none⟩) l.length cap)), (62, (iO 4 [avS (xO l i).key, avS (xO l i).key, avS ⟨#[]⟩, avS ⟨#[111, 97]⟩])), (63, avS r63), (73, (iO 4 [avS (xO l i).product, avS (xO l i).product, avS ⟨#[122, 122]⟩, avS ⟨#[]⟩])), (74, avS r74), (80, (iO 3 [avI (xO l i).count, avI 0, avI 100001])), (87, (iO 3 [avI (xO l i).ready, avI (-1), avI 345686400000])), (98, (iO 3 [avI (xO l i).due, avI (xO l i).due, avI 345686400000]))], [.box gr ⟨rowL l, 89, cap * 5⟩], k + 1 + 4 * q + 1 + 1 + 1 + 1⟩ := by
          intro r63 hr63 r74 hr74
          rw [hF]
          refine VA.all (rs := [33]) (by decide +kernel) (by decide) ?_
          refine ⟨⟨_, rfl, .inl rfl, ?_⟩, trivial⟩
          refine OpE.callT' (k + 1 + 4 * q + 1 + 1 + 1 + 1) rfl rfl hB rfl Tryz.call15 rfl (pick_X (by rfl) (by decide) (by decide) (by repeat (first | exact AllX.nil | refine AllX.cons ?_))) (by omega) ?_
          rintro _ ⟨r81, rfl⟩
          have hh := hS3 r63 hr63 r74 hr74 r81
          rw [hF] at hh
          exact VA.to hh (by decide +kernel) (Le.mk hB [0] ⟨rfl, rfl, rfl, rfl, rfl, rfl, rfl, rfl, rfl, rfl, rfl, rfl, rfl, rfl, rfl, rfl, rfl, rfl, rfl, rfl, rfl, rfl, rfl, rfl, rfl, rfl, rfl, rfl, trivial⟩ rfl rfl (Nat.le_refl _))
        have hS7 : ∀ (r63 : ByteArray) (hr63 : r63.size ≤ 1000 ∧ r63 ≠ ozK) (r74 : ByteArray) (hr74 : r74.size ≤ 1000) (r81 : Int), F 19 (lstB 67 [0, 1, 2, 3, 4, 5, 6, 7, 8, 9, 10, 11, 12, 13, 14, 15, 16, 17, 18, 19, 20, 21, 22, 23, 24, 25, 26, 27, 28, 29, 30, 31, 32, 33, 34, 35, 36, 37, 38, 41, 42, 43, 44, 45, 46, 47, 48, 49]) ⟨[(0, sp p), (53, sp p), (64, sp p), (75, sp p), (82, sp p), (89, sp p), (48, (pO gr (0 + i * 5))), (49, (pO gr (0 + i * 5))), (50, (pO gr (0 + i * 5))), (51, (pO gr (0 + i * 5))), (52, (pO gr (0 + i * 5))), (57, avS (xO l i).key), (61, avS (xO l i).key), (68, avS (xO l i).product), (72, avS (xO l i).product), (79, avI (xO l i).count), (86, avI (xO l i).ready), (93, avI (xO l i).due), (97, avI (xO l i).due), (5, .v (.slice (some ⟨gr, 0, none⟩) l.length cap)), (62, (iO 4 [avS (xO l i).key, avS (xO l i).key, avS ⟨#[]⟩, avS ⟨#[111, 97]⟩])), (63, avS r63), (73, (iO 4 [avS (xO l i).product, avS (xO l i).product, avS ⟨#[122, 122]⟩, avS ⟨#[]⟩])), (74, avS r74), (80, (iO 3 [avI (xO l i).count, avI 0, avI 100001])), (81, avI r81)], [.box gr ⟨rowL l, 89, cap * 5⟩], k + 1 + 4 * q + 1 + 1 + 1 + 1 + 1⟩ := by
          intro r63 hr63 r74 hr74 r81
          rw [hF]
          refine VA.all (rs := [39, 50]) (by decide +kernel) (by decide) ?_
          refine ⟨⟨_, rfl, .inl rfl, ?_⟩, ⟨_, rfl, .inl rfl, ?_⟩, trivial⟩
          ·
            refine OpE.buildSlice (zc := #[.int .i64 0, .int .i64 0, .int .i64 0]) rfl hB rfl Tryz.underlying22 Tryz.sizeOf3 Tryz.zeroValue3 (by decide) (by decide) (by kernel_rfl) rfl rfl ?_
            have hh := hS4 r63 hr63 r74 hr74 r81
            rw [hF] at hh
            exact VA.to hh (by decide +kernel) (Le.mk hB [0] ⟨rfl, rfl, rfl, rfl, rfl, rfl, rfl, rfl, rfl, rfl, rfl, rfl, rfl, rfl, rfl, rfl, rfl, rfl, rfl, rfl, rfl, rfl, rfl, rfl, rfl, rfl, rfl, trivial⟩ rfl rfl (Nat.le_refl _))
          ·
            refine OpE.buildSlice (zc := #[.int .i64 0, .int .i64 0, .int .i64 0]) rfl hB rfl Tryz.underlying22 Tryz.sizeOf3 Tryz.zeroValue3 (by decide) (by decide) (by kernel_rfl) rfl rfl ?_
            have hh := hS5 r63 hr63 r74 hr74 r81
            rw [hF] at hh
            exact VA.to hh (by decide +kernel) (Le.mk hB [0] ⟨rfl, rfl, rfl, rfl, rfl, rfl, rfl, rfl, rfl, rfl, rfl, rfl, rfl, rfl, rfl, rfl, rfl, rfl, rfl, rfl, rfl, rfl, rfl, rfl, rfl, rfl, rfl, trivial⟩ rfl rfl (Nat.le_refl _))
        have hS8 : ∀ (r63 : ByteArray) (hr63 : r63.size ≤ 1000 ∧ r63 ≠ ozK) (r74 : ByteArray) (hr74 : r74.size ≤ 1000), F 19 (lstB 67 [0, 1, 2, 3, 4, 5, 6, 7, 8, 9, 10, 11, 12, 13, 14, 15, 16, 17, 18, 19, 20, 21, 22, 23, 24, 25, 26, 27, 28, 29, 30, 31, 32, 34, 35, 36, 37, 38, 39, 41, 42, 43, 44, 45, 46, 47, 48, 49]) ⟨[(0, sp p), (53, sp p), (64, sp p), (75, sp p), (82, sp p), (89, sp p), (48, (pO gr (0 + i * 5))), (49, (pO gr (0 + i * 5))), (50, (pO gr (0 + i * 5))), (51, (pO gr (0 + i * 5))), (52, (pO gr (0 + i * 5))), (57, avS (xO l i).key), (61, avS (xO l i).key), (68, avS (xO l i).product), (72, avS (xO l i).product), (79, avI (xO l i).count), (86, avI (xO l i).ready), (93, avI (xO l i).due), (97, avI (xO l i).due), (5, .v (.slice (some ⟨gr, 0, none⟩) l.length cap)), (62, (iO 4 [avS (xO l i).key, avS (xO l i).key, avS ⟨#[]⟩, avS ⟨#[111, 97]⟩])), (63, avS r63), (73, (iO 4 [avS (xO l i).product, avS (xO l i).product, avS ⟨#[122, 122]⟩, avS ⟨#[]⟩])), (74, avS r74), (80, (iO 3 [avI (xO l i).count, avI 0, avI 100001])), (87, (iO 3 [avI (xO l i).ready, avI (-1), avI 345686400000]))], [.box gr ⟨rowL l, 89, cap * 5⟩], k + 1 + 4 * q + 1 + 1 + 1 + 1⟩ := by
          intro r63 hr63 r74 hr74
          rw [hF]
          refine VA.all (rs := [33, 50]) (by decide +kernel) (by decide) ?_
          refine ⟨⟨_, rfl, .inl rfl, ?_⟩, ⟨_, rfl, .inl rfl, ?_⟩, trivial⟩
          ·
            refine OpE.callT' (k + 1 + 4 * q + 1 + 1 + 1 + 1) rfl rfl hB rfl Tryz.call15 rfl (pick_X (by rfl) (by decide) (by decide) (by repeat (first | exact AllX.nil | refine AllX.cons ?_))) (by omega) ?_
            rintro _ ⟨r81, rfl⟩
            have hh := hS4 r63 hr63 r74 hr74 r81
            rw [hF] at hh
            exact VA.to hh (by decide +kernel) (Le.mk hB [0] ⟨rfl, rfl, rfl, rfl, rfl, rfl, rfl, rfl, rfl, rfl, rfl, rfl, rfl, rfl, rfl, rfl, rfl, rfl, rfl, rfl, rfl, rfl, rfl, rfl, rfl, rfl, rfl, trivial⟩ rfl rfl (Nat.le_refl _))
          ·
            refine OpE.buildSlice (zc := #[.int .i64 0, .int .i64 0, .int .i64 0]) rfl hB rfl Tryz.underlying22 Tryz.sizeOf3 Tryz.zeroValue3 (by decide) (by decide) (by kernel_rfl) rfl rfl ?_
            have hh := hS6 r63 hr63 r74 hr74
            rw [hF] at hh
            exact VA.to hh (by decide +kernel) (Le.mk hB [0] ⟨rfl, rfl, rfl, rfl, rfl, rfl, rfl, rfl, rfl, rfl, rfl, rfl, rfl, rfl, rfl, rfl, rfl, rfl, rfl, rfl, rfl, rfl, rfl, rfl, rfl, rfl, rfl, trivial⟩ rfl rfl (Nat.le_refl _))
        have hS9 : ∀ (r63 : ByteArray) (hr63 : r63.size ≤ 1000 ∧ r63 ≠ ozK) (r74 : ByteArray) (hr74 : r74.size ≤ 1000), F 19 (lstB 67 [0, 1, 2, 3, 4, 5, 6, 7, 8, 9, 10, 11, 12, 13, 14, 15, 16, 17, 18, 19, 20, 21, 22, 23, 24, 25, 26, 27, 28, 29, 30, 31, 32, 34, 35, 36, 37, 38, 41, 42, 43, 44, 45, 46, 47, 48, 49, 50]) ⟨[(0, sp p), (53, sp p), (64, sp p), (75, sp p), (82, sp p), (89, sp p), (48, (pO gr (0 + i * 5))), (49, (pO gr (0 + i * 5))), (50, (pO gr (0 + i * 5))), (51, (pO gr (0 + i * 5))), (52, (pO gr (0 + i * 5))), (57, avS (xO l i).key), (61, avS (xO l i).key), (68, avS (xO l i).product), (72, avS (xO l i).product), (79, avI (xO l i).count), (86, avI (xO l i).ready), (93, avI (xO l i).due), (97, avI (xO l i).due), (5, .v (.slice (some ⟨gr, 0, none⟩) l.length cap)), (62, (iO 4 [avS (xO l i).key, avS (xO l i).key, avS ⟨#[]⟩, avS ⟨#[111, 97]⟩])), (63, avS r63), (73, (iO 4 [avS (xO l i).product, avS (xO l i).product, avS ⟨#[122, 122]⟩, avS ⟨#[]⟩])), (74, avS r74), (80, (iO 3 [avI (xO l i).count, avI 0, avI 100001])), (98, (iO 3 [avI (xO l i).due, avI (xO l i).due, avI 345686400000]))], [.box gr ⟨rowL l, 89, cap * 5⟩], k + 1 + 4 * q + 1 + 1 + 1 + 1⟩ := by
          intro r63 hr63 r74 hr74
          rw [hF]
          refine VA.all (rs := [33, 39]) (by decide +kernel) (by decide) ?_
          refine ⟨⟨_, rfl, .inl rfl, ?_⟩, ⟨_, rfl, .inl rfl, ?_⟩, trivial⟩
          ·
            refine OpE.callT' (k + 1 + 4 * q + 1 + 1 + 1 + 1) rfl rfl hB rfl Tryz.call15 rfl (pick_X (by rfl) (by decide) (by decide) (by repeat (first | exact AllX.nil | refine AllX.cons ?_))) (by omega) ?_
            rintro _ ⟨r81, rfl⟩
            have hh := hS5 r63 hr63 r74 hr74 r81
            rw [hF] at hh
            exact VA.to hh (by decide +kernel) (Le.mk hB [0] ⟨rfl, rfl, rfl, rfl, rfl, rfl, rfl, rfl, rfl, rfl, rfl, rfl, rfl, rfl, rfl, rfl, rfl, rfl, rfl, rfl, rfl, rfl, rfl, rfl, rfl, rfl, rfl, trivial⟩ rfl rfl (Nat.le_refl _))
          ·
            refine OpE.buildSlice (zc := #[.int .i64 0, .int .i64 0, .int .i64 0]) rfl hB rfl Tryz.underlying22 Tryz.sizeOf3 Tryz.zeroValue3 (by decide) (by decide) (by kernel_rfl) rfl rfl ?_
            have hh := hS6 r63 hr63 r74 hr74
            rw [hF] at hh
            exact VA.to hh (by decide +kernel) (Le.mk hB [0] ⟨rfl, rfl, rfl, rfl, rfl, rfl, rfl, rfl, rfl, rfl, rfl, rfl, rfl, rfl, rfl, rfl, rfl, rfl, rfl, rfl, rfl, rfl, rfl, rfl, rfl, rfl, rfl, trivial⟩ rfl rfl (Nat.le_refl _))
        have hS10 : ∀ (r63 : ByteArray) (hr63 : r63.size ≤ 1000 ∧ r63 ≠ ozK) (r74 : ByteArray) (hr74 : r74.size ≤ 1000), F 19 (lstB 67 [0, 1, 2, 3, 4, 5, 6, 7, 8, 9, 10, 11, 12, 13, 14, 15, 16, 17, 18, 19, 20, 21, 22, 23, 24, 25, 26, 27, 28, 29, 30, 31, 34, 35, 36, 37, 38, 39, 41, 42, 43, 44, 45, 46, 47, 48, 49, 50]) ⟨[(0, sp p), (53, sp p), (64, sp p), (75, sp p), (82, sp p), (89, sp p), (48, (pO gr (0 + i * 5))), (49, (pO gr (0 + i * 5))), (50, (pO gr (0 + i * 5))), (51, (pO gr (0 + i * 5))), (52, (pO gr (0 + i * 5))), (57, avS (xO l i).key), (61, avS (xO l i).key), (68, avS (xO l i).product), (72, avS (xO l i).product), (79, avI (xO l i).count), (86, avI (xO l i).ready), (93, avI (xO l i).due), (97, avI (xO l i).due), (5, .v (.slice (some ⟨gr, 0, none⟩) l.length cap)), (62, (iO 4 [avS (xO l i).key, avS (xO l i).key, avS ⟨#[]⟩, avS ⟨#[111, 97]⟩])), (63, avS r63), (73, (iO 4 [avS (xO l i).product, avS (xO l i).product, avS ⟨#[122, 122]⟩, avS ⟨#[]⟩])), (74, avS r74), (87, (iO 3 [avI (xO l i).ready, avI (-1), avI 345686400000])), (98, (iO 3 [avI (xO l i).due, avI (xO l i).due, avI 345686400000]))], [.box gr ⟨rowL l, 89, cap * 5⟩], k + 1 + 4 * q + 1 + 1 + 1 + 1⟩ := by
          intro r63 hr63 r74 hr74
          rw [hF]
          refine VA.all (rs := [32]) (by decide +kernel) (by decide) ?_
          refine ⟨⟨_, rfl, .inl rfl, ?_⟩, trivial⟩
          refine OpE.buildSlice (zc := #[.int .i64 0, .int .i64 0, .int .i64 0]) rfl hB rfl Tryz.underlying22 Tryz.sizeOf3 Tryz.zeroValue3 (by decide) (by decide) (by kernel_rfl) rfl rfl ?_
          have hh := hS6 r63 hr63 r74 hr74
          rw [hF] at hh
          exact VA.to hh (by decide +kernel) (Le.mk hB [0] ⟨rfl, rfl, rfl, rfl, rfl, rfl, rfl, rfl, rfl, rfl, rfl, rfl, rfl, rfl, rfl, rfl, rfl, rfl, rfl, rfl, rfl, rfl, rfl, rfl, rfl, rfl, rfl, trivial⟩ rfl rfl (Nat.le_refl _))
        have hS11 : ∀ (r63 : ByteArray) (hr63 : r63.size ≤ 1000 ∧ r63 ≠ ozK), F 19 (lstB 67 [0, 1, 2, 3, 4, 5, 6, 7, 8, 9, 10, 11, 12, 13, 14, 15, 16, 17, 18, 19, 20, 21, 22, 23, 24, 25, 27, 28, 29, 30, 31, 32, 34, 35, 36, 37, 38, 39, 41, 42, 43, 44, 45, 46, 47, 48, 49, 50]) ⟨[(0, sp p), (53, sp p), (64, sp p), (75, sp p), (82, sp p), (89, sp p), (48, (pO gr (0 + i * 5))), (49, (pO gr (0 + i * 5))), (50, (pO gr (0 + i * 5))), (51, (pO gr (0 + i * 5))), (52, (pO gr (0 + i * 5))), (57, avS (xO l i).key), (61, avS (xO l i).key), (68, avS (xO l i).product), (72, avS (xO l i).product), (79, avI (xO l i).count), (86, avI (xO l i).ready), (93, avI (xO l i).due), (97, avI (xO l i).due), (5, .v (.slice (some ⟨gr, 0, none⟩) l.length cap)), (62, (iO 4 [avS (xO l i).key, avS (xO l i).key, avS ⟨#[]⟩, avS ⟨#[111, 97]⟩])), (63, avS r63), (73, (iO 4 [avS (xO l i).product, avS (xO l i).product, avS ⟨#[122, 122]⟩, avS ⟨#[]⟩])), (80, (iO 3 [avI (xO l i).count, avI 0, avI 100001])), (87, (iO 3 [avI (xO l i).ready, avI (-1), avI 345686400000])), (98, (iO 3 [avI (xO l i).due, avI (xO l i).due, avI 345686400000]))], [.box gr ⟨rowL l, 89, cap * 5⟩], k + 1 + 4 * q + 1 + 1 + 1⟩ := by
          intro r63 hr63
          rw [hF]
          refine VA.all (rs := [26]) (by decide +kernel) (by decide) ?_
          refine ⟨⟨_, rfl, .inl rfl, ?_⟩, trivial⟩
          refine OpE.callT' (k + 1 + 4 * q + 1 + 1 + 1) rfl rfl hB rfl Tryz.call16 rfl (some_T 1000 (by rfl) (by decide) (by decide) (AllS.cons (hok.getD i).2.1 (AllS.cons (hok.getD i).2.1 (AllS.cons (by decide) (AllS.cons (by decide) AllS.nil))))) (by omega) ?_
          rintro _ ⟨r74, hr74, rfl⟩
          have hh := hS6 r63 hr63 r74 hr74
          rw [hF] at hh
          exact VA.to hh (by decide +kernel) (Le.mk hB [0] ⟨rfl, rfl, rfl, rfl, rfl, rfl, rfl, rfl, rfl, rfl, rfl, rfl, rfl, rfl, rfl, rfl, rfl, rfl, rfl, rfl, rfl, rfl, rfl, rfl, rfl, rfl, rfl, trivial⟩ rfl rfl (Nat.le_refl _))
        have hS12 : ∀ (r63 : ByteArray) (hr63 : r63.size ≤ 1000 ∧ r63 ≠ ozK) (r74 : ByteArray) (hr74 : r74.size ≤ 1000), F 20 (lstB 67 [0, 1, 2, 3, 4, 5, 6, 7, 8, 9, 10, 11, 12, 13, 14, 15, 16, 17, 18, 19, 20, 21, 22, 23, 24, 25, 26, 27, 28, 29, 30, 31, 32, 34, 35, 36, 37, 38, 41, 42, 43, 44, 45, 46, 47, 48, 49]) ⟨[(0, sp p), (53, sp p), (64, sp p), (75, sp p), (82, sp p), (89, sp p), (48, (pO gr (0 + i * 5))), (49, (pO gr (0 + i * 5))), (50, (pO gr (0 + i * 5))), (51, (pO gr (0 + i * 5))), (52, (pO gr (0 + i * 5))), (57, avS (xO l i).key), (61, avS (xO l i).key), (68, avS (xO l i).product), (72, avS (xO l i).product), (79, avI (xO l i).count), (86, avI (xO l i).ready), (93, avI (xO l i).due), (97, avI (xO l i).due), (5, .v (.slice (some ⟨gr, 0, none⟩) l.length cap)), (62, (iO 4 [avS (xO l i).key, avS (xO l i).key, avS ⟨#[]⟩, avS ⟨#[111, 97]⟩])), (63, avS r63), (73, (iO 4 [avS (xO l i).product, avS (xO l i).product, avS ⟨#[122, 122]⟩, avS ⟨#[]⟩])), (74, avS r74), (80, (iO 3 [avI (xO l i).count, avI 0, avI 100001]))], [.box gr ⟨rowL l, 89, cap * 5⟩], k + 1 + 4 * q + 1 + 1 + 1 + 1⟩ := by
          intro r63 hr63 r74 hr74
          rw [hF]
          refine VA.all (rs := [33, 39, 50]) (by decide +kernel) (by decide) ?_
          refine ⟨⟨_, rfl, .inl rfl, ?_⟩, ⟨_, rfl, .inl rfl, ?_⟩, ⟨_, rfl, .inl rfl, ?_⟩, trivial⟩
          ·
            refine OpE.callT' (k + 1 + 4 * q + 1 + 1 + 1 + 1) rfl rfl hB rfl Tryz.call15 rfl (pick_X (by rfl) (by decide) (by decide) (by repeat (first | exact AllX.nil | refine AllX.cons ?_))) (by omega) ?_
            rintro _ ⟨r81, rfl⟩
            have hh := hS7 r63 hr63 r74 hr74 r81
            rw [hF] at hh
            exact VA.to hh (by decide +kernel) (Le.mk hB [0] ⟨rfl, rfl, rfl, rfl, rfl, rfl, rfl, rfl, rfl, rfl, rfl, rfl, rfl, rfl, rfl, rfl, rfl, rfl, rfl, rfl, rfl, rfl, rfl, rfl, rfl, rfl, trivial⟩ rfl rfl (Nat.le_refl _))
          ·
            refine OpE.buildSlice (zc := #[.int .i64 0, .int .i64 0, .int .i64 0]) rfl hB rfl Tryz.underlying22 Tryz.sizeOf3 Tryz.zeroValue3 (by decide) (by decide) (by kernel_rfl) rfl rfl ?_
            have hh := hS8 r63 hr63 r74 hr74
            rw [hF] at hh
            exact VA.to hh (by decide +kernel) (Le.mk hB [0] ⟨rfl, rfl, rfl, rfl, rfl, rfl, rfl, rfl, rfl, rfl, rfl, rfl, rfl, rfl, rfl, rfl, rfl, rfl, rfl, rfl, rfl, rfl, rfl, rfl, rfl, rfl, trivial⟩ rfl rfl (Nat.le_refl _))
          ·
            refine OpE.buildSlice (zc := #[.int .i64 0, .int .i64 0, .int .i64 0]) rfl hB rfl Tryz.underlying22 Tryz.sizeOf3 Tryz.zeroValue3 (by decide) (by decide) (by kernel_rfl) rfl rfl ?_
            have hh := hS9 r63 hr63 r74 hr74
            rw [hF] at hh
            exact VA.to hh (by decide +kernel) (Le.mk hB [0] ⟨rfl, rfl, rfl, rfl, rfl, rfl, rfl, rfl, rfl, rfl, rfl, rfl, rfl, rfl, rfl, rfl, rfl, rfl, rfl, rfl, rfl, rfl, rfl, rfl, rfl, rfl, trivial⟩ rfl rfl (Nat.le_refl _))
        have hS13 : ∀ (r63 : ByteArray) (hr63 : r63.size ≤ 1000 ∧ r63 ≠ ozK) (r74 : ByteArray) (hr74 : r74.size ≤ 1000), F 20 (lstB 67 [0, 1, 2, 3, 4, 5, 6, 7, 8, 9, 10, 11, 12, 13, 14, 15, 16, 17, 18, 19, 20, 21, 22, 23, 24, 25, 26, 27, 28, 29, 30, 31, 34, 35, 36, 37, 38, 39, 41, 42, 43, 44, 45, 46, 47, 48, 49]) ⟨[(0, sp p), (53, sp p), (64, sp p), (75, sp p), (82, sp p), (89, sp p), (48, (pO gr (0 + i * 5))), (49, (pO gr (0 + i * 5))), (50, (pO gr (0 + i * 5))), (51, (pO gr (0 + i * 5))), (52, (pO gr (0 + i * 5))), (57, avS (xO l i).key), (61, avS (xO l i).key), (68, avS (xO l i).product), (72, avS (xO l i).product), (79, avI (xO l i).count), (86, avI (xO l i).ready), (93, avI (xO l i).due), (97, avI (xO l i).due), (5, .v (.slice (some ⟨gr, 0, none⟩) l.length cap)), (62, (iO 4 [avS (xO l i).key, avS (xO l i).key, avS ⟨#[]⟩, avS ⟨#[111, 97]⟩])), (63, avS r63), (73, (iO 4 [avS (xO l i).product, avS (xO l i).product, avS ⟨#[122, 122]⟩, avS ⟨#[]⟩])), (74, avS r74), (87, (iO 3 [avI (xO l i).ready, avI (-1), avI 345686400000]))], [.box gr ⟨rowL l, 89, cap * 5⟩], k + 1 + 4 * q + 1 + 1 + 1 + 1⟩ := by
          intro r63 hr63 r74 hr74
          rw [hF]
          refine VA.all (rs := [32, 50]) (by decide +kernel) (by decide) ?_
          refine ⟨⟨_, rfl, .inl rfl, ?_⟩, ⟨_, rfl, .inl rfl, ?_⟩, trivial⟩
          ·
            refine OpE.buildSlice (zc := #[.int .i64 0, .int .i64 0, .int .i64 0]) rfl hB rfl Tryz.underlying22 Tryz.sizeOf3 Tryz.zeroValue3 (by decide) (by decide) (by kernel_rfl) rfl rfl ?_
            have hh := hS8 r63 hr63 r74 hr74
            rw [hF] at hh
            exact VA.to hh (by decide +kernel) (Le.mk hB [0] ⟨rfl, rfl, rfl, rfl, rfl, rfl, rfl, rfl, rfl, rfl, rfl, rfl, rfl, rfl, rfl, rfl, rfl, rfl, rfl, rfl, rfl, rfl, rfl, rfl, rfl, rfl, trivial⟩ rfl rfl (Nat.le_refl _))
          ·
            refine OpE.buildSlice (zc := #[.int .i64 0, .int .i64 0, .int .i64 0]) rfl hB rfl Tryz.underlying22 Tryz.sizeOf3 Tryz.zeroValue3 (by decide) (by decide) (by kernel_rfl) rfl rfl ?_
            have hh := hS10 r63 hr63 r74 hr74
            rw [hF] at hh
            exact VA.to hh (by decide +kernel) (Le.mk hB [0] ⟨rfl, rfl, rfl, rfl, rfl, rfl, rfl, rfl, rfl, rfl, rfl, rfl, rfl, rfl, rfl, rfl, rfl, rfl, rfl, rfl, rfl, rfl, rfl, rfl, rfl, rfl, trivial⟩ rfl rfl (Nat.le_refl _))
        have hS14 : ∀ (r63 : ByteArray) (hr63 : r63.size ≤ 1000 ∧ r63 ≠ ozK) (r74 : ByteArray) (hr74 : r74.size ≤ 1000), F 20 (lstB 67 [0, 1, 2, 3, 4, 5, 6, 7, 8, 9, 10, 11, 12, 13, 14, 15, 16, 17, 18, 19, 20, 21, 22, 23, 24, 25, 26, 27, 28, 29, 30, 31, 34, 35, 36, 37, 38, 41, 42, 43, 44, 45, 46, 47, 48, 49, 50]) ⟨[(0, sp p), (53, sp p), (64, sp p), (75, sp p), (82, sp p), (89, sp p), (48, (pO gr (0 + i * 5))), (49, (pO gr (0 + i * 5))), (50, (pO gr (0 + i * 5))), (51, (pO gr (0 + i * 5))), (52, (pO gr (0 + i * 5))), (57, avS (xO l i).key), (61, avS (xO l i).key), (68, avS (xO l i).product), (72, avS (xO l i).product), (79, avI (xO l i).count), (86, avI (xO l i).ready), (93, avI (xO l i).due), (97, avI (xO l i).due), (5, .v (.slice (some ⟨gr, 0, none⟩) l.length cap)), (62, (iO 4 [avS (xO l i).key, avS (xO l i).key, avS ⟨#[]⟩, avS ⟨#[111, 97]⟩])), (63, avS r63), (73, (iO 4 [avS (xO l i).product, avS (xO l i).product, avS ⟨#[122, 122]⟩, avS ⟨#[]⟩])), (74, avS r74), (98, (iO 3 [avI (xO l i).due, avI (xO l i).due, avI 345686400000]))], [.box gr ⟨rowL l, 89, cap * 5⟩], k + 1 + 4 * q + 1 + 1 + 1 + 1⟩ := by
          intro r63 hr63 r74 hr74
          rw [hF]
          refine VA.all (rs := [32, 39]) (by decide +kernel) (by decide) ?_
          refine ⟨⟨_, rfl, .inl rfl, ?_⟩, ⟨_, rfl, .inl rfl, ?_⟩, trivial⟩
          ·
            refine OpE.buildSlice (zc := #[.int .i64 0, .int .i64 0, .int .i64 0]) rfl hB rfl Tryz.underlying22 Tryz.sizeOf3 Tryz.zeroValue3 (by decide) (by decide) (by kernel_rfl) rfl rfl ?_
            have hh := hS9 r63 hr63 r74 hr74
            rw [hF] at hh
            exact VA.to hh (by decide +kernel) (Le.mk hB [0] ⟨rfl, rfl, rfl, rfl, rfl, rfl, rfl, rfl, rfl, rfl, rfl, rfl, rfl, rfl, rfl, rfl, rfl, rfl, rfl, rfl, rfl, rfl, rfl, rfl, rfl, rfl, trivial⟩ rfl rfl (Nat.le_refl _))
          ·
            refine OpE.buildSlice (zc := #[.int .i64 0, .int .i64 0, .int .i64 0]) rfl hB rfl Tryz.underlying22 Tryz.sizeOf3 Tryz.zeroValue3 (by decide) (by decide) (by kernel_rfl) rfl rfl ?_
            have hh := hS10 r63 hr63 r74 hr74
            rw [hF] at hh
            exact VA.to hh (by decide +kernel) (Le.mk hB [0] ⟨rfl, rfl, rfl, rfl, rfl, rfl, rfl, rfl, rfl, rfl, rfl, rfl, rfl, rfl, rfl, rfl, rfl, rfl, rfl, rfl, rfl, rfl, rfl, rfl, rfl, rfl, trivial⟩ rfl rfl (Nat.le_refl _))
        have hS15 : ∀ (r63 : ByteArray) (hr63 : r63.size ≤ 1000 ∧ r63 ≠ ozK), F 20 (lstB 67 [0, 1, 2, 3, 4, 5, 6, 7, 8, 9, 10, 11, 12, 13, 14, 15, 16, 17, 18, 19, 20, 21, 22, 23, 24, 25, 27, 28, 29, 30, 31, 32, 34, 35, 36, 37, 38, 39, 41, 42, 43, 44, 45, 46, 47, 48, 49]) ⟨[(0, sp p), (53, sp p), (64, sp p), (75, sp p), (82, sp p), (89, sp p), (48, (pO gr (0 + i * 5))), (49, (pO gr (0 + i * 5))), (50, (pO gr (0 + i * 5))), (51, (pO gr (0 + i * 5))), (52, (pO gr (0 + i * 5))), (57, avS (xO l i).key), (61, avS (xO l i).key), (68, avS (xO l i).product), (72, avS (xO l i).product), (79, avI (xO l i).count), (86, avI (xO l i).ready), (93, avI (xO l i).due), (97, avI (xO l i).due), (5, .v (.slice (some ⟨gr, 0, none⟩) l.length cap)), (62, (iO 4 [avS (xO l i).key, avS (xO l i).key, avS ⟨#[]⟩, avS ⟨#[111, 97]⟩])), (63, avS r63), (73, (iO 4 [avS (xO l i).product, avS (xO l i).product, avS ⟨#[122, 122]⟩, avS ⟨#[]⟩])), (80, (iO 3 [avI (xO l i).count, avI 0, avI 100001])), (87, (iO 3 [avI (xO l i).ready, avI (-1), avI 345686400000]))], [.box gr ⟨rowL l, 89, cap * 5⟩], k + 1 + 4 * q + 1 + 1 + 1⟩ := by
          intro r63 hr63
          rw [hF]
          refine VA.all (rs := [26, 50]) (by decide +kernel) (by decide) ?_
          refine ⟨⟨_, rfl, .inl rfl, ?_⟩, ⟨_, rfl, .inl rfl, ?_⟩, trivial⟩
          ·
            refine OpE.callT' (k + 1 + 4 * q + 1 + 1 + 1) rfl rfl hB rfl Tryz.call16 rfl (some_T 1000 (by rfl) (by decide) (by decide) (AllS.cons (hok.getD i).2.1 (AllS.cons (hok.getD i).2.1 (AllS.cons (by decide) (AllS.cons (by decide) AllS.nil))))) (by omega) ?_
            rintro _ ⟨r74, hr74, rfl⟩
            have hh := hS8 r63 hr63 r74 hr74
            rw [hF] at hh
            exact VA.to hh (by decide +kernel) (Le.mk hB [0] ⟨rfl, rfl, rfl, rfl, rfl, rfl, rfl, rfl, rfl, rfl, rfl, rfl, rfl, rfl, rfl, rfl, rfl, rfl, rfl, rfl, rfl, rfl, rfl, rfl, rfl, rfl, trivial⟩ rfl rfl (Nat.le_refl _))
          ·
            refine OpE.buildSlice (zc := #[.int .i64 0, .int .i64 0, .int .i64 0]) rfl hB rfl Tryz.underlying22 Tryz.sizeOf3 Tryz.zeroValue3 (by decide) (by decide) (by kernel_rfl) rfl rfl ?_
            have hh := hS11 r63 hr63
            rw [hF] at hh
            exact VA.to hh (by decide +kernel) (Le.mk hB [0] ⟨rfl, rfl, rfl, rfl, rfl, rfl, rfl, rfl, rfl, rfl, rfl, rfl, rfl, rfl, rfl, rfl, rfl, rfl, rfl, rfl, rfl, rfl, rfl, rfl, rfl, rfl, trivial⟩ rfl rfl (Nat.le_refl _))
        have hS16 : ∀ (r63 : ByteArray) (hr63 : r63.size ≤ 1000 ∧ r63 ≠ ozK), F 20 (lstB 67 [0, 1, 2, 3, 4, 5, 6, 7, 8, 9, 10, 11, 12, 13, 14, 15, 16, 17, 18, 19, 20, 21, 22, 23, 24, 25, 27, 28, 29, 30, 31, 32, 34, 35, 36, 37, 38, 41, 42, 43, 44, 45, 46, 47, 48, 49, 50]) ⟨[(0, sp p), (53, sp p), (64, sp p), (75, sp p), (82, sp p), (89, sp p), (48, (pO gr (0 + i * 5))), (49, (pO gr (0 + i * 5))), (50, (pO gr (0 + i * 5))), (51, (pO gr (0 + i * 5))), (52, (pO gr (0 + i * 5))), (57, avS (xO l i).key), (61, avS (xO l i).key), (68, avS (xO l i).product), (72, avS (xO l i).product), (79, avI (xO l i).count), (86, avI (xO l i).ready), (93, avI (xO l i).due), (97, avI (xO l i).due), (5, .v (.slice (some ⟨gr, 0, none⟩) l.length cap)), (62, (iO 4 [avS (xO l i).key, avS (xO l i).key, avS ⟨#[]⟩, avS ⟨#[111, 97]⟩])), (63, avS r63), (73, (iO 4 [avS (xO l i).product, avS (xO l i).product, avS ⟨#[122, 122]⟩, avS ⟨#[]⟩])), (80, (iO 3 [avI (xO l i).count, avI 0, avI 100001])), (98, (iO 3 [avI (xO l i).due, avI (xO l i).due, avI 345686400000]))], [.box gr ⟨rowL l, 89, cap * 5⟩], k + 1 + 4 * q + 1 + 1 + 1⟩ := by
          intro r63 hr63
          rw [hF]
          refine VA.all (rs := [26, 39]) (by decide +kernel) (by decide) ?_
          refine ⟨⟨_, rfl, .inl rfl, ?_⟩, ⟨_, rfl, .inl rfl, ?_⟩, trivial⟩
          ·
            refine OpE.callT' (k + 1 + 4 * q + 1 + 1 + 1) rfl rfl hB rfl Tryz.call16 rfl (some_T 1000 (by rfl) (by decide) (by decide) (AllS.cons (hok.getD i).2.1 (AllS.cons (hok.getD i).2.1 (AllS.cons (by decide) (AllS.cons (by decide) AllS.nil))))) (by omega) ?_
            rintro _ ⟨r74, hr74, rfl⟩
            have hh := hS9 r63 hr63 r74 hr74
            rw [hF] at hh
            exact VA.to hh (by decide +kernel) (Le.mk hB [0] ⟨rfl, rfl, rfl, rfl, rfl, rfl, rfl, rfl, rfl, rfl, rfl, rfl, rfl, rfl, rfl, rfl, rfl, rfl, rfl, rfl, rfl, rfl, rfl, rfl, rfl, rfl, trivial⟩ rfl rfl (Nat.le_refl _))
          ·
            refine OpE.buildSlice (zc := #[.int .i64 0, .int .i64 0, .int .i64 0]) rfl hB rfl Tryz.underlying22 Tryz.sizeOf3 Tryz.zeroValue3 (by decide) (by decide) (by kernel_rfl) rfl rfl ?_
            have hh := hS11 r63 hr63
            rw [hF] at hh
            exact VA.to hh (by decide +kernel) (Le.mk hB [0] ⟨rfl, rfl, rfl, rfl, rfl, rfl, rfl, rfl, rfl, rfl, rfl, rfl, rfl, rfl, rfl, rfl, rfl, rfl, rfl, rfl, rfl, rfl, rfl, rfl, rfl, rfl, trivial⟩ rfl rfl (Nat.le_refl _))
        have hS17 : ∀ (r63 : ByteArray) (hr63 : r63.size ≤ 1000 ∧ r63 ≠ ozK), F 20 (lstB 67 [0, 1, 2, 3, 4, 5, 6, 7, 8, 9, 10, 11, 12, 13, 14, 15, 16, 17, 18, 19, 20, 21, 22, 23, 24, 25, 27, 28, 29, 30, 31, 34, 35, 36, 37, 38, 39, 41, 42, 43, 44, 45, 46, 47, 48, 49, 50]) ⟨[(0, sp p), (53, sp p), (64, sp p), (75, sp p), (82, sp p), (89, sp p), (48, (pO gr (0 + i * 5))), (49, (pO gr (0 + i * 5))), (50, (pO gr (0 + i * 5))), (51, (pO gr (0 + i * 5))), (52, (pO gr (0 + i * 5))), (57, avS (xO l i).key), (61, avS (xO l i).key), (68, avS (xO l i).product), (72, avS (xO l i).product), (79, avI (xO l i).count), (86, avI (xO l i).ready), (93, avI (xO l i).due), (97, avI (xO l i).due), (5, .v (.slice (some ⟨gr, 0, none⟩) l.length cap)), (62, (iO 4 [avS (xO l i).key, avS (xO l i).key, avS ⟨#[]⟩, avS ⟨#[111, 97]⟩])), (63, avS r63), (73, (iO 4 [avS (xO l i).product, avS (xO l i).product, avS ⟨#[122, 122]⟩, avS ⟨#[]⟩])), (87, (iO 3 [avI (xO l i).ready, avI (-1), avI 345686400000])), (98, (iO 3 [avI (xO l i).due, avI (xO l i).due, avI 345686400000]))], [.box gr ⟨rowL l, 89, cap * 5⟩], k + 1 + 4 * q + 1 + 1 + 1⟩ := by
          intro r63 hr63
          rw [hF]
          refine VA.all (rs := [26, 32]) (by decide +kernel) (by decide) ?_
          refine ⟨⟨_, rfl, .inl rfl, ?_⟩, ⟨_, rfl, .inl rfl, ?_⟩, trivial⟩
          ·
            refine OpE.callT' (k + 1 + 4 * q + 1 + 1 + 1) rfl rfl hB rfl Tryz.call16 rfl (some_T 1000 (by rfl) (by decide) (by decide) (AllS.cons (hok.getD i).2.1 (AllS.cons (hok.getD i).2.1 (AllS.cons (by decide) (AllS.cons (by decide) AllS.nil))))) (by omega) ?_
            rintro _ ⟨r74, hr74, rfl⟩
            have hh := hS10 r63 hr63 r74 hr74
            rw [hF] at hh
            exact VA.to hh (by decide +kernel) (Le.mk hB [0] ⟨rfl, rfl, rfl, rfl, rfl, rfl, rfl, rfl, rfl, rfl, rfl, rfl, rfl, rfl, rfl, rfl, rfl, rfl, rfl, rfl, rfl, rfl, rfl, rfl, rfl, rfl, trivial⟩ rfl rfl (Nat.le_refl _))
          ·
            refine OpE.buildSlice (zc := #[.int .i64 0, .int .i64 0, .int .i64 0]) rfl hB rfl Tryz.underlying22 Tryz.sizeOf3 Tryz.zeroValue3 (by decide) (by decide) (by kernel_rfl) rfl rfl ?_
            have hh := hS11 r63 hr63
            rw [hF] at hh
            exact VA.to hh (by decide +kernel) (Le.mk hB [0] ⟨rfl, rfl, rfl, rfl, rfl, rfl, rfl, rfl, rfl, rfl, rfl, rfl, rfl, rfl, rfl, rfl, rfl, rfl, rfl, rfl, rfl, rfl, rfl, rfl, rfl, rfl, trivial⟩ rfl rfl (Nat.le_refl _))
        have hS18 : ∀ (r63 : ByteArray) (hr63 : r63.size ≤ 1000 ∧ r63 ≠ ozK), F 20 (lstB 67 [0, 1, 2, 3, 4, 5, 6, 7, 8, 9, 10, 11, 12, 13, 14, 15, 16, 17, 18, 19, 20, 21, 22, 23, 24, 27, 28, 29, 30, 31, 32, 34, 35, 36, 37, 38, 39, 41, 42, 43, 44, 45, 46, 47, 48, 49, 50]) ⟨[(0, sp p), (53, sp p), (64, sp p), (75, sp p), (82, sp p), (89, sp p), (48, (pO gr (0 + i * 5))), (49, (pO gr (0 + i * 5))), (50, (pO gr (0 + i * 5))), (51, (pO gr (0 + i * 5))), (52, (pO gr (0 + i * 5))), (57, avS (xO l i).key), (61, avS (xO l i).key), (68, avS (xO l i).product), (72, avS (xO l i).product), (79, avI (xO l i).count), (86, avI (xO l i).ready), (93, avI (xO l i).due), (97, avI (xO l i).due), (5, .v (.slice (some ⟨gr, 0, none⟩) l.length cap)), (62, (iO 4 [avS (xO l i).key, avS (xO l i).key, avS ⟨#[]⟩, avS ⟨#[111, 97]⟩])), (63, avS r63), (80, (iO 3 [avI (xO l i).count, avI 0, avI 100001])), (87, (iO 3 [avI (xO l i).ready, avI (-1), avI 345686400000])), (98, (iO 3 [avI (xO l i).due, avI (xO l i).due, avI 345686400000]))], [.box gr ⟨rowL l, 89, cap * 5⟩], k + 1 + 4 * q + 1 + 1 + 1⟩ := by
          intro r63 hr63
          rw [hF]
          refine VA.all (rs := [25]) (by decide +kernel) (by decide) ?_
          refine ⟨⟨_, rfl, .inl rfl, ?_⟩, trivial⟩
          refine OpE.buildSlice (zc := #[.string ⟨#[]⟩, .string ⟨#[]⟩, .string ⟨#[]⟩, .string ⟨#[]⟩]) rfl hB rfl Tryz.underlying67 Tryz.sizeOf9 Tryz.zeroValue9 (by decide) (by decide) (by kernel_rfl) rfl rfl ?_
          have hh := hS11 r63 hr63
          rw [hF] at hh
          exact VA.to hh (by decide +kernel) (Le.mk hB [0] ⟨rfl, rfl, rfl, rfl, rfl, rfl, rfl, rfl, rfl, rfl, rfl, rfl, rfl, rfl, rfl, rfl, rfl, rfl, rfl, rfl, rfl, rfl, rfl, rfl, rfl, rfl, trivial⟩ rfl rfl (Nat.le_refl _))
        have hS19 : F 20 (lstB 67 [0, 1, 2, 3, 4, 5, 6, 7, 8, 9, 10, 11, 12, 13, 14, 16, 17, 18, 19, 20, 21, 22, 23, 24, 25, 27, 28, 29, 30, 31, 32, 34, 35, 36, 37, 38, 39, 41, 42, 43, 44, 45, 46, 47, 48, 49, 50]) ⟨[(0, sp p), (53, sp p), (64, sp p), (75, sp p), (82, sp p), (89, sp p), (48, (pO gr (0 + i * 5))), (49, (pO gr (0 + i * 5))), (50, (pO gr (0 + i * 5))), (51, (pO gr (0 + i * 5))), (52, (pO gr (0 + i * 5))), (57, avS (xO l i).key), (61, avS (xO l i).key), (68, avS (xO l i).product), (72, avS (xO l i).product), (79, avI (xO l i).count), (86, avI (xO l i).ready), (93, avI (xO l i).due), (97, avI (xO l i).due), (5, .v (.slice (some ⟨gr, 0, none⟩) l.length cap)), (62, (iO 4 [avS (xO l i).key, avS (xO l i).key, avS ⟨#[]⟩, avS ⟨#[111, 97]⟩])), (73, (iO 4 [avS (xO l i).product, avS (xO l i).product, avS ⟨#[122, 122]⟩, avS ⟨#[]⟩])), (80, (iO 3 [avI (xO l i).count, avI 0, avI 100001])), (87, (iO 3 [avI (xO l i).ready, avI (-1), avI 345686400000])), (98, (iO 3 [avI (xO l i).due, avI (xO l i).due, avI 345686400000]))], [.box gr ⟨rowL l, 89, cap * 5⟩], k + 1 + 4 * q + 1 + 1⟩ := by
          rw [hF]
          refine VA.all (rs := [15]) (by decide +kernel) (by decide) ?_
          refine ⟨⟨_, rfl, .inl rfl, ?_⟩, trivial⟩
          refine OpE.callT' (k + 1 + 4 * q + 1 + 1) rfl rfl hB rfl Tryz.call16 rfl (some_Q (by rfl) (by decide) (by decide) (AllQ.cons ⟨(hok.getD i).1, (hok.getD i).2.2⟩ (AllQ.cons ⟨(hok.getD i).1, (hok.getD i).2.2⟩ (AllQ.cons (by decide) (AllQ.cons (by decide) AllQ.nil))))) (by omega) ?_
          rintro _ ⟨r63, hr63, rfl⟩
          have hh := hS11 r63 hr63
          rw [hF] at hh
          exact VA.to hh (by decide +kernel) (Le.mk hB [0] ⟨rfl, rfl, rfl, rfl, rfl, rfl, rfl, rfl, rfl, rfl, rfl, rfl, rfl, rfl, rfl, rfl, rfl, rfl, rfl, rfl, rfl, rfl, rfl, rfl, rfl, rfl, trivial⟩ rfl rfl (Nat.le_refl _))
        have hS20 : ∀ (r63 : ByteArray) (hr63 : r63.size ≤ 1000 ∧ r63 ≠ ozK) (r74 : ByteArray) (hr74 : r74.size ≤ 1000), F 21 (lstB 67 [0, 1, 2, 3, 4, 5, 6, 7, 8, 9, 10, 11, 12, 13, 14, 15, 16, 17, 18, 19, 20, 21, 22, 23, 24, 25, 26, 27, 28, 29, 30, 31, 34, 35, 36, 37, 38, 41, 42, 43, 44, 45, 46, 47, 48, 49]) ⟨[(0, sp p), (53, sp p), (64, sp p), (75, sp p), (82, sp p), (89, sp p), (48, (pO gr (0 + i * 5))), (49, (pO gr (0 + i * 5))), (50, (pO gr (0 + i * 5))), (51, (pO gr (0 + i * 5))), (52, (pO gr (0 + i * 5))), (57, avS (xO l i).key), (61, avS (xO l i).key), (68, avS (xO l i).product), (72, avS (xO l i).product), (79, avI (xO l i).count), (86, avI (xO l i).ready), (93, avI (xO l i).due), (97, avI (xO l i).due), (5, .v (.slice (some ⟨gr, 0, none⟩) l.length cap)), (62, (iO 4 [avS (xO l i).key, avS (xO l i).key, avS ⟨#[]⟩, avS ⟨#[111, 97]⟩])), (63, avS r63), (73, (iO 4 [avS (xO l i).product, avS (xO l i).product, avS ⟨#[122, 122]⟩, avS ⟨#[]⟩])), (74, avS r74)], [.box gr ⟨rowL l, 89, cap * 5⟩], k + 1 + 4 * q + 1 + 1 + 1 + 1⟩ := by
          intro r63 hr63 r74 hr74
          rw [hF]
          refine VA.all (rs := [32, 39, 50]) (by decide +kernel) (by decide) ?_
          refine ⟨⟨_, rfl, .inl rfl, ?_⟩, ⟨_, rfl, .inl rfl, ?_⟩, ⟨_, rfl, .inl rfl, ?_⟩, trivial⟩
          ·
            refine OpE.buildSlice (zc := #[.int .i64 0, .int .i64 0, .int .i64 0]) rfl hB rfl Tryz.underlying22 Tryz.sizeOf3 Tryz.zeroValue3 (by decide) (by decide) (by kernel_rfl) rfl rfl ?_
            have hh := hS12 r63 hr63 r74 hr74
            rw [hF] at hh
            exact VA.to hh (by decide +kernel) (Le.mk hB [0] ⟨rfl, rfl, rfl, rfl, rfl, rfl, rfl, rfl, rfl, rfl, rfl, rfl, rfl, rfl, rfl, rfl, rfl, rfl, rfl, rfl, rfl, rfl, rfl, rfl, rfl, trivial⟩ rfl rfl (Nat.le_refl _))
          ·
            refine OpE.buildSlice (zc := #[.int .i64 0, .int .i64 0, .int .i64 0]) rfl hB rfl Tryz.underlying22 Tryz.sizeOf3 Tryz.zeroValue3 (by decide) (by decide) (by kernel_rfl) rfl rfl ?_
            have hh := hS13 r63 hr63 r74 hr74
            rw [hF] at hh
            exact VA.to hh (by decide +kernel) (Le.mk hB [0] ⟨rfl, rfl, rfl, rfl, rfl, rfl, rfl, rfl, rfl, rfl, rfl, rfl, rfl, rfl, rfl, rfl, rfl, rfl, rfl, rfl, rfl, rfl, rfl, rfl, rfl, trivial⟩ rfl rfl (Nat.le_refl _))
          ·
            refine OpE.buildSlice (zc := #[.int .i64 0, .int .i64 0, .int .i64 0]) rfl hB rfl Tryz.underlying22 Tryz.sizeOf3 Tryz.zeroValue3 (by decide) (by decide) (by kernel_rfl) rfl rfl ?_
            have hh := hS14 r63 hr63 r74 hr74
            rw [hF] at hh
            exact VA.to hh (by decide +kernel) (Le.mk hB [0] ⟨rfl, rfl, rfl, rfl, rfl, rfl, rfl, rfl, rfl, rfl, rfl, rfl, rfl, rfl, rfl, rfl, rfl, rfl, rfl, rfl, rfl, rfl, rfl, rfl, rfl, trivial⟩ rfl rfl (Nat.le_refl _))
        have hS21 : ∀ (r63 : ByteArray) (hr63 : r63.size ≤ 1000 ∧ r63 ≠ ozK), F 21 (lstB 67 [0, 1, 2, 3, 4, 5, 6, 7, 8, 9, 10, 11, 12, 13, 14, 15, 16, 17, 18, 19, 20, 21, 22, 23, 24, 25, 27, 28, 29, 30, 31, 32, 34, 35, 36, 37, 38, 41, 42, 43, 44, 45, 46, 47, 48, 49]) ⟨[(0, sp p), (53, sp p), (64, sp p), (75, sp p), (82, sp p), (89, sp p), (48, (pO gr (0 + i * 5))), (49, (pO gr (0 + i * 5))), (50, (pO gr (0 + i * 5))), (51, (pO gr (0 + i * 5))), (52, (pO gr (0 + i * 5))), (57, avS (xO l i).key), (61, avS (xO l i).key), (68, avS (xO l i).product), (72, avS (xO l i).product), (79, avI (xO l i).count), (86, avI (xO l i).ready), (93, avI (xO l i).due), (97, avI (xO l i).due), (5, .v (.slice (some ⟨gr, 0, none⟩) l.length cap)), (62, (iO 4 [avS (xO l i).key, avS (xO l i).key, avS ⟨#[]⟩, avS ⟨#[111, 97]⟩])), (63, avS r63), (73, (iO 4 [avS (xO l i).product, avS (xO l i).product, avS ⟨#[122, 122]⟩, avS ⟨#[]⟩])), (80, (iO 3 [avI (xO l i).count, avI 0, avI 100001]))], [.box gr ⟨rowL l, 89, cap * 5⟩], k + 1 + 4 * q + 1 + 1 + 1⟩ := by
          intro r63 hr63
          rw [hF]
          refine VA.all (rs := [26, 39, 50]) (by decide +kernel) (by decide) ?_
          refine ⟨⟨_, rfl, .inl rfl, ?_⟩, ⟨_, rfl, .inl rfl, ?_⟩, ⟨_, rfl, .inl rfl, ?_⟩, trivial⟩
          ·
            refine OpE.callT' (k + 1 + 4 * q + 1 + 1 + 1) rfl rfl hB rfl Tryz.call16 rfl (some_T 1000 (by rfl) (by decide) (by decide) (AllS.cons (hok.getD i).2.1 (AllS.cons (hok.getD i).2.1 (AllS.cons (by decide) (AllS.cons (by decide) AllS.nil))))) (by omega) ?_
            rintro _ ⟨r74, hr74, rfl⟩
            have hh := hS12 r63 hr63 r74 hr74
            rw [hF] at hh
            exact VA.to hh (by decide +kernel) (Le.mk hB [0] ⟨rfl, rfl, rfl, rfl, rfl, rfl, rfl, rfl, rfl, rfl, rfl, rfl, rfl, rfl, rfl, rfl, rfl, rfl, rfl, rfl, rfl, rfl, rfl, rfl, rfl, trivial⟩ rfl rfl (Nat.le_refl _))
          ·
            refine OpE.buildSlice (zc := #[.int .i64 0, .int .i64 0, .int .i64 0]) rfl hB rfl Tryz.underlying22 Tryz.sizeOf3 Tryz.zeroValue3 (by decide) (by decide) (by kernel_rfl) rfl rfl ?_
            have hh := hS15 r63 hr63
            rw [hF] at hh
            exact VA.to hh (by decide +kernel) (Le.mk hB [0] ⟨rfl, rfl, rfl, rfl, rfl, rfl, rfl, rfl, rfl, rfl, rfl, rfl, rfl, rfl, rfl, rfl, rfl, rfl, rfl, rfl, rfl, rfl, rfl, rfl, rfl, trivial⟩ rfl rfl (Nat.le_refl _))
          ·
            refine OpE.buildSlice (zc := #[.int .i64 0, .int .i64 0, .int .i64 0]) rfl hB rfl Tryz.underlying22 Tryz.sizeOf3 Tryz.zeroValue3 (by decide) (by decide) (by kernel_rfl) rfl rfl ?_
            have hh := hS16 r63 hr63
            rw [hF] at hh
            exact VA.to hh (by decide +kernel) (Le.mk hB [0] ⟨rfl, rfl, rfl, rfl, rfl, rfl, rfl, rfl, rfl, rfl, rfl, rfl, rfl, rfl, rfl, rfl, rfl, rfl, rfl, rfl, rfl, rfl, rfl, rfl, rfl, trivial⟩ rfl rfl (Nat.le_refl _))
        have hS22 : ∀ (r63 : ByteArray) (hr63 : r63.size ≤ 1000 ∧ r63 ≠ ozK), F 21 (lstB 67 [0, 1, 2, 3, 4, 5, 6, 7, 8, 9, 10, 11, 12, 13, 14, 15, 16, 17, 18, 19, 20, 21, 22, 23, 24, 25, 27, 28, 29, 30, 31, 34, 35, 36, 37, 38, 39, 41, 42, 43, 44, 45, 46, 47, 48, 49]) ⟨[(0, sp p), (53, sp p), (64, sp p), (75, sp p), (82, sp p), (89, sp p), (48, (pO gr (0 + i * 5))), (49, (pO gr (0 + i * 5))), (50, (pO gr (0 + i * 5))), (51, (pO gr (0 + i * 5))), (52, (pO gr (0 + i * 5))), (57, avS (xO l i).key), (61, avS (xO l i).key), (68, avS (xO l i).product), (72, avS (xO l i).product), (79, avI (xO l i).count), (86, avI (xO l i).ready), (93, avI (xO l i).due), (97, avI (xO l i).due), (5, .v (.slice (some ⟨gr, 0, none⟩) l.length cap)), (62, (iO 4 [avS (xO l i).key, avS (xO l i).key, avS ⟨#[]⟩, avS ⟨#[111, 97]⟩])), (63, avS r63), (73, (iO 4 [avS (xO l i).product, avS (xO l i).product, avS ⟨#[122, 122]⟩, avS ⟨#[]⟩])), (87, (iO 3 [avI (xO l i).ready, avI (-1), avI 345686400000]))], [.box gr ⟨rowL l, 89, cap * 5⟩], k + 1 + 4 * q + 1 + 1 + 1⟩ := by
          intro r63 hr63
          rw [hF]
          refine VA.all (rs := [26, 32, 50]) (by decide +kernel) (by decide) ?_
          refine ⟨⟨_, rfl, .inl rfl, ?_⟩, ⟨_, rfl, .inl rfl, ?_⟩, ⟨_, rfl, .inl rfl, ?_⟩, trivial⟩
          ·
            refine OpE.callT' (k + 1 + 4 * q + 1 + 1 + 1) rfl rfl hB rfl Tryz.call16 rfl (some_T 1000 (by rfl) (by decide) (by decide) (AllS.cons (hok.getD i).2.1 (AllS.cons (hok.getD i).2.1 (AllS.cons (by decide) (AllS.cons (by decide) AllS.nil))))) (by omega) ?_
            rintro _ ⟨r74, hr74, rfl⟩
            have hh := hS13 r63 hr63 r74 hr74
            rw [hF] at hh
            exact VA.to hh (by decide +kernel) (Le.mk hB [0] ⟨rfl, rfl, rfl, rfl, rfl, rfl, rfl, rfl, rfl, rfl, rfl, rfl, rfl, rfl, rfl, rfl, rfl, rfl, rfl, rfl, rfl, rfl, rfl, rfl, rfl, trivial⟩ rfl rfl (Nat.le_refl _))
          ·
            refine OpE.buildSlice (zc := #[.int .i64 0, .int .i64 0, .int .i64 0]) rfl hB rfl Tryz.underlying22 Tryz.sizeOf3 Tryz.zeroValue3 (by decide) (by decide) (by kernel_rfl) rfl rfl ?_
            have hh := hS15 r63 hr63
            rw [hF] at hh
            exact VA.to hh (by decide +kernel) (Le.mk hB [0] ⟨rfl, rfl, rfl, rfl, rfl, rfl, rfl, rfl, rfl, rfl, rfl, rfl, rfl, rfl, rfl, rfl, rfl, rfl, rfl, rfl, rfl, rfl, rfl, rfl, rfl, trivial⟩ rfl rfl (Nat.le_refl _))
          ·
            refine OpE.buildSlice (zc := #[.int .i64 0, .int .i64 0, .int .i64 0]) rfl hB rfl Tryz.underlying22 Tryz.sizeOf3 Tryz.zeroValue3 (by decide) (by decide) (by kernel_rfl) rfl rfl ?_
            have hh := hS17 r63 hr63
            rw [hF] at hh
            exact VA.to hh (by decide +kernel) (Le.mk hB [0] ⟨rfl, rfl, rfl, rfl, rfl, rfl, rfl, rfl, rfl, rfl, rfl, rfl, rfl, rfl, rfl, rfl, rfl, rfl, rfl, rfl, rfl, rfl, rfl, rfl, rfl, trivial⟩ rfl rfl (Nat.le_refl _))
        have hS23 : ∀ (r63 : ByteArray) (hr63 : r63.size ≤ 1000 ∧ r63 ≠ ozK), F 21 (lstB 67 [0, 1, 2, 3, 4, 5, 6, 7, 8, 9, 10, 11, 12, 13, 14, 15, 16, 17, 18, 19, 20, 21, 22, 23, 24, 25, 27, 28, 29, 30, 31, 34, 35, 36, 37, 38, 41, 42, 43, 44, 45, 46, 47, 48, 49, 50]) ⟨[(0, sp p), (53, sp p), (64, sp p), (75, sp p), (82, sp p), (89, sp p), (48, (pO gr (0 + i * 5))), (49, (pO gr (0 + i * 5))), (50, (pO gr (0 + i * 5))), (51, (pO gr (0 + i * 5))), (52, (pO gr (0 + i * 5))), (57, avS (xO l i).key), (61, avS (xO l i).key), (68, avS (xO l i).product), (72, avS (xO l i).product), (79, avI (xO l i).count), (86, avI (xO l i).ready), (93, avI (xO l i).due), (97, avI (xO l i).due), (5, .v (.slice (some ⟨gr, 0, none⟩) l.length cap)), (62, (iO 4 [avS (xO l i).key, avS (xO l i).key, avS ⟨#[]⟩, avS ⟨#[111, 97]⟩])), (63, avS r63), (73, (iO 4 [avS (xO l i).product, avS (xO l i).product, avS ⟨#[122, 122]⟩, avS ⟨#[]⟩])), (98, (iO 3 [avI (xO l i).due, avI (xO l i).due, avI 345686400000]))], [.box gr ⟨rowL l, 89, cap * 5⟩], k + 1 + 4 * q + 1 + 1 + 1⟩ := by
          intro r63 hr63
          rw [hF]
          refine VA.all (rs := [26, 32, 39]) (by decide +kernel) (by decide) ?_
          refine ⟨⟨_, rfl, .inl rfl, ?_⟩, ⟨_, rfl, .inl rfl, ?_⟩, ⟨_, rfl, .inl rfl, ?_⟩, trivial⟩
          ·
            refine OpE.callT' (k + 1 + 4 * q + 1 + 1 + 1) rfl rfl hB rfl Tryz.call16 rfl (some_T 1000 (by rfl) (by decide) (by decide) (AllS.cons (hok.getD i).2.1 (AllS.cons (hok.getD i).2.1 (AllS.cons (by decide) (AllS.cons (by decide) AllS.nil))))) (by omega) ?_
            rintro _ ⟨r74, hr74, rfl⟩
            have hh := hS14 r63 hr63 r74 hr74
            rw [hF] at hh
            exact VA.to hh (by decide +kernel) (Le.mk hB [0] ⟨rfl, rfl, rfl, rfl, rfl, rfl, rfl, rfl, rfl, rfl, rfl, rfl, rfl, rfl, rfl, rfl, rfl, rfl, rfl, rfl, rfl, rfl, rfl, rfl, rfl, trivial⟩ rfl rfl (Nat.le_refl _))
          ·
            refine OpE.buildSlice (zc := #[.int .i64 0, .int .i64 0, .int .i64 0]) rfl hB rfl Tryz.underlying22 Tryz.sizeOf3 Tryz.zeroValue3 (by decide) (by decide) (by kernel_rfl) rfl rfl ?_
            have hh := hS16 r63 hr63
            rw [hF] at hh
            exact VA.to hh (by decide +kernel) (Le.mk hB [0] ⟨rfl, rfl, rfl, rfl, rfl, rfl, rfl, rfl, rfl, rfl, rfl, rfl, rfl, rfl, rfl, rfl, rfl, rfl, rfl, rfl, rfl, rfl, rfl, rfl, rfl, trivial⟩ rfl rfl (Nat.le_refl _))
          ·
            refine OpE.buildSlice (zc := #[.int .i64 0, .int .i64 0, .int .i64 0]) rfl hB rfl Tryz.underlying22 Tryz.sizeOf3 Tryz.zeroValue3 (by decide) (by decide) (by kernel_rfl) rfl rfl ?_
            have hh := hS17 r63 hr63
            rw [hF] at hh
            exact VA.to hh (by decide +kernel) (Le.mk hB [0] ⟨rfl, rfl, rfl, rfl, rfl, rfl, rfl, rfl, rfl, rfl, rfl, rfl, rfl, rfl, rfl, rfl, rfl, rfl, rfl, rfl, rfl, rfl, rfl, rfl, rfl, trivial⟩ rfl rfl (Nat.le_refl _))
        have hS24 : ∀ (r63 : ByteArray) (hr63 : r63.size ≤ 1000 ∧ r63 ≠ ozK), F 21 (lstB 67 [0, 1, 2, 3, 4, 5, 6, 7, 8, 9, 10, 11, 12, 13, 14, 15, 16, 17, 18, 19, 20, 21, 22, 23, 24, 27, 28, 29, 30, 31, 32, 34, 35, 36, 37, 38, 39, 41, 42, 43, 44, 45, 46, 47, 48, 49]) ⟨[(0, sp p), (53, sp p), (64, sp p), (75, sp p), (82, sp p), (89, sp p), (48, (pO gr (0 + i * 5))), (49, (pO gr (0 + i * 5))), (50, (pO gr (0 + i * 5))), (51, (pO gr (0 + i * 5))), (52, (pO gr (0 + i * 5))), (57, avS (xO l i).key), (61, avS (xO l i).key), (68, avS (xO l i).product), (72, avS (xO l i).product), (79, avI (xO l i).count), (86, avI (xO l i).ready), (93, avI (xO l i).due), (97, avI (xO l i).due), (5, .v (.slice (some ⟨gr, 0, none⟩) l.length cap)), (62, (iO 4 [avS (xO l i).key, avS (xO l i).key, avS ⟨#[]⟩, avS ⟨#[111, 97]⟩])), (63, avS r63), (80, (iO 3 [avI (xO l i).count, avI 0, avI 100001])), (87, (iO 3 [avI (xO l i).ready, avI (-1), avI 345686400000]))], [.box gr ⟨rowL l, 89, cap * 5⟩], k + 1 + 4 * q + 1 + 1 + 1⟩ := by
          intro r63 hr63
          rw [hF]
          refine VA.all (rs := [25, 50]) (by decide +kernel) (by decide) ?_
          refine ⟨⟨_, rfl, .inl rfl, ?_⟩, ⟨_, rfl, .inl rfl, ?_⟩, trivial⟩
          ·
            refine OpE.buildSlice (zc := #[.string ⟨#[]⟩, .string ⟨#[]⟩, .string ⟨#[]⟩, .string ⟨#[]⟩]) rfl hB rfl Tryz.underlying67 Tryz.sizeOf9 Tryz.zeroValue9 (by decide) (by decide) (by kernel_rfl) rfl rfl ?_
            have hh := hS15 r63 hr63
            rw [hF] at hh
            exact VA.to hh (by decide +kernel) (Le.mk hB [0] ⟨rfl, rfl, rfl, rfl, rfl, rfl, rfl, rfl, rfl, rfl, rfl, rfl, rfl, rfl, rfl, rfl, rfl, rfl, rfl, rfl, rfl, rfl, rfl, rfl, rfl, trivial⟩ rfl rfl (Nat.le_refl _))
          ·
            refine OpE.buildSlice (zc := #[.int .i64 0, .int .i64 0, .int .i64 0]) rfl hB rfl Tryz.underlying22 Tryz.sizeOf3 Tryz.zeroValue3 (by decide) (by decide) (by kernel_rfl) rfl rfl ?_
            have hh := hS18 r63 hr63
            rw [hF] at hh
            exact VA.to hh (by decide +kernel) (Le.mk hB [0] ⟨rfl, rfl, rfl, rfl, rfl, rfl, rfl, rfl, rfl, rfl, rfl, rfl, rfl, rfl, rfl, rfl, rfl, rfl, rfl, rfl, rfl, rfl, rfl, rfl, rfl, trivial⟩ rfl rfl (Nat.le_refl _))
        have hS25 : ∀ (r63 : ByteArray) (hr63 : r63.size ≤ 1000 ∧ r63 ≠ ozK), F 21 (lstB 67 [0, 1, 2, 3, 4, 5, 6, 7, 8, 9, 10, 11, 12, 13, 14, 15, 16, 17, 18, 19, 20, 21, 22, 23, 24, 27, 28, 29, 30, 31, 32, 34, 35, 36, 37, 38, 41, 42, 43, 44, 45, 46, 47, 48, 49, 50]) ⟨[(0, sp p), (53, sp p), (64, sp p), (75, sp p), (82, sp p), (89, sp p), (48, (pO gr (0 + i * 5))), (49, (pO gr (0 + i * 5))), (50, (pO gr (0 + i * 5))), (51, (pO gr (0 + i * 5))), (52, (pO gr (0 + i * 5))), (57, avS (xO l i).key), (61, avS (xO l i).key), (68, avS (xO l i).product), (72, avS (xO l i).product), (79, avI (xO l i).count), (86, avI (xO l i).ready), (93, avI (xO l i).due), (97, avI (xO l i).due), (5, .v (.slice (some ⟨gr, 0, none⟩) l.length cap)), (62, (iO 4 [avS (xO l i).key, avS (xO l i).key, avS ⟨#[]⟩, avS ⟨#[111, 97]⟩])), (63, avS r63), (80, (iO 3 [avI (xO l i).count, avI 0, avI 100001])), (98, (iO 3 [avI (xO l i).due, avI (xO l i).due, avI 345686400000]))], [.box gr ⟨rowL l, 89, cap * 5⟩], k + 1 + 4 * q + 1 + 1 + 1⟩ := by
          intro r63 hr63
          rw [hF]
          refine VA.all (rs := [25, 39]) (by decide +kernel) (by decide) ?_
          refine ⟨⟨_, rfl, .inl rfl, ?_⟩, ⟨_, rfl, .inl rfl, ?_⟩, trivial⟩
          ·
            refine OpE.buildSlice (zc := #[.string ⟨#[]⟩, .string ⟨#[]⟩, .string ⟨#[]⟩, .string ⟨#[]⟩]) rfl hB rfl Tryz.underlying67 Tryz.sizeOf9 Tryz.zeroValue9 (by decide) (by decide) (by kernel_rfl) rfl rfl ?_
            have hh := hS16 r63 hr63
            rw [hF] at hh
            exact VA.to hh (by decide +kernel) (Le.mk hB [0] ⟨rfl, rfl, rfl, rfl, rfl, rfl, rfl, rfl, rfl, rfl, rfl, rfl, rfl, rfl, rfl, rfl, rfl, rfl, rfl, rfl, rfl, rfl, rfl, rfl, rfl, trivial⟩ rfl rfl (Nat.le_refl _))
          ·
            refine OpE.buildSlice (zc := #[.int .i64 0, .int .i64 0, .int .i64 0]) rfl hB rfl Tryz.underlying22 Tryz.sizeOf3 Tryz.zeroValue3 (by decide) (by decide) (by kernel_rfl) rfl rfl ?_
            have hh := hS18 r63 hr63
            rw [hF] at hh
            exact VA.to hh (by decide +kernel) (Le.mk hB [0] ⟨rfl, rfl, rfl, rfl, rfl, rfl, rfl, rfl, rfl, rfl, rfl, rfl, rfl, rfl, rfl, rfl, rfl, rfl, rfl, rfl, rfl, rfl, rfl, rfl, rfl, trivial⟩ rfl rfl (Nat.le_refl _))
        have hS26 : ∀ (r63 : ByteArray) (hr63 : r63.size ≤ 1000 ∧ r63 ≠ ozK), F 21 (lstB 67 [0, 1, 2, 3, 4, 5, 6, 7, 8, 9, 10, 11, 12, 13, 14, 15, 16, 17, 18, 19, 20, 21, 22, 23, 24, 27, 28, 29, 30, 31, 34, 35, 36, 37, 38, 39, 41, 42, 43, 44, 45, 46, 47, 48, 49, 50]) ⟨[(0, sp p), (53, sp p), (64, sp p), (75, sp p), (82, sp p), (89, sp p), (48, (pO gr (0 + i * 5))), (49, (pO gr (0 + i * 5))), (50, (pO gr (0 + i * 5))), (51, (pO gr (0 + i * 5))), (52, (pO gr (0 + i * 5))), (57, avS (xO l i).key), (61, avS (xO l i).key), (68, avS (xO l i).product), (72, avS (xO l i).product), (79, avI (xO l i).count), (86, avI (xO l i).ready), (93, avI (xO l i).due), (97, avI (xO l i).due), (5, .v (.slice (some ⟨gr, 0, none⟩) l.length cap)), (62, (iO 4 [avS (xO l i).key, avS (xO l i).key, avS ⟨#[]⟩, avS ⟨#[111, 97]⟩])), (63, avS r63), (87, (iO 3 [avI (xO l i).ready, avI (-1), avI 345686400000])), (98, (iO 3 [avI (xO l i).due, avI (xO l i).due, avI 345686400000]))], [.box gr ⟨rowL l, 89, cap * 5⟩], k + 1 + 4 * q + 1 + 1 + 1⟩ := by
          intro r63 hr63
          rw [hF]
          refine VA.all (rs := [25, 32]) (by decide +kernel) (by decide) ?_
          refine ⟨⟨_, rfl, .inl rfl, ?_⟩, ⟨_, rfl, .inl rfl, ?_⟩, trivial⟩
          ·
            refine OpE.buildSlice (zc := #[.string ⟨#[]⟩, .string ⟨#[]⟩, .string ⟨#[]⟩, .string ⟨#[]⟩]) rfl hB rfl Tryz.underlying67 Tryz.sizeOf9 Tryz.zeroValue9 (by decide) (by decide) (by kernel_rfl) rfl rfl ?_
            have hh := hS17 r63 hr63
            rw [hF] at hh
            exact VA.to hh (by decide +kernel) (Le.mk hB [0] ⟨rfl, rfl, rfl, rfl, rfl, rfl, rfl, rfl, rfl, rfl, rfl, rfl, rfl, rfl, rfl, rfl, rfl, rfl, rfl, rfl, rfl, rfl, rfl, rfl, rfl, trivial⟩ rfl rfl (Nat.le_refl _))
          ·
            refine OpE.buildSlice (zc := #[.int .i64 0, .int .i64 0, .int .i64 0]) rfl hB rfl Tryz.underlying22 Tryz.sizeOf3 Tryz.zeroValue3 (by decide) (by decide) (by kernel_rfl) rfl rfl ?_
            have hh := hS18 r63 hr63
            rw [hF] at hh
            exact VA.to hh (by decide +kernel) (Le.mk hB [0] ⟨rfl, rfl, rfl, rfl, rfl, rfl, rfl, rfl, rfl, rfl, rfl, rfl, rfl, rfl, rfl, rfl, rfl, rfl, rfl, rfl, rfl, rfl, rfl, rfl, rfl, trivial⟩ rfl rfl (Nat.le_refl _))
        have hS27 : F 21 (lstB 67 [0, 1, 2, 3, 4, 5, 6, 7, 8, 9, 10, 11, 12, 13, 14, 16, 17, 18, 19, 20, 21, 22, 23, 24, 25, 27, 28, 29, 30, 31, 32, 34, 35, 36, 37, 38, 39, 41, 42, 43, 44, 45, 46, 47, 48, 49]) ⟨[(0, sp p), (53, sp p), (64, sp p), (75, sp p), (82, sp p), (89, sp p), (48, (pO gr (0 + i * 5))), (49, (pO gr (0 + i * 5))), (50, (pO gr (0 + i * 5))), (51, (pO gr (0 + i * 5))), (52, (pO gr (0 + i * 5))), (57, avS (xO l i).key), (61, avS (xO l i).key), (68, avS (xO l i).product), (72, avS (xO l i).product), (79, avI (xO l i).count), (86, avI (xO l i).ready), (93, avI (xO l i).due), (97, avI (xO l i).due), (5, .v (.slice (some ⟨gr, 0, none⟩) l.length cap)), (62, (iO 4 [avS (xO l i).key, avS (xO l i).key, avS ⟨#[]⟩, avS ⟨#[111, 97]⟩])), (73, (iO 4 [avS (xO l i).product, avS (xO l i).product, avS ⟨#[122, 122]⟩, avS ⟨#[]⟩])), (80, (iO 3 [avI (xO l i).count, avI 0, avI 100001])), (87, (iO 3 [avI (xO l i).ready, avI (-1), avI 345686400000]))], [.box gr ⟨rowL l, 89, cap * 5⟩], k + 1 + 4 * q + 1 + 1⟩ := by
          rw [hF]
          refine VA.all (rs := [15, 50]) (by decide +kernel) (by decide) ?_
          refine ⟨⟨_, rfl, .inl rfl, ?_⟩, ⟨_, rfl, .inl rfl, ?_⟩, trivial⟩
          ·
            refine OpE.callT' (k + 1 + 4 * q + 1 + 1) rfl rfl hB rfl Tryz.call16 rfl (some_Q (by rfl) (by decide) (by decide) (AllQ.cons ⟨(hok.getD i).1, (hok.getD i).2.2⟩ (AllQ.cons ⟨(hok.getD i).1, (hok.getD i).2.2⟩ (AllQ.cons (by decide) (AllQ.cons (by decide) AllQ.nil))))) (by omega) ?_
            rintro _ ⟨r63, hr63, rfl⟩
            have hh := hS15 r63 hr63
            rw [hF] at hh
            exact VA.to hh (by decide +kernel) (Le.mk hB [0] ⟨rfl, rfl, rfl, rfl, rfl, rfl, rfl, rfl, rfl, rfl, rfl, rfl, rfl, rfl, rfl, rfl, rfl, rfl, rfl, rfl, rfl, rfl, rfl, rfl, rfl, trivial⟩ rfl rfl (Nat.le_refl _))
          ·
            refine OpE.buildSlice (zc := #[.int .i64 0, .int .i64 0, .int .i64 0]) rfl hB rfl Tryz.underlying22 Tryz.sizeOf3 Tryz.zeroValue3 (by decide) (by decide) (by kernel_rfl) rfl rfl ?_
            have hh := hS19 
            rw [hF] at hh
            exact VA.to hh (by decide +kernel) (Le.mk hB [0] ⟨rfl, rfl, rfl, rfl, rfl, rfl, rfl, rfl, rfl, rfl, rfl, rfl, rfl, rfl, rfl, rfl, rfl, rfl, rfl, rfl, rfl, rfl, rfl, rfl, rfl, trivial⟩ rfl rfl (Nat.le_refl _))
        have hS28 : F 21 (lstB 67 [0, 1, 2, 3, 4, 5, 6, 7, 8, 9, 10, 11, 12, 13, 14, 16, 17, 18, 19, 20, 21, 22, 23, 24, 25, 27, 28, 29, 30, 31, 32, 34, 35, 36, 37, 38, 41, 42, 43, 44, 45, 46, 47, 48, 49, 50]) ⟨[(0, sp p), (53, sp p), (64, sp p), (75, sp p), (82, sp p), (89, sp p), (48, (pO gr (0 + i * 5))), (49, (pO gr (0 + i * 5))), (50, (pO gr (0 + i * 5))), (51, (pO gr (0 + i * 5))), (52, (pO gr (0 + i * 5))), (57, avS (xO l i).key), (61, avS (xO l i).key), (68, avS (xO l i).product), (72, avS (xO l i).product), (79, avI (xO l i).count), (86, avI (xO l i).ready), (93, avI (xO l i).due), (97, avI (xO l i).due), (5, .v (.slice (some ⟨gr, 0, none⟩) l.length cap)), (62, (iO 4 [avS (xO l i).key, avS (xO l i).key, avS ⟨#[]⟩, avS ⟨#[111, 97]⟩])), (73, (iO 4 [avS (xO l i).product, avS (xO l i).product, avS ⟨#[122, 122]⟩, avS ⟨#[]⟩])), (80, (iO 3 [avI (xO l i).count, avI 0, avI 100001])), (98, (iO 3 [avI (xO l i).due, avI (xO l i).due, avI 345686400000]))], [.box gr ⟨rowL l, 89, cap * 5⟩], k + 1 + 4 * q + 1 + 1⟩ := by
          rw [hF]
          refine VA.all (rs := [15, 39]) (by decide +kernel) (by decide) ?_
          refine ⟨⟨_, rfl, .inl rfl, ?_⟩, ⟨_, rfl, .inl rfl, ?_⟩, trivial⟩
          ·
            refine OpE.callT' (k + 1 + 4 * q + 1 + 1) rfl rfl hB rfl Tryz.call16 rfl (some_Q (by rfl) (by decide) (by decide) (AllQ.cons ⟨(hok.getD i).1, (hok.getD i).2.2⟩ (AllQ.cons ⟨(hok.getD i).1, (hok.getD i).2.2⟩ (AllQ.cons (by decide) (AllQ.cons (by decide) AllQ.nil))))) (by omega) ?_
            rintro _ ⟨r63, hr63, rfl⟩
            have hh := hS16 r63 hr63
            rw [hF] at hh
            exact VA.to hh (by decide +kernel) (Le.mk hB [0] ⟨rfl, rfl, rfl, rfl, rfl, rfl, rfl, rfl, rfl, rfl, rfl, rfl, rfl, rfl, rfl, rfl, rfl, rfl, rfl, rfl, rfl, rfl, rfl, rfl, rfl, trivial⟩ rfl rfl (Nat.le_refl _))
          ·
            refine OpE.buildSlice (zc := #[.int .i64 0, .int .i64 0, .int .i64 0]) rfl hB rfl Tryz.underlying22 Tryz.sizeOf3 Tryz.zeroValue3 (by decide) (by decide) (by kernel_rfl) rfl rfl ?_
            have hh := hS19 
            rw [hF] at hh
            exact VA.to hh (by decide +kernel) (Le.mk hB [0] ⟨rfl, rfl, rfl, rfl, rfl, rfl, rfl, rfl, rfl, rfl, rfl, rfl, rfl, rfl, rfl, rfl, rfl, rfl, rfl, rfl, rfl, rfl, rfl, rfl, rfl, trivial⟩ rfl rfl (Nat.le_refl _))
        have hS29 : F 21 (lstB 67 [0, 1, 2, 3, 4, 5, 6, 7, 8, 9, 10, 11, 12, 13, 14, 16, 17, 18, 19, 20, 21, 22, 23, 24, 25, 27, 28, 29, 30, 31, 34, 35, 36, 37, 38, 39, 41, 42, 43, 44, 45, 46, 47, 48, 49, 50]) ⟨[(0, sp p), (53, sp p), (64, sp p), (75, sp p), (82, sp p), (89, sp p), (48, (pO gr (0 + i * 5))), (49, (pO gr (0 + i * 5))), (50, (pO gr (0 + i * 5))), (51, (pO gr (0 + i * 5))), (52, (pO gr (0 + i * 5))), (57, avS (xO l i).key), (61, avS (xO l i).key), (68, avS (xO l i).product), (72, avS (xO l i).product), (79, avI (xO l i).count), (86, avI (xO l i).ready), (93, avI (xO l i).due), (97, avI (xO l i).due), (5, .v (.slice (some ⟨gr, 0, none⟩) l.length cap)), (62, (iO 4 [avS (xO l i).key, avS (xO l i).key, avS ⟨#[]⟩, avS ⟨#[111, 97]⟩])), (73, (iO 4 [avS (xO l i).product, avS (xO l i).product, avS ⟨#[122, 122]⟩, avS ⟨#[]⟩])), (87, (iO 3 [avI (xO l i).ready, avI (-1), avI 345686400000])), (98, (iO 3 [avI (xO l i).due, avI (xO l i).due, avI 345686400000]))], [.box gr ⟨rowL l, 89, cap * 5⟩], k + 1 + 4 * q + 1 + 1⟩ := by
          rw [hF]
          refine VA.all (rs := [15, 32]) (by decide +kernel) (by decide) ?_
          refine ⟨⟨_, rfl, .inl rfl, ?_⟩, ⟨_, rfl, .inl rfl, ?_⟩, trivial⟩
          ·
            refine OpE.callT' (k + 1 + 4 * q + 1 + 1) rfl rfl hB rfl Tryz.call16 rfl (some_Q (by rfl) (by decide) (by decide) (AllQ.cons ⟨(hok.getD i).1, (hok.getD i).2.2⟩ (AllQ.cons ⟨(hok.getD i).1, (hok.getD i).2.2⟩ (AllQ.cons (by decide) (AllQ.cons (by decide) AllQ.nil))))) (by omega) ?_
            rintro _ ⟨r63, hr63, rfl⟩
            have hh := hS17 r63 hr63
            rw [hF] at hh
            exact VA.to hh (by decide +kernel) (Le.mk hB [0] ⟨rfl, rfl, rfl, rfl, rfl, rfl, rfl, rfl, rfl, rfl, rfl, rfl, rfl, rfl, rfl, rfl, rfl, rfl, rfl, rfl, rfl, rfl, rfl, rfl, rfl, trivial⟩ rfl rfl (Nat.le_refl _))
          ·
            refine OpE.buildSlice (zc := #[.int .i64 0, .int .i64 0, .int .i64 0]) rfl hB rfl Tryz.underlying22 Tryz.sizeOf3 Tryz.zeroValue3 (by decide) (by decide) (by kernel_rfl) rfl rfl ?_
            have hh := hS19 
            rw [hF] at hh
            exact VA.to hh (by decide +kernel) (Le.mk hB [0] ⟨rfl, rfl, rfl, rfl, rfl, rfl, rfl, rfl, rfl, rfl, rfl, rfl, rfl, rfl, rfl, rfl, rfl, rfl, rfl, rfl, rfl, rfl, rfl, rfl, rfl, trivial⟩ rfl rfl (Nat.le_refl _))
        have hS30 : F 21 (lstB 67 [0, 1, 2, 3, 4, 5, 6, 7, 8, 9, 10, 11, 12, 13, 14, 16, 17, 18, 19, 20, 21, 22, 23, 24, 27, 28, 29, 30, 31, 32, 34, 35, 36, 37, 38, 39, 41, 42, 43, 44, 45, 46, 47, 48, 49, 50]) ⟨[(0, sp p), (53, sp p), (64, sp p), (75, sp p), (82, sp p), (89, sp p), (48, (pO gr (0 + i * 5))), (49, (pO gr (0 + i * 5))), (50, (pO gr (0 + i * 5))), (51, (pO gr (0 + i * 5))), (52, (pO gr (0 + i * 5))), (57, avS (xO l i).key), (61, avS (xO l i).key), (68, avS (xO l i).product), (72, avS (xO l i).product), (79, avI (xO l i).count), (86, avI (xO l i).ready), (93, avI (xO l i).due), (97, avI (xO l i).due), (5, .v (.slice (some ⟨gr, 0, none⟩) l.length cap)), (62, (iO 4 [avS (xO l i).key, avS (xO l i).key, avS ⟨#[]⟩, avS ⟨#[111, 97]⟩])), (80, (iO 3 [avI (xO l i).count, avI 0, avI 100001])), (87, (iO 3 [avI (xO l i).ready, avI (-1), avI 345686400000])), (98, (iO 3 [avI (xO l i).due, avI (xO l i).due, avI 345686400000]))], [.box gr ⟨rowL l, 89, cap * 5⟩], k + 1 + 4 * q + 1 + 1⟩ := by
          rw [hF]
          refine VA.all (rs := [15, 25]) (by decide +kernel) (by decide) ?_
          refine ⟨⟨_, rfl, .inl rfl, ?_⟩, ⟨_, rfl, .inl rfl, ?_⟩, trivial⟩
          ·
            refine OpE.callT' (k + 1 + 4 * q + 1 + 1) rfl rfl hB rfl Tryz.call16 rfl (some_Q (by rfl) (by decide) (by decide) (AllQ.cons ⟨(hok.getD i).1, (hok.getD i).2.2⟩ (AllQ.cons ⟨(hok.getD i).1, (hok.getD i).2.2⟩ (AllQ.cons (by decide) (AllQ.cons (by decide) AllQ.nil))))) (by omega) ?_
            rintro _ ⟨r63, hr63, rfl⟩
            have hh := hS18 r63 hr63
            rw [hF] at hh
            exact VA.to hh (by decide +kernel) (Le.mk hB [0] ⟨rfl, rfl, rfl, rfl, rfl, rfl, rfl, rfl, rfl, rfl, rfl, rfl, rfl, rfl, rfl, rfl, rfl, rfl, rfl, rfl, rfl, rfl, rfl, rfl, rfl, trivial⟩ rfl rfl (Nat.le_refl _))
          ·
            refine OpE.buildSlice (zc := #[.string ⟨#[]⟩, .string ⟨#[]⟩, .string ⟨#[]⟩, .string ⟨#[]⟩]) rfl hB rfl Tryz.underlying67 Tryz.sizeOf9 Tryz.zeroValue9 (by decide) (by decide) (by kernel_rfl) rfl rfl ?_
            have hh := hS19 
            rw [hF] at hh
            exact VA.to hh (by decide +kernel) (Le.mk hB [0] ⟨rfl, rfl, rfl, rfl, rfl, rfl, rfl, rfl, rfl, rfl, rfl, rfl, rfl, rfl, rfl, rfl, rfl, rfl, rfl, rfl, rfl, rfl, rfl, rfl, rfl, trivial⟩ rfl rfl (Nat.le_refl _))
        have hS31 : F 21 (lstB 67 [0, 1, 2, 3, 4, 5, 6, 7, 8, 9, 10, 11, 12, 13, 16, 17, 18, 19, 20, 21, 22, 23, 24, 25, 27, 28, 29, 30, 31, 32, 34, 35, 36, 37, 38, 39, 41, 42, 43, 44, 45, 46, 47, 48, 49, 50]) ⟨[(0, sp p), (53, sp p), (64, sp p), (75, sp p), (82, sp p), (89, sp p), (48, (pO gr (0 + i * 5))), (49, (pO gr (0 + i * 5))), (50, (pO gr (0 + i * 5))), (51, (pO gr (0 + i * 5))), (52, (pO gr (0 + i * 5))), (57, avS (xO l i).key), (61, avS (xO l i).key), (68, avS (xO l i).product), (72, avS (xO l i).product), (79, avI (xO l i).count), (86, avI (xO l i).ready), (93, avI (xO l i).due), (97, avI (xO l i).due), (5, .v (.slice (some ⟨gr, 0, none⟩) l.length cap)), (73, (iO 4 [avS (xO l i).product, avS (xO l i).product, avS ⟨#[122, 122]⟩, avS ⟨#[]⟩])), (80, (iO 3 [avI (xO l i).count, avI 0, avI 100001])), (87, (iO 3 [avI (xO l i).ready, avI (-1), avI 345686400000])), (98, (iO 3 [avI (xO l i).due, avI (xO l i).due, avI 345686400000]))], [.box gr ⟨rowL l, 89, cap * 5⟩], k + 1 + 4 * q + 1 + 1⟩ := by
          rw [hF]
          refine VA.all (rs := [14]) (by decide +kernel) (by decide) ?_
          refine ⟨⟨_, rfl, .inl rfl, ?_⟩, trivial⟩
          refine OpE.buildSlice (zc := #[.string ⟨#[]⟩, .string ⟨#[]⟩, .string ⟨#[]⟩, .string ⟨#[]⟩]) rfl hB rfl Tryz.underlying67 Tryz.sizeOf9 Tryz.zeroValue9 (by decide) (by decide) (by kernel_rfl) rfl rfl ?_
          have hh := hS19 
          rw [hF] at hh
          exact VA.to hh (by decide +kernel) (Le.mk hB [0] ⟨rfl, rfl, rfl, rfl, rfl, rfl, rfl, rfl, rfl, rfl, rfl, rfl, rfl, rfl, rfl, rfl, rfl, rfl, rfl, rfl, rfl, rfl, rfl, rfl, rfl, trivial⟩ rfl rfl (Nat.le_refl _))
        have hS32 : ∀ (r63 : ByteArray) (hr63 : r63.size ≤ 1000 ∧ r63 ≠ ozK), F 22 (lstB 67 [0, 1, 2, 3, 4, 5, 6, 7, 8, 9, 10, 11, 12, 13, 14, 15, 16, 17, 18, 19, 20, 21, 22, 23, 24, 25, 27, 28, 29, 30, 31, 34, 35, 36, 37, 38, 41, 42, 43, 44, 45, 46, 47, 48, 49]) ⟨[(0, sp p), (53, sp p), (64, sp p), (75, sp p), (82, sp p), (89, sp p), (48, (pO gr (0 + i * 5))), (49, (pO gr (0 + i * 5))), (50, (pO gr (0 + i * 5))), (51, (pO gr (0 + i * 5))), (52, (pO gr (0 + i * 5))), (57, avS (xO l i).key), (61, avS (xO l i).key), (68, avS (xO l i).product), (72, avS (xO l i).product), (79, avI (xO l i).count), (86, avI (xO l i).ready), (93, avI (xO l i).due), (97, avI (xO l i).due), (5, .v (.slice (some ⟨gr, 0, none⟩) l.length cap)), (62, (iO 4 [avS (xO l i).key, avS (xO l i).key, avS ⟨#[]⟩, avS ⟨#[111, 97]⟩])), (63, avS r63), (73, (iO 4 [avS (xO l i).product, avS (xO l i).product, avS ⟨#[122, 122]⟩, avS ⟨#[]⟩]))], [.box gr ⟨rowL l, 89, cap * 5⟩], k + 1 + 4 * q + 1 + 1 + 1⟩ := by
          intro r63 hr63
          rw [hF]
          refine VA.all (rs := [26, 32, 39, 50]) (by decide +kernel) (by decide) ?_
          refine ⟨⟨_, rfl, .inl rfl, ?_⟩, ⟨_, rfl, .inl rfl, ?_⟩, ⟨_, rfl, .inl rfl, ?_⟩, ⟨_, rfl, .inl rfl, ?_⟩, trivial⟩
          ·
            refine OpE.callT' (k + 1 + 4 * q + 1 + 1 + 1) rfl rfl hB rfl Tryz.call16 rfl (some_T 1000 (by rfl) (by decide) (by decide) (AllS.cons (hok.getD i).2.1 (AllS.cons (hok.getD i).2.1 (AllS.cons (by decide) (AllS.cons (by decide) AllS.nil))))) (by omega) ?_
            rintro _ ⟨r74, hr74, rfl⟩
            have hh := hS20 r63 hr63 r74 hr74
            rw [hF] at hh
            exact VA.to hh (by decide +kernel) (Le.mk hB [0] ⟨rfl, rfl, rfl, rfl, rfl, rfl, rfl, rfl, rfl, rfl, rfl, rfl, rfl, rfl, rfl, rfl, rfl, rfl, rfl, rfl, rfl, rfl, rfl, rfl, trivial⟩ rfl rfl (Nat.le_refl _))
          ·
            refine OpE.buildSlice (zc := #[.int .i64 0, .int .i64 0, .int .i64 0]) rfl hB rfl Tryz.underlying22 Tryz.sizeOf3 Tryz.zeroValue3 (by decide) (by decide) (by kernel_rfl) rfl rfl ?_
            have hh := hS21 r63 hr63
            rw [hF] at hh
            exact VA.to hh (by decide +kernel) (Le.mk hB [0] ⟨rfl, rfl, rfl, rfl, rfl, rfl, rfl, rfl, rfl, rfl, rfl, rfl, rfl, rfl, rfl, rfl, rfl, rfl, rfl, rfl, rfl, rfl, rfl, rfl, trivial⟩ rfl rfl (Nat.le_refl _))
          ·
            refine OpE.buildSlice (zc := #[.int .i64 0, .int .i64 0, .int .i64 0]) rfl hB rfl Tryz.underlying22 Tryz.sizeOf3 Tryz.zeroValue3 (by decide) (by decide) (by kernel_rfl) rfl rfl ?_
            have hh := hS22 r63 hr63
            rw [hF] at hh
            exact VA.to hh (by decide +kernel) (Le.mk hB [0] ⟨rfl, rfl, rfl, rfl, rfl, rfl, rfl, rfl, rfl, rfl, rfl, rfl, rfl, rfl, rfl, rfl, rfl, rfl, rfl, rfl, rfl, rfl, rfl, rfl, trivial⟩ rfl rfl (Nat.le_refl _))
          ·
            refine OpE.buildSlice (zc := #[.int .i64 0, .int .i64 0, .int .i64 0]) rfl hB rfl Tryz.underlying22 Tryz.sizeOf3 Tryz.zeroValue3 (by decide) (by decide) (by kernel_rfl) rfl rfl ?_
            have hh := hS23 r63 hr63
            rw [hF] at hh
            exact VA.to hh (by decide +kernel) (Le.mk hB [0] ⟨rfl, rfl, rfl, rfl, rfl, rfl, rfl, rfl, rfl, rfl, rfl, rfl, rfl, rfl, rfl, rfl, rfl, rfl, rfl, rfl, rfl, rfl, rfl, rfl, trivial⟩ rfl rfl (Nat.le_refl _))
        have hS33 : ∀ (r63 : ByteArray) (hr63 : r63.size ≤ 1000 ∧ r63 ≠ ozK), F 22 (lstB 67 [0, 1, 2, 3, 4, 5, 6, 7, 8, 9, 10, 11, 12, 13, 14, 15, 16, 17, 18, 19, 20, 21, 22, 23, 24, 27, 28, 29, 30, 31, 32, 34, 35, 36, 37, 38, 41, 42, 43, 44, 45, 46, 47, 48, 49]) ⟨[(0, sp p), (53, sp p), (64, sp p), (75, sp p), (82, sp p), (89, sp p), (48, (pO gr (0 + i * 5))), (49, (pO gr (0 + i * 5))), (50, (pO gr (0 + i * 5))), (51, (pO gr (0 + i * 5))), (52, (pO gr (0 + i * 5))), (57, avS (xO l i).key), (61, avS (xO l i).key), (68, avS (xO l i).product), (72, avS (xO l i).product), (79, avI (xO l i).count), (86, avI (xO l i).ready), (93, avI (xO l i).due), (97, avI (xO l i).due), (5, .v (.slice (some ⟨gr, 0, none⟩) l.length cap)), (62, (iO 4 [avS (xO l i).key, avS (xO l i).key, avS ⟨#[]⟩, avS ⟨#[111, 97]⟩])), (63, avS r63), (80, (iO 3 [avI (xO l i).count, avI 0, avI 100001]))], [.box gr ⟨rowL l, 89, cap * 5⟩], k + 1 + 4 * q + 1 + 1 + 1⟩ := by
          intro r63 hr63
          rw [hF]
          refine VA.all (rs := [25, 39, 50]) (by decide +kernel) (by decide) ?_
          refine ⟨⟨_, rfl, .inl rfl, ?_⟩, ⟨_, rfl, .inl rfl, ?_⟩, ⟨_, rfl, .inl rfl, ?_⟩, trivial⟩
          ·
            refine OpE.buildSlice (zc := #[.string ⟨#[]⟩, .string ⟨#[]⟩, .string ⟨#[]⟩, .string ⟨#[]⟩]) rfl hB rfl Tryz.underlying67 Tryz.sizeOf9 Tryz.zeroValue9 (by decide) (by decide) (by kernel_rfl) rfl rfl ?_
            have hh := hS21 r63 hr63
            rw [hF] at hh
            exact VA.to hh (by decide +kernel) (Le.mk hB [0] ⟨rfl, rfl, rfl, rfl, rfl, rfl, rfl, rfl, rfl, rfl, rfl, rfl, rfl, rfl, rfl, rfl, rfl, rfl, rfl, rfl, rfl, rfl, rfl, rfl, trivial⟩ rfl rfl (Nat.le_refl _))
          ·
            refine OpE.buildSlice (zc := #[.int .i64 0, .int .i64 0, .int .i64 0]) rfl hB rfl Tryz.underlying22 Tryz.sizeOf3 Tryz.zeroValue3 (by decide) (by decide) (by kernel_rfl) rfl rfl ?_
            have hh := hS24 r63 hr63
            rw [hF] at hh
            exact VA.to hh (by decide +kernel) (Le.mk hB [0] ⟨rfl, rfl, rfl, rfl, rfl, rfl, rfl, rfl, rfl, rfl, rfl, rfl, rfl, rfl, rfl, rfl, rfl, rfl, rfl, rfl, rfl, rfl, rfl, rfl, trivial⟩ rfl rfl (Nat.le_refl _))
          ·
            refine OpE.buildSlice (zc := #[.int .i64 0, .int .i64 0, .int .i64 0]) rfl hB rfl Tryz.underlying22 Tryz.sizeOf3 Tryz.zeroValue3 (by decide) (by decide) (by kernel_rfl) rfl rfl ?_
            have hh := hS25 r63 hr63
            rw [hF] at hh
            exact VA.to hh (by decide +kernel) (Le.mk hB [0] ⟨rfl, rfl, rfl, rfl, rfl, rfl, rfl, rfl, rfl, rfl, rfl, rfl, rfl, rfl, rfl, rfl, rfl, rfl, rfl, rfl, rfl, rfl, rfl, rfl, trivial⟩ rfl rfl (Nat.le_refl _))
        have hS34 : ∀ (r63 : ByteArray) (hr63 : r63.size ≤ 1000 ∧ r63 ≠ ozK), F 22 (lstB 67 [0, 1, 2, 3, 4, 5, 6, 7, 8, 9, 10, 11, 12, 13, 14, 15, 16, 17, 18, 19, 20, 21, 22, 23, 24, 27, 28, 29, 30, 31, 34, 35, 36, 37, 38, 39, 41, 42, 43, 44, 45, 46, 47, 48, 49]) ⟨[(0, sp p), (53, sp p), (64, sp p), (75, sp p), (82, sp p), (89, sp p), (48, (pO gr (0 + i * 5))), (49, (pO gr (0 + i * 5))), (50, (pO gr (0 + i * 5))), (51, (pO gr (0 + i * 5))), (52, (pO gr (0 + i * 5))), (57, avS (xO l i).key), (61, avS (xO l i).key), (68, avS (xO l i).product), (72, avS (xO l i).product), (79, avI (xO l i).count), (86, avI (xO l i).ready), (93, avI (xO l i).due), (97, avI (xO l i).due), (5, .v (.slice (some ⟨gr, 0, none⟩) l.length cap)), (62, (iO 4 [avS (xO l i).key, avS (xO l i).key, avS ⟨#[]⟩, avS ⟨#[111, 97]⟩])), (63, avS r63), (87, (iO 3 [avI (xO l i).ready, avI (-1), avI 345686400000]))], [.box gr ⟨rowL l, 89, cap * 5⟩], k + 1 + 4 * q + 1 + 1 + 1⟩ := by
          intro r63 hr63
          rw [hF]
          refine VA.all (rs := [25, 32, 50]) (by decide +kernel) (by decide) ?_
          refine ⟨⟨_, rfl, .inl rfl, ?_⟩, ⟨_, rfl, .inl rfl, ?_⟩, ⟨_, rfl, .inl rfl, ?_⟩, trivial⟩
          ·
            refine OpE.buildSlice (zc := #[.string ⟨#[]⟩, .string ⟨#[]⟩, .string ⟨#[]⟩, .string ⟨#[]⟩]) rfl hB rfl Tryz.underlying67 Tryz.sizeOf9 Tryz.zeroValue9 (by decide) (by decide) (by kernel_rfl) rfl rfl ?_
            have hh := hS22 r63 hr63
            rw [hF] at hh
            exact VA.to hh (by decide +kernel) (Le.mk hB [0] ⟨rfl, rfl, rfl, rfl, rfl, rfl, rfl, rfl, rfl, rfl, rfl, rfl, rfl, rfl, rfl, rfl, rfl, rfl, rfl, rfl, rfl, rfl, rfl, rfl, trivial⟩ rfl rfl (Nat.le_refl _))
          ·
            refine OpE.buildSlice (zc := #[.int .i64 0, .int .i64 0, .int .i64 0]) rfl hB rfl Tryz.underlying22 Tryz.sizeOf3 Tryz.zeroValue3 (by decide) (by decide) (by kernel_rfl) rfl rfl ?_
            have hh := hS24 r63 hr63
            rw [hF] at hh
            exact VA.to hh (by decide +kernel) (Le.mk hB [0] ⟨rfl, rfl, rfl, rfl, rfl, rfl, rfl, rfl, rfl, rfl, rfl, rfl, rfl, rfl, rfl, rfl, rfl, rfl, rfl, rfl, rfl, rfl, rfl, rfl, trivial⟩ rfl rfl (Nat.le_refl _))
          ·
            refine OpE.buildSlice (zc := #[.int .i64 0, .int .i64 0, .int .i64 0]) rfl hB rfl Tryz.underlying22 Tryz.sizeOf3 Tryz.zeroValue3 (by decide) (by decide) (by kernel_rfl) rfl rfl ?_
            have hh := hS26 r63 hr63
            rw [hF] at hh
            exact VA.to hh (by decide +kernel) (Le.mk hB [0] ⟨rfl, rfl, rfl, rfl, rfl, rfl, rfl, rfl, rfl, rfl, rfl, rfl, rfl, rfl, rfl, rfl, rfl, rfl, rfl, rfl, rfl, rfl, rfl, rfl, trivial⟩ rfl rfl (Nat.le_refl _))
        have hS35 : ∀ (r63 : ByteArray) (hr63 : r63.size ≤ 1000 ∧ r63 ≠ ozK), F 22 (lstB 67 [0, 1, 2, 3, 4, 5, 6, 7, 8, 9, 10, 11, 12, 13, 14, 15, 16, 17, 18, 19, 20, 21, 22, 23, 24, 27, 28, 29, 30, 31, 34, 35, 36, 37, 38, 41, 42, 43, 44, 45, 46, 47, 48, 49, 50]) ⟨[(0, sp p), (53, sp p), (64, sp p), (75, sp p), (82, sp p), (89, sp p), (48, (pO gr (0 + i * 5))), (49, (pO gr (0 + i * 5))), (50, (pO gr (0 + i * 5))), (51, (pO gr (0 + i * 5))), (52, (pO gr (0 + i * 5))), (57, avS (xO l i).key), (61, avS (xO l i).key), (68, avS (xO l i).product), (72, avS (xO l i).product), (79, avI (xO l i).count), (86, avI (xO l i).ready), (93, avI (xO l i).due), (97, avI (xO l i).due), (5, .v (.slice (some ⟨gr, 0, none⟩) l.length cap)), (62, (iO 4 [avS (xO l i).key, avS (xO l i).key, avS ⟨#[]⟩, avS ⟨#[111, 97]⟩])), (63, avS r63), (98, (iO 3 [avI (xO l i).due, avI (xO l i).due, avI 345686400000]))], [.box gr ⟨rowL l, 89, cap * 5⟩], k + 1 + 4 * q + 1 + 1 + 1⟩ := by
          intro r63 hr63
          rw [hF]
          refine VA.all (rs := [25, 32, 39]) (by decide +kernel) (by decide) ?_
          refine ⟨⟨_, rfl, .inl rfl, ?_⟩, ⟨_, rfl, .inl rfl, ?_⟩, ⟨_, rfl, .inl rfl, ?_⟩, trivial⟩
          ·
            refine OpE.buildSlice (zc := #[.string ⟨#[]⟩, .string ⟨#[]⟩, .string ⟨#[]⟩, .string ⟨#[]⟩]) rfl hB rfl Tryz.underlying67 Tryz.sizeOf9 Tryz.zeroValue9 (by decide) (by decide) (by kernel_rfl) rfl rfl ?_
            have hh := hS23 r63 hr63
            rw [hF] at hh
            exact VA.to hh (by decide +kernel) (Le.mk hB [0] ⟨rfl, rfl, rfl, rfl, rfl, rfl, rfl, rfl, rfl, rfl, rfl, rfl, rfl, rfl, rfl, rfl, rfl, rfl, rfl, rfl, rfl, rfl, rfl, rfl, trivial⟩ rfl rfl (Nat.le_refl _))
          ·
            refine OpE.buildSlice (zc := #[.int .i64 0, .int .i64 0, .int .i64 0]) rfl hB rfl Tryz.underlying22 Tryz.sizeOf3 Tryz.zeroValue3 (by decide) (by decide) (by kernel_rfl) rfl rfl ?_
            have hh := hS25 r63 hr63
            rw [hF] at hh
            exact VA.to hh (by decide +kernel) (Le.mk hB [0] ⟨rfl, rfl, rfl, rfl, rfl, rfl, rfl, rfl, rfl, rfl, rfl, rfl, rfl, rfl, rfl, rfl, rfl, rfl, rfl, rfl, rfl, rfl, rfl, rfl, trivial⟩ rfl rfl (Nat.le_refl _))
          ·
            refine OpE.buildSlice (zc := #[.int .i64 0, .int .i64 0, .int .i64 0]) rfl hB rfl Tryz.underlying22 Tryz.sizeOf3 Tryz.zeroValue3 (by decide) (by decide) (by kernel_rfl) rfl rfl ?_
            have hh := hS26 r63 hr63
            rw [hF] at hh
            exact VA.to hh (by decide +kernel) (Le.mk hB [0] ⟨rfl, rfl, rfl, rfl, rfl, rfl, rfl, rfl, rfl, rfl, rfl, rfl, rfl, rfl, rfl, rfl, rfl, rfl, rfl, rfl, rfl, rfl, rfl, rfl, trivial⟩ rfl rfl (Nat.le_refl _))
        have hS36 : F 22 (lstB 67 [0, 1, 2, 3, 4, 5, 6, 7, 8, 9, 10, 11, 12, 13, 14, 16, 17, 18, 19, 20, 21, 22, 23, 24, 25, 27, 28, 29, 30, 31, 32, 34, 35, 36, 37, 38, 41, 42, 43, 44, 45, 46, 47, 48, 49]) ⟨[(0, sp p), (53, sp p), (64, sp p), (75, sp p), (82, sp p), (89, sp p), (48, (pO gr (0 + i * 5))), (49, (pO gr (0 + i * 5))), (50, (pO gr (0 + i * 5))), (51, (pO gr (0 + i * 5))), (52, (pO gr (0 + i * 5))), (57, avS (xO l i).key), (61, avS (xO l i).key), (68, avS (xO l i).product), (72, avS (xO l i).product), (79, avI (xO l i).count), (86, avI (xO l i).ready), (93, avI (xO l i).due), (97, avI (xO l i).due), (5, .v (.slice (some ⟨gr, 0, none⟩) l.length cap)), (62, (iO 4 [avS (xO l i).key, avS (xO l i).key, avS ⟨#[]⟩, avS ⟨#[111, 97]⟩])), (73, (iO 4 [avS (xO l i).product, avS (xO l i).product, avS ⟨#[122, 122]⟩, avS ⟨#[]⟩])), (80, (iO 3 [avI (xO l i).count, avI 0, avI 100001]))], [.box gr ⟨rowL l, 89, cap * 5⟩], k + 1 + 4 * q + 1 + 1⟩ := by
          rw [hF]
          refine VA.all (rs := [15, 39, 50]) (by decide +kernel) (by decide) ?_
          refine ⟨⟨_, rfl, .inl rfl, ?_⟩, ⟨_, rfl, .inl rfl, ?_⟩, ⟨_, rfl, .inl rfl, ?_⟩, trivial⟩
          ·
            refine OpE.callT' (k + 1 + 4 * q + 1 + 1) rfl rfl hB rfl Tryz.call16 rfl (some_Q (by rfl) (by decide) (by decide) (AllQ.cons ⟨(hok.getD i).1, (hok.getD i).2.2⟩ (AllQ.cons ⟨(hok.getD i).1, (hok.getD i).2.2⟩ (AllQ.cons (by decide) (AllQ.cons (by decide) AllQ.nil))))) (by omega) ?_
            rintro _ ⟨r63, hr63, rfl⟩
            have hh := hS21 r63 hr63
            rw [hF] at hh
            exact VA.to hh (by decide +kernel) (Le.mk hB [0] ⟨rfl, rfl, rfl, rfl, rfl, rfl, rfl, rfl, rfl, rfl, rfl, rfl, rfl, rfl, rfl, rfl, rfl, rfl, rfl, rfl, rfl, rfl, rfl, rfl, trivial⟩ rfl rfl (Nat.le_refl _))
          ·
            refine OpE.buildSlice (zc := #[.int .i64 0, .int .i64 0, .int .i64 0]) rfl hB rfl Tryz.underlying22 Tryz.sizeOf3 Tryz.zeroValue3 (by decide) (by decide) (by kernel_rfl) rfl rfl ?_
            have hh := hS27 
            rw [hF] at hh
            exact VA.to hh (by decide +kernel) (Le.mk hB [0] ⟨rfl, rfl, rfl, rfl, rfl, rfl, rfl, rfl, rfl, rfl, rfl, rfl, rfl, rfl, rfl, rfl, rfl, rfl, rfl, rfl, rfl, rfl, rfl, rfl, trivial⟩ rfl rfl (Nat.le_refl _))
          ·
            refine OpE.buildSlice (zc := #[.int .i64 0, .int .i64 0, .int .i64 0]) rfl hB rfl Tryz.underlying22 Tryz.sizeOf3 Tryz.zeroValue3 (by decide) (by decide) (by kernel_rfl) rfl rfl ?_
            have hh := hS28 
            rw [hF] at hh
            exact VA.to hh (by decide +kernel) (Le.mk hB [0] ⟨rfl, rfl, rfl, rfl, rfl, rfl, rfl, rfl, rfl, rfl, rfl, rfl, rfl, rfl, rfl, rfl, rfl, rfl, rfl, rfl, rfl, rfl, rfl, rfl, trivial⟩ rfl rfl (Nat.le_refl _))
        have hS37 : F 22 (lstB 67 [0, 1, 2, 3, 4, 5, 6, 7, 8, 9, 10, 11, 12, 13, 14, 16, 17, 18, 19, 20, 21, 22, 23, 24, 25, 27, 28, 29, 30, 31, 34, 35, 36, 37, 38, 39, 41, 42, 43, 44, 45, 46, 47, 48, 49]) ⟨[(0, sp p), (53, sp p), (64, sp p), (75, sp p), (82, sp p), (89, sp p), (48, (pO gr (0 + i * 5))), (49, (pO gr (0 + i * 5))), (50, (pO gr (0 + i * 5))), (51, (pO gr (0 + i * 5))), (52, (pO gr (0 + i * 5))), (57, avS (xO l i).key), (61, avS (xO l i).key), (68, avS (xO l i).product), (72, avS (xO l i).product), (79, avI (xO l i).count), (86, avI (xO l i).ready), (93, avI (xO l i).due), (97, avI (xO l i).due), (5, .v (.slice (some ⟨gr, 0, none⟩) l.length cap)), (62, (iO 4 [avS (xO l i).key, avS (xO l i).key, avS ⟨#[]⟩, avS ⟨#[111, 97]⟩])), (73, (iO 4 [avS (xO l i).product, avS (xO l i).product, avS ⟨#[122, 122]⟩, avS ⟨#[]⟩])), (87, (iO 3 [avI (xO l i).ready, avI (-1), avI 345686400000]))], [.box gr ⟨rowL l, 89, cap * 5⟩], k + 1 + 4 * q + 1 + 1⟩ := by
          rw [hF]
          refine VA.all (rs := [15, 32, 50]) (by decide +kernel) (by decide) ?_
          refine ⟨⟨_, rfl, .inl rfl, ?_⟩, ⟨_, rfl, .inl rfl, ?_⟩, ⟨_, rfl, .inl rfl, ?_⟩, trivial⟩
          ·
            refine OpE.callT' (k + 1 + 4 * q + 1 + 1) rfl rfl hB rfl Tryz.call16 rfl (some_Q (by rfl) (by decide) (by decide) (AllQ.cons ⟨(hok.getD i).1, (hok.getD i).2.2⟩ (AllQ.cons ⟨(hok.getD i).1, (hok.getD i).2.2⟩ (AllQ.cons (by decide) (AllQ.cons (by decide) AllQ.nil))))) (by omega) ?_
            rintro _ ⟨r63, hr63, rfl⟩
            have hh := hS22 r63 hr63
            rw [hF] at hh
            exact VA.to hh (by decide +kernel) (Le.mk hB [0] ⟨rfl, rfl, rfl, rfl, rfl, rfl, rfl, rfl, rfl, rfl, rfl, rfl, rfl, rfl, rfl, rfl, rfl, rfl, rfl, rfl, rfl, rfl, rfl, rfl, trivial⟩ rfl rfl (Nat.le_refl _))
          ·
            refine OpE.buildSlice (zc := #[.int .i64 0, .int .i64 0, .int .i64 0]) rfl hB rfl Tryz.underlying22 Tryz.sizeOf3 Tryz.zeroValue3 (by decide) (by decide) (by kernel_rfl) rfl rfl ?_
            have hh := hS27 
            rw [hF] at hh
            exact VA.to hh (by decide +kernel) (Le.mk hB [0] ⟨rfl, rfl, rfl, rfl, rfl, rfl, rfl, rfl, rfl, rfl, rfl, rfl, rfl, rfl, rfl, rfl, rfl, rfl, rfl, rfl, rfl, rfl, rfl, rfl, trivial⟩ rfl rfl (Nat.le_refl _))
          ·
            refine OpE.buildSlice (zc := #[.int .i64 0, .int .i64 0, .int .i64 0]) rfl hB rfl Tryz.underlying22 Tryz.sizeOf3 Tryz.zeroValue3 (by decide) (by decide) (by kernel_rfl) rfl rfl ?_
            have hh := hS29 
            rw [hF] at hh
            exact VA.to hh (by decide +kernel) (Le.mk hB [0] ⟨rfl, rfl, rfl, rfl, rfl, rfl, rfl, rfl, rfl, rfl, rfl, rfl, rfl, rfl, rfl, rfl, rfl, rfl, rfl, rfl, rfl, rfl, rfl, rfl, trivial⟩ rfl rfl (Nat.le_refl _))
        have hS38 : F 22 (lstB 67 [0, 1, 2, 3, 4, 5, 6, 7, 8, 9, 10, 11, 12, 13, 14, 16, 17, 18, 19, 20, 21, 22, 23, 24, 25, 27, 28, 29, 30, 31, 34, 35, 36, 37, 38, 41, 42, 43, 44, 45, 46, 47, 48, 49, 50]) ⟨[(0, sp p), (53, sp p), (64, sp p), (75, sp p), (82, sp p), (89, sp p), (48, (pO gr (0 + i * 5))), (49, (pO gr (0 + i * 5))), (50, (pO gr (0 + i * 5))), (51, (pO gr (0 + i * 5))), (52, (pO gr (0 + i * 5))), (57, avS (xO l i).key), (61, avS (xO l i).key), (68, avS (xO l i).product), (72, avS (xO l i).product), (79, avI (xO l i).count), (86, avI (xO l i).ready), (93, avI (xO l i).due), (97, avI (xO l i).due), (5, .v (.slice (some ⟨gr, 0, none⟩) l.length cap)), (62, (iO 4 [avS (xO l i).key, avS (xO l i).key, avS ⟨#[]⟩, avS ⟨#[111, 97]⟩])), (73, (iO 4 [avS (xO l i).product, avS (xO l i).product, avS ⟨#[122, 122]⟩, avS ⟨#[]⟩])), (98, (iO 3 [avI (xO l i).due, avI (xO l i).due, avI 345686400000]))], [.box gr ⟨rowL l, 89, cap * 5⟩], k + 1 + 4 * q + 1 + 1⟩ := by
          rw [hF]
          refine VA.all (rs := [15, 32, 39]) (by decide +kernel) (by decide) ?_
          refine ⟨⟨_, rfl, .inl rfl, ?_⟩, ⟨_, rfl, .inl rfl, ?_⟩, ⟨_, rfl, .inl rfl, ?_⟩, trivial⟩
          ·
            refine OpE.callT' (k + 1 + 4 * q + 1 + 1) rfl rfl hB rfl Tryz.call16 rfl (some_Q (by rfl) (by decide) (by decide) (AllQ.cons ⟨(hok.getD i).1, (hok.getD i).2.2⟩ (AllQ.cons ⟨(hok.getD i).1, (hok.getD i).2.2⟩ (AllQ.cons (by decide) (AllQ.cons (by decide) AllQ.nil))))) (by omega) ?_
            rintro _ ⟨r63, hr63, rfl⟩
            have hh := hS23 r63 hr63
            rw [hF] at hh
            exact VA.to hh (by decide +kernel) (Le.mk hB [0] ⟨rfl, rfl, rfl, rfl, rfl, rfl, rfl, rfl, rfl, rfl, rfl, rfl, rfl, rfl, rfl, rfl, rfl, rfl, rfl, rfl, rfl, rfl, rfl, rfl, trivial⟩ rfl rfl (Nat.le_refl _))
          ·
            refine OpE.buildSlice (zc := #[.int .i64 0, .int .i64 0, .int .i64 0]) rfl hB rfl Tryz.underlying22 Tryz.sizeOf3 Tryz.zeroValue3 (by decide) (by decide) (by kernel_rfl) rfl rfl ?_
            have hh := hS28 
            rw [hF] at hh
            exact VA.to hh (by decide +kernel) (Le.mk hB [0] ⟨rfl, rfl, rfl, rfl, rfl, rfl, rfl, rfl, rfl, rfl, rfl, rfl, rfl, rfl, rfl, rfl, rfl, rfl, rfl, rfl, rfl, rfl, rfl, rfl, trivial⟩ rfl rfl (Nat.le_refl _))
          ·
            refine OpE.buildSlice (zc := #[.int .i64 0, .int .i64 0, .int .i64 0]) rfl hB rfl Tryz.underlying22 Tryz.sizeOf3 Tryz.zeroValue3 (by decide) (by decide) (by kernel_rfl) rfl rfl ?_
            have hh := hS29 
            rw [hF] at hh
            exact VA.to hh (by decide +kernel) (Le.mk hB [0] ⟨rfl, rfl, rfl, rfl, rfl, rfl, rfl, rfl, rfl, rfl, rfl, rfl, rfl, rfl, rfl, rfl, rfl, rfl, rfl, rfl, rfl, rfl, rfl, rfl, trivial⟩ rfl rfl (Nat.le_refl _))
        have hS39 : F 22 (lstB 67 [0, 1, 2, 3, 4, 5, 6, 7, 8, 9, 10, 11, 12, 13, 14, 16, 17, 18, 19, 20, 21, 22, 23, 24, 27, 28, 29, 30, 31, 32, 34, 35, 36, 37, 38, 39, 41, 42, 43, 44, 45, 46, 47, 48, 49]) ⟨[(0, sp p), (53, sp p), (64, sp p), (75, sp p), (82, sp p), (89, sp p), (48, (pO gr (0 + i * 5))), (49, (pO gr (0 + i * 5))), (50, (pO gr (0 + i * 5))), (51, (pO gr (0 + i * 5))), (52, (pO gr (0 + i * 5))), (57, avS (xO l i).key), (61, avS (xO l i).key), (68, avS (xO l i).product), (72, avS (xO l i).product), (79, avI (xO l i).count), (86, avI (xO l i).ready), (93, avI (xO l i).due), (97, avI (xO l i).due), (5, .v (.slice (some ⟨gr, 0, none⟩) l.length cap)), (62, (iO 4 [avS (xO l i).key, avS (xO l i).key, avS ⟨#[]⟩, avS ⟨#[111, 97]⟩])), (80, (iO 3 [avI (xO l i).count, avI 0, avI 100001])), (87, (iO 3 [avI (xO l i).ready, avI (-1), avI 345686400000]))], [.box gr ⟨rowL l, 89, cap * 5⟩], k + 1 + 4 * q + 1 + 1⟩ := by
          rw [hF]
          refine VA.all (rs := [15, 25, 50]) (by decide +kernel) (by decide) ?_
          refine ⟨⟨_, rfl, .inl rfl, ?_⟩, ⟨_, rfl, .inl rfl, ?_⟩, ⟨_, rfl, .inl rfl, ?_⟩, trivial⟩
          ·
            refine OpE.callT' (k + 1 + 4 * q + 1 + 1) rfl rfl hB rfl Tryz.call16 rfl (some_Q (by rfl) (by decide) (by decide) (AllQ.cons ⟨(hok.getD i).1, (hok.getD i).2.2⟩ (AllQ.cons ⟨(hok.getD i).1, (hok.getD i).2.2⟩ (AllQ.cons (by decide) (AllQ.cons (by decide) AllQ.nil))))) (by omega) ?_
            rintro _ ⟨r63, hr63, rfl⟩
            have hh := hS24 r63 hr63
            rw [hF] at hh
            exact VA.to hh (by decide +kernel) (Le.mk hB [0] ⟨rfl, rfl, rfl, rfl, rfl, rfl, rfl, rfl, rfl, rfl, rfl, rfl, rfl, rfl, rfl, rfl, rfl, rfl, rfl, rfl, rfl, rfl, rfl, rfl, trivial⟩ rfl rfl (Nat.le_refl _))
          ·
            refine OpE.buildSlice (zc := #[.string ⟨#[]⟩, .string ⟨#[]⟩, .string ⟨#[]⟩, .string ⟨#[]⟩]) rfl hB rfl Tryz.underlying67 Tryz.sizeOf9 Tryz.zeroValue9 (by decide) (by decide) (by kernel_rfl) rfl rfl ?_
            have hh := hS27 
            rw [hF] at hh
            exact VA.to hh (by decide +kernel) (Le.mk hB [0] ⟨rfl, rfl, rfl, rfl, rfl, rfl, rfl, rfl, rfl, rfl, rfl, rfl, rfl, rfl, rfl, rfl, rfl, rfl, rfl, rfl, rfl, rfl, rfl, rfl, trivial⟩ rfl rfl (Nat.le_refl _))
          ·
            refine OpE.buildSlice (zc := #[.int .i64 0, .int .i64 0, .int .i64 0]) rfl hB rfl Tryz.underlying22 Tryz.sizeOf3 Tryz.zeroValue3 (by decide) (by decide) (by kernel_rfl) rfl rfl ?_
            have hh := hS30 
            rw [hF] at hh
            exact VA.to hh (by decide +kernel) (Le.mk hB [0] ⟨rfl, rfl, rfl, rfl, rfl, rfl, rfl, rfl, rfl, rfl, rfl, rfl, rfl, rfl, rfl, rfl, rfl, rfl, rfl, rfl, rfl, rfl, rfl, rfl, trivial⟩ rfl rfl (Nat.le_refl _))
        have hS40 : F 22 (lstB 67 [0, 1, 2, 3, 4, 5, 6, 7, 8, 9, 10, 11, 12, 13, 14, 16, 17, 18, 19, 20, 21, 22, 23, 24, 27, 28, 29, 30, 31, 32, 34, 35, 36, 37, 38, 41, 42, 43, 44, 45, 46, 47, 48, 49, 50]) ⟨[(0, sp p), (53, sp p), (64, sp p), (75, sp p), (82, sp p), (89, sp p), (48, (pO gr (0 + i * 5))), (49, (pO gr (0 + i * 5))), (50, (pO gr (0 + i * 5))), (51, (pO gr (0 + i * 5))), (52, (pO gr (0 + i * 5))), (57, avS (xO l i).key), (61, avS (xO l i).key), (68, avS (xO l i).product), (72, avS (xO l i).product), (79, avI (xO l i).count), (86, avI (xO l i).ready), (93, avI (xO l i).due), (97, avI (xO l i).due), (5, .v (.slice (some ⟨gr, 0, none⟩) l.length cap)), (62, (iO 4 [avS (xO l i).key, avS (xO l i).key, avS ⟨#[]⟩, avS ⟨#[111, 97]⟩])), (80, (iO 3 [avI (xO l i).count, avI 0, avI 100001])), (98, (iO 3 [avI (xO l i).due, avI (xO l i).due, avI 345686400000]))], [.box gr ⟨rowL l, 89, cap * 5⟩], k + 1 + 4 * q + 1 + 1⟩ := by
          rw [hF]
          refine VA.all (rs := [15, 25, 39]) (by decide +kernel) (by decide) ?_
          refine ⟨⟨_, rfl, .inl rfl, ?_⟩, ⟨_, rfl, .inl rfl, ?_⟩, ⟨_, rfl, .inl rfl, ?_⟩, trivial⟩
          ·
            refine OpE.callT' (k + 1 + 4 * q + 1 + 1) rfl rfl hB rfl Tryz.call16 rfl (some_Q (by rfl) (by decide) (by decide) (AllQ.cons ⟨(hok.getD i).1, (hok.getD i).2.2⟩ (AllQ.cons ⟨(hok.getD i).1, (hok.getD i).2.2⟩ (AllQ.cons (by decide) (AllQ.cons (by decide) AllQ.nil))))) (by omega) ?_
            rintro _ ⟨r63, hr63, rfl⟩
            have hh := hS25 r63 hr63
            rw [hF] at hh
            exact VA.to hh (by decide +kernel) (Le.mk hB [0] ⟨rfl, rfl, rfl, rfl, rfl, rfl, rfl, rfl, rfl, rfl, rfl, rfl, rfl, rfl, rfl, rfl, rfl, rfl, rfl, rfl, rfl, rfl, rfl, rfl, trivial⟩ rfl rfl (Nat.le_refl _))
          ·
            refine OpE.buildSlice (zc := #[.string ⟨#[]⟩, .string ⟨#[]⟩, .string ⟨#[]⟩, .string ⟨#[]⟩]) rfl hB rfl Tryz.underlying67 Tryz.sizeOf9 Tryz.zeroValue9 (by decide) (by decide) (by kernel_rfl) rfl rfl ?_
            have hh := hS28 
            rw [hF] at hh
            exact VA.to hh (by decide +kernel) (Le.mk hB [0] ⟨rfl, rfl, rfl, rfl, rfl, rfl, rfl, rfl, rfl, rfl, rfl, rfl, rfl, rfl, rfl, rfl, rfl, rfl, rfl, rfl, rfl, rfl, rfl, rfl, trivial⟩ rfl rfl (Nat.le_refl _))
          ·
            refine OpE.buildSlice (zc := #[.int .i64 0, .int .i64 0, .int .i64 0]) rfl hB rfl Tryz.underlying22 Tryz.sizeOf3 Tryz.zeroValue3 (by decide) (by decide) (by kernel_rfl) rfl rfl ?_
            have hh := hS30 
            rw [hF] at hh
            exact VA.to hh (by decide +kernel) (Le.mk hB [0] ⟨rfl, rfl, rfl, rfl, rfl, rfl, rfl, rfl, rfl, rfl, rfl, rfl, rfl, rfl, rfl, rfl, rfl, rfl, rfl, rfl, rfl, rfl, rfl, rfl, trivial⟩ rfl rfl (Nat.le_refl _))
        have hS41 : F 22 (lstB 67 [0, 1, 2, 3, 4, 5, 6, 7, 8, 9, 10, 11, 12, 13, 14, 16, 17, 18, 19, 20, 21, 22, 23, 24, 27, 28, 29, 30, 31, 34, 35, 36, 37, 38, 39, 41, 42, 43, 44, 45, 46, 47, 48, 49, 50]) ⟨[(0, sp p), (53, sp p), (64, sp p), (75, sp p), (82, sp p), (89, sp p), (48, (pO gr (0 + i * 5))), (49, (pO gr (0 + i * 5))), (50, (pO gr (0 + i * 5))), (51, (pO gr (0 + i * 5))), (52, (pO gr (0 + i * 5))), (57, avS (xO l i).key), (61, avS (xO l i).key), (68, avS (xO l i).product), (72, avS (xO l i).product), (79, avI (xO l i).count), (86, avI (xO l i).ready), (93, avI (xO l i).due), (97, avI (xO l i).due), (5, .v (.slice (some ⟨gr, 0, none⟩) l.length cap)), (62, (iO 4 [avS (xO l i).key, avS (xO l i).key, avS ⟨#[]⟩, avS ⟨#[111, 97]⟩])), (87, (iO 3 [avI (xO l i).ready, avI (-1), avI 345686400000])), (98, (iO 3 [avI (xO l i).due, avI (xO l i).due, avI 345686400000]))], [.box gr ⟨rowL l, 89, cap * 5⟩], k + 1 + 4 * q + 1 + 1⟩ := by
          rw [hF]
          refine VA.all (rs := [15, 25, 32]) (by decide +kernel) (by decide) ?_
          refine ⟨⟨_, rfl, .inl rfl, ?_⟩, ⟨_, rfl, .inl rfl, ?_⟩, ⟨_, rfl, .inl rfl, ?_⟩, trivial⟩
          ·
            refine OpE.callT' (k + 1 + 4 * q + 1 + 1) rfl rfl hB rfl Tryz.call16 rfl (some_Q (by rfl) (by decide) (by decide) (AllQ.cons ⟨(hok.getD i).1, (hok.getD i).2.2⟩ (AllQ.cons ⟨(hok.getD i).1, (hok.getD i).2.2⟩ (AllQ.cons (by decide) (AllQ.cons (by decide) AllQ.nil))))) (by omega) ?_
            rintro _ ⟨r63, hr63, rfl⟩
            have hh := hS26 r63 hr63
            rw [hF] at hh
            exact VA.to hh (by decide +kernel) (Le.mk hB [0] ⟨rfl, rfl, rfl, rfl, rfl, rfl, rfl, rfl, rfl, rfl, rfl, rfl, rfl, rfl, rfl, rfl, rfl, rfl, rfl, rfl, rfl, rfl, rfl, rfl, trivial⟩ rfl rfl (Nat.le_refl _))
          ·
            refine OpE.buildSlice (zc := #[.string ⟨#[]⟩, .string ⟨#[]⟩, .string ⟨#[]⟩, .string ⟨#[]⟩]) rfl hB rfl Tryz.underlying67 Tryz.sizeOf9 Tryz.zeroValue9 (by decide) (by decide) (by kernel_rfl) rfl rfl ?_
            have hh := hS29 
            rw [hF] at hh
            exact VA.to hh (by decide +kernel) (Le.mk hB [0] ⟨rfl, rfl, rfl, rfl, rfl, rfl, rfl, rfl, rfl, rfl, rfl, rfl, rfl, rfl, rfl, rfl, rfl, rfl, rfl, rfl, rfl, rfl, rfl, rfl, trivial⟩ rfl rfl (Nat.le_refl _))
          ·
            refine OpE.buildSlice (zc := #[.int .i64 0, .int .i64 0, .int .i64 0]) rfl hB rfl Tryz.underlying22 Tryz.sizeOf3 Tryz.zeroValue3 (by decide) (by decide) (by kernel_rfl) rfl rfl ?_
            have hh := hS30 
            rw [hF] at hh
            exact VA.to hh (by decide +kernel) (Le.mk hB [0] ⟨rfl, rfl, rfl, rfl, rfl, rfl, rfl, rfl, rfl, rfl, rfl, rfl, rfl, rfl, rfl, rfl, rfl, rfl, rfl, rfl, rfl, rfl, rfl, rfl, trivial⟩ rfl rfl (Nat.le_refl _))
        have hS42 : F 22 (lstB 67 [0, 1, 2, 3, 4, 5, 6, 7, 8, 9, 10, 11, 12, 13, 16, 17, 18, 19, 20, 21, 22, 23, 24, 25, 27, 28, 29, 30, 31, 32, 34, 35, 36, 37, 38, 39, 41, 42, 43, 44, 45, 46, 47, 48, 49]) ⟨[(0, sp p), (53, sp p), (64, sp p), (75, sp p), (82, sp p), (89, sp p), (48, (pO gr (0 + i * 5))), (49, (pO gr (0 + i * 5))), (50, (pO gr (0 + i * 5))), (51, (pO gr (0 + i * 5))), (52, (pO gr (0 + i * 5))), (57, avS (xO l i).key), (61, avS (xO l i).key), (68, avS (xO l i).product), (72, avS (xO l i).product), (79, avI (xO l i).count), (86, avI (xO l i).ready), (93, avI (xO l i).due), (97, avI (xO l i).due), (5, .v (.slice (some ⟨gr, 0, none⟩) l.length cap)), (73, (iO 4 [avS (xO l i).product, avS (xO l i).product, avS ⟨#[122, 122]⟩, avS ⟨#[]⟩])), (80, (iO 3 [avI (xO l i).count, avI 0, avI 100001])), (87, (iO 3 [avI (xO l i).ready, avI (-1), avI 345686400000]))], [.box gr ⟨rowL l, 89, cap * 5⟩], k + 1 + 4 * q + 1 + 1⟩ := by
          rw [hF]
          refine VA.all (rs := [14, 50]) (by decide +kernel) (by decide) ?_
          refine ⟨⟨_, rfl, .inl rfl, ?_⟩, ⟨_, rfl, .inl rfl, ?_⟩, trivial⟩
          ·
            refine OpE.buildSlice (zc := #[.string ⟨#[]⟩, .string ⟨#[]⟩, .string ⟨#[]⟩, .string ⟨#[]⟩]) rfl hB rfl Tryz.underlying67 Tryz.sizeOf9 Tryz.zeroValue9 (by decide) (by decide) (by kernel_rfl) rfl rfl ?_
            have hh := hS27 
            rw [hF] at hh
            exact VA.to hh (by decide +kernel) (Le.mk hB [0] ⟨rfl, rfl, rfl, rfl, rfl, rfl, rfl, rfl, rfl, rfl, rfl, rfl, rfl, rfl, rfl, rfl, rfl, rfl, rfl, rfl, rfl, rfl, rfl, rfl, trivial⟩ rfl rfl (Nat.le_refl _))
          ·
            refine OpE.buildSlice (zc := #[.int .i64 0, .int .i64 0, .int .i64 0]) rfl hB rfl Tryz.underlying22 Tryz.sizeOf3 Tryz.zeroValue3 (by decide) (by decide) (by kernel_rfl) rfl rfl ?_
            have hh := hS31 
            rw [hF] at hh
            exact VA.to hh (by decide +kernel) (Le.mk hB [0] ⟨rfl, rfl, rfl, rfl, rfl, rfl, rfl, rfl, rfl, rfl, rfl, rfl, rfl, rfl, rfl, rfl, rfl, rfl, rfl, rfl, rfl, rfl, rfl, rfl, trivial⟩ rfl rfl (Nat.le_refl _))
        have hS43 : F 22 (lstB 67 [0, 1, 2, 3, 4, 5, 6, 7, 8, 9, 10, 11, 12, 13, 16, 17, 18, 19, 20, 21, 22, 23, 24, 25, 27, 28, 29, 30, 31, 32, 34, 35, 36, 37, 38, 41, 42, 43, 44, 45, 46, 47, 48, 49, 50]) ⟨[(0, sp p), (53, sp p), (64, sp p), (75, sp p), (82, sp p), (89, sp p), (48, (pO gr (0 + i * 5))), (49, (pO gr (0 + i * 5))), (50, (pO gr (0 + i * 5))), (51, (pO gr (0 + i * 5))), (52, (pO gr (0 + i * 5))), (57, avS (xO l i).key), (61, avS (xO l i).key), (68, avS (xO l i).product), (72, avS (xO l i).product), (79, avI (xO l i).count), (86, avI (xO l i).ready), (93, avI (xO l i).due), (97, avI (xO l i).due), (5, .v (.slice (some ⟨gr, 0, none⟩) l.length cap)), (73, (iO 4 [avS (xO l i).product, avS (xO l i).product, avS ⟨#[122, 122]⟩, avS ⟨#[]⟩])), (80, (iO 3 [avI (xO l i).count, avI 0, avI 100001])), (98, (iO 3 [avI (xO l i).due, avI (xO l i).due, avI 345686400000]))], [.box gr ⟨rowL l, 89, cap * 5⟩], k + 1 + 4 * q + 1 + 1⟩ := by
          rw [hF]
          refine VA.all (rs := [14, 39]) (by decide +kernel) (by decide) ?_
          refine ⟨⟨_, rfl, .inl rfl, ?_⟩, ⟨_, rfl, .inl rfl, ?_⟩, trivial⟩
          ·
            refine OpE.buildSlice (zc := #[.string ⟨#[]⟩, .string ⟨#[]⟩, .string ⟨#[]⟩, .string ⟨#[]⟩]) rfl hB rfl Tryz.underlying67 Tryz.sizeOf9 Tryz.zeroValue9 (by decide) (by decide) (by kernel_rfl) rfl rfl ?_
            have hh := hS28 
            rw [hF] at hh
            exact VA.to hh (by decide +kernel) (Le.mk hB [0] ⟨rfl, rfl, rfl, rfl, rfl, rfl, rfl, rfl, rfl, rfl, rfl, rfl, rfl, rfl, rfl, rfl, rfl, rfl, rfl, rfl, rfl, rfl, rfl, rfl, trivial⟩ rfl rfl (Nat.le_refl _))
          ·
            refine OpE.buildSlice (zc := #[.int .i64 0, .int .i64 0, .int .i64 0]) rfl hB rfl Tryz.underlying22 Tryz.sizeOf3 Tryz.zeroValue3 (by decide) (by decide) (by kernel_rfl) rfl rfl ?_
            have hh := hS31 
            rw [hF] at hh
            exact VA.to hh (by decide +kernel) (Le.mk hB [0] ⟨rfl, rfl, rfl, rfl, rfl, rfl, rfl, rfl, rfl, rfl, rfl, rfl, rfl, rfl, rfl, rfl, rfl, rfl, rfl, rfl, rfl, rfl, rfl, rfl, trivial⟩ rfl rfl (Nat.le_refl _))
        have hS44 : F 22 (lstB 67 [0, 1, 2, 3, 4, 5, 6, 7, 8, 9, 10, 11, 12, 13, 16, 17, 18, 19, 20, 21, 22, 23, 24, 25, 27, 28, 29, 30, 31, 34, 35, 36, 37, 38, 39, 41, 42, 43, 44, 45, 46, 47, 48, 49, 50]) ⟨[(0, sp p), (53, sp p), (64, sp p), (75, sp p), (82, sp p), (89, sp p), (48, (pO gr (0 + i * 5))), (49, (pO gr (0 + i * 5))), (50, (pO gr (0 + i * 5))), (51, (pO gr (0 + i * 5))), (52, (pO gr (0 + i * 5))), (57, avS (xO l i).key), (61, avS (xO l i).key), (68, avS (xO l i).product), (72, avS (xO l i).product), (79, avI (xO l i).count), (86, avI (xO l i).ready), (93, avI (xO l i).due), (97, avI (xO l i).due), (5, .v (.slice (some ⟨gr, 0, none⟩) l.length cap)), (73, (iO 4 [avS (xO l i).product, avS (xO l i).product, avS ⟨#[122, 122]⟩, avS ⟨#[]⟩])), (87, (iO 3 [avI (xO l i).ready, avI (-1), avI 345686400000])), (98, (iO 3 [avI (xO l i).due, avI (xO l i).due, avI 345686400000]))], [.box gr ⟨rowL l, 89, cap * 5⟩], k + 1 + 4 * q + 1 + 1⟩ := by
          rw [hF]
          refine VA.all (rs := [14, 32]) (by decide +kernel) (by decide) ?_
          refine ⟨⟨_, rfl, .inl rfl, ?_⟩, ⟨_, rfl, .inl rfl, ?_⟩, trivial⟩
          ·
            refine OpE.buildSlice (zc := #[.string ⟨#[]⟩, .string ⟨#[]⟩, .string ⟨#[]⟩, .string ⟨#[]⟩]) rfl hB rfl Tryz.underlying67 Tryz.sizeOf9 Tryz.zeroValue9 (by decide) (by decide) (by kernel_rfl) rfl rfl ?_
            have hh := hS29 
            rw [hF] at hh
            exact VA.to hh (by decide +kernel) (Le.mk hB [0] ⟨rfl, rfl, rfl, rfl, rfl, rfl, rfl, rfl, rfl, rfl, rfl, rfl, rfl, rfl, rfl, rfl, rfl, rfl, rfl, rfl, rfl, rfl, rfl, rfl, trivial⟩ rfl rfl (Nat.le_refl _))
          ·
            refine OpE.buildSlice (zc := #[.int .i64 0, .int .i64 0, .int .i64 0]) rfl hB rfl Tryz.underlying22 Tryz.sizeOf3 Tryz.zeroValue3 (by decide) (by decide) (by kernel_rfl) rfl rfl ?_
            have hh := hS31 
            rw [hF] at hh
            exact VA.to hh (by decide +kernel) (Le.mk hB [0] ⟨rfl, rfl, rfl, rfl, rfl, rfl, rfl, rfl, rfl, rfl, rfl, rfl, rfl, rfl, rfl, rfl, rfl, rfl, rfl, rfl, rfl, rfl, rfl, rfl, trivial⟩ rfl rfl (Nat.le_refl _))
        have hS45 : F 22 (lstB 67 [0, 1, 2, 3, 4, 5, 6, 7, 8, 9, 10, 11, 12, 13, 16, 17, 18, 19, 20, 21, 22, 23, 24, 27, 28, 29, 30, 31, 32, 34, 35, 36, 37, 38, 39, 41, 42, 43, 44, 45, 46, 47, 48, 49, 50]) ⟨[(0, sp p), (53, sp p), (64, sp p), (75, sp p), (82, sp p), (89, sp p), (48, (pO gr (0 + i * 5))), (49, (pO gr (0 + i * 5))), (50, (pO gr (0 + i * 5))), (51, (pO gr (0 + i * 5))), (52, (pO gr (0 + i * 5))), (57, avS (xO l i).key), (61, avS (xO l i).key), (68, avS (xO l i).product), (72, avS (xO l i).product), (79, avI (xO l i).count), (86, avI (xO l i).ready), (93, avI (xO l i).due), (97, avI (xO l i).due), (5, .v (.slice (some ⟨gr, 0, none⟩) l.length cap)), (80, (iO 3 [avI (xO l i).count, avI 0, avI 100001])), (87, (iO 3 [avI (xO l i).ready, avI (-1), avI 345686400000])), (98, (iO 3 [avI (xO l i).due, avI (xO l i).due, avI 345686400000]))], [.box gr ⟨rowL l, 89, cap * 5⟩], k + 1 + 4 * q + 1 + 1⟩ := by
          rw [hF]
          refine VA.all (rs := [14, 25]) (by decide +kernel) (by decide) ?_
          refine ⟨⟨_, rfl, .inl rfl, ?_⟩, ⟨_, rfl, .inl rfl, ?_⟩, trivial⟩
          ·
            refine OpE.buildSlice (zc := #[.string ⟨#[]⟩, .string ⟨#[]⟩, .string ⟨#[]⟩, .string ⟨#[]⟩]) rfl hB rfl Tryz.underlying67 Tryz.sizeOf9 Tryz.zeroValue9 (by decide) (by decide) (by kernel_rfl) rfl rfl ?_
            have hh := hS30 
            rw [hF] at hh
            exact VA.to hh (by decide +kernel) (Le.mk hB [0] ⟨rfl, rfl, rfl, rfl, rfl, rfl, rfl, rfl, rfl, rfl, rfl, rfl, rfl, rfl, rfl, rfl, rfl, rfl, rfl, rfl, rfl, rfl, rfl, rfl, trivial⟩ rfl rfl (Nat.le_refl _))
          ·
            refine OpE.buildSlice (zc := #[.string ⟨#[]⟩, .string ⟨#[]⟩, .string ⟨#[]⟩, .string ⟨#[]⟩]) rfl hB rfl Tryz.underlying67 Tryz.sizeOf9 Tryz.zeroValue9 (by decide) (by decide) (by kernel_rfl) rfl rfl ?_
            have hh := hS31 
            rw [hF] at hh
            exact VA.to hh (by decide +kernel) (Le.mk hB [0] ⟨rfl, rfl, rfl, rfl, rfl, rfl, rfl, rfl, rfl, rfl, rfl, rfl, rfl, rfl, rfl, rfl, rfl, rfl, rfl, rfl, rfl, rfl, rfl, rfl, trivial⟩ rfl rfl (Nat.le_refl _))
        have hS46 : ∀ (r63 : ByteArray) (hr63 : r63.size ≤ 1000 ∧ r63 ≠ ozK), F 23 (lstB 67 [0, 1, 2, 3, 4, 5, 6, 7, 8, 9, 10, 11, 12, 13, 14, 15, 16, 17, 18, 19, 20, 21, 22, 23, 24, 27, 28, 29, 30, 31, 34, 35, 36, 37, 38, 41, 42, 43, 44, 45, 46, 47, 48, 49]) ⟨[(0, sp p), (53, sp p), (64, sp p), (75, sp p), (82, sp p), (89, sp p), (48, (pO gr (0 + i * 5))), (49, (pO gr (0 + i * 5))), (50, (pO gr (0 + i * 5))), (51, (pO gr (0 + i * 5))), (52, (pO gr (0 + i * 5))), (57, avS (xO l i).key), (61, avS (xO l i).key), (68, avS (xO l i).product), (72, avS (xO l i).product), (79, avI (xO l i).count), (86, avI (xO l i).ready), (93, avI (xO l i).due), (97, avI (xO l i).due), (5, .v (.slice (some ⟨gr, 0, none⟩) l.length cap)), (62, (iO 4 [avS (xO l i).key, avS (xO l i).key, avS ⟨#[]⟩, avS ⟨#[111, 97]⟩])), (63, avS r63)], [.box gr ⟨rowL l, 89, cap * 5⟩], k + 1 + 4 * q + 1 + 1 + 1⟩ := by
          intro r63 hr63
          rw [hF]
          refine VA.all (rs := [25, 32, 39, 50]) (by decide +kernel) (by decide) ?_
          refine ⟨⟨_, rfl, .inl rfl, ?_⟩, ⟨_, rfl, .inl rfl, ?_⟩, ⟨_, rfl, .inl rfl, ?_⟩, ⟨_, rfl, .inl rfl, ?_⟩, trivial⟩
          ·
            refine OpE.buildSlice (zc := #[.string ⟨#[]⟩, .string ⟨#[]⟩, .string ⟨#[]⟩, .string ⟨#[]⟩]) rfl hB rfl Tryz.underlying67 Tryz.sizeOf9 Tryz.zeroValue9 (by decide) (by decide) (by kernel_rfl) rfl rfl ?_
            have hh := hS32 r63 hr63
            rw [hF] at hh
            exact VA.to hh (by decide +kernel) (Le.mk hB [0] ⟨rfl, rfl, rfl, rfl, rfl, rfl, rfl, rfl, rfl, rfl, rfl, rfl, rfl, rfl, rfl, rfl, rfl, rfl, rfl, rfl, rfl, rfl, rfl, trivial⟩ rfl rfl (Nat.le_refl _))
          ·
            refine OpE.buildSlice (zc := #[.int .i64 0, .int .i64 0, .int .i64 0]) rfl hB rfl Tryz.underlying22 Tryz.sizeOf3 Tryz.zeroValue3 (by decide) (by decide) (by kernel_rfl) rfl rfl ?_
            have hh := hS33 r63 hr63
            rw [hF] at hh
            exact VA.to hh (by decide +kernel) (Le.mk hB [0] ⟨rfl, rfl, rfl, rfl, rfl, rfl, rfl, rfl, rfl, rfl, rfl, rfl, rfl, rfl, rfl, rfl, rfl, rfl, rfl, rfl, rfl, rfl, rfl, trivial⟩ rfl rfl (Nat.le_refl _))
          ·
            refine OpE.buildSlice (zc := #[.int .i64 0, .int .i64 0, .int .i64 0]) rfl hB rfl Tryz.underlying22 Tryz.sizeOf3 Tryz.zeroValue3 (by decide) (by decide) (by kernel_rfl) rfl rfl ?_
            have hh := hS34 r63 hr63
            rw [hF] at hh
            exact VA.to hh (by decide +kernel) (Le.mk hB [0] ⟨rfl, rfl, rfl, rfl, rfl, rfl, rfl, rfl, rfl, rfl, rfl, rfl, rfl, rfl, rfl, rfl, rfl, rfl, rfl, rfl, rfl, rfl, rfl, trivial⟩ rfl rfl (Nat.le_refl _))
          ·
            refine OpE.buildSlice (zc := #[.int .i64 0, .int .i64 0, .int .i64 0]) rfl hB rfl Tryz.underlying22 Tryz.sizeOf3 Tryz.zeroValue3 (by decide) (by decide) (by kernel_rfl) rfl rfl ?_
            have hh := hS35 r63 hr63
            rw [hF] at hh
            exact VA.to hh (by decide +kernel) (Le.mk hB [0] ⟨rfl, rfl, rfl, rfl, rfl, rfl, rfl, rfl, rfl, rfl, rfl, rfl, rfl, rfl, rfl, rfl, rfl, rfl, rfl, rfl, rfl, rfl, rfl, trivial⟩ rfl rfl (Nat.le_refl _))
        have hS47 : F 23 (lstB 67 [0, 1, 2, 3, 4, 5, 6, 7, 8, 9, 10, 11, 12, 13, 14, 16, 17, 18, 19, 20, 21, 22, 23, 24, 25, 27, 28, 29, 30, 31, 34, 35, 36, 37, 38, 41, 42, 43, 44, 45, 46, 47, 48, 49]) ⟨[(0, sp p), (53, sp p), (64, sp p), (75, sp p), (82, sp p), (89, sp p), (48, (pO gr (0 + i * 5))), (49, (pO gr (0 + i * 5))), (50, (pO gr (0 + i * 5))), (51, (pO gr (0 + i * 5))), (52, (pO gr (0 + i * 5))), (57, avS (xO l i).key), (61, avS (xO l i).key), (68, avS (xO l i).product), (72, avS (xO l i).product), (79, avI (xO l i).count), (86, avI (xO l i).ready), (93, avI (xO l i).due), (97, avI (xO l i).due), (5, .v (.slice (some ⟨gr, 0, none⟩) l.length cap)), (62, (iO 4 [avS (xO l i).key, avS (xO l i).key, avS ⟨#[]⟩, avS ⟨#[111, 97]⟩])), (73, (iO 4 [avS (xO l i).product, avS (xO l i).product, avS ⟨#[122, 122]⟩, avS ⟨#[]⟩]))], [.box gr ⟨rowL l, 89, cap * 5⟩], k + 1 + 4 * q + 1 + 1⟩ := by
          rw [hF]
          refine VA.all (rs := [15, 32, 39, 50]) (by decide +kernel) (by decide) ?_
          refine ⟨⟨_, rfl, .inl rfl, ?_⟩, ⟨_, rfl, .inl rfl, ?_⟩, ⟨_, rfl, .inl rfl, ?_⟩, ⟨_, rfl, .inl rfl, ?_⟩, trivial⟩
          ·
            refine OpE.callT' (k + 1 + 4 * q + 1 + 1) rfl rfl hB rfl Tryz.call16 rfl (some_Q (by rfl) (by decide) (by decide) (AllQ.cons ⟨(hok.getD i).1, (hok.getD i).2.2⟩ (AllQ.cons ⟨(hok.getD i).1, (hok.getD i).2.2⟩ (AllQ.cons (by decide) (AllQ.cons (by decide) AllQ.nil))))) (by omega) ?_
            rintro _ ⟨r63, hr63, rfl⟩
            have hh := hS32 r63 hr63
            rw [hF] at hh
            exact VA.to hh (by decide +kernel) (Le.mk hB [0] ⟨rfl, rfl, rfl, rfl, rfl, rfl, rfl, rfl, rfl, rfl, rfl, rfl, rfl, rfl, rfl, rfl, rfl, rfl, rfl, rfl, rfl, rfl, rfl, trivial⟩ rfl rfl (Nat.le_refl _))
          ·
            refine OpE.buildSlice (zc := #[.int .i64 0, .int .i64 0, .int .i64 0]) rfl hB rfl Tryz.underlying22 Tryz.sizeOf3 Tryz.zeroValue3 (by decide) (by decide) (by kernel_rfl) rfl rfl ?_
            have hh := hS36 
            rw [hF] at hh
            exact VA.to hh (by decide +kernel) (Le.mk hB [0] ⟨rfl, rfl, rfl, rfl, rfl, rfl, rfl, rfl, rfl, rfl, rfl, rfl, rfl, rfl, rfl, rfl, rfl, rfl, rfl, rfl, rfl, rfl, rfl, trivial⟩ rfl rfl (Nat.le_refl _))
          ·
            refine OpE.buildSlice (zc := #[.int .i64 0, .int .i64 0, .int .i64 0]) rfl hB rfl Tryz.underlying22 Tryz.sizeOf3 Tryz.zeroValue3 (by decide) (by decide) (by kernel_rfl) rfl rfl ?_
            have hh := hS37 
            rw [hF] at hh
            exact VA.to hh (by decide +kernel) (Le.mk hB [0] ⟨rfl, rfl, rfl, rfl, rfl, rfl, rfl, rfl, rfl, rfl, rfl, rfl, rfl, rfl, rfl, rfl, rfl, rfl, rfl, rfl, rfl, rfl, rfl, trivial⟩ rfl rfl (Nat.le_refl _))
          ·
            refine OpE.buildSlice (zc := #[.int .i64 0, .int .i64 0, .int .i64 0]) rfl hB rfl Tryz.underlying22 Tryz.sizeOf3 Tryz.zeroValue3 (by decide) (by decide) (by kernel_rfl) rfl rfl ?_
            have hh := hS38 
            rw [hF] at hh
            exact VA.to hh (by decide +kernel) (Le.mk hB [0] ⟨rfl, rfl, rfl, rfl, rfl, rfl, rfl, rfl, rfl, rfl, rfl, rfl, rfl, rfl, rfl, rfl, rfl, rfl, rfl, rfl, rfl, rfl, rfl, trivial⟩ rfl rfl (Nat.le_refl _))
        have hS48 : F 23 (lstB 67 [0, 1, 2, 3, 4, 5, 6, 7, 8, 9, 10, 11, 12, 13, 14, 16, 17, 18, 19, 20, 21, 22, 23, 24, 27, 28, 29, 30, 31, 32, 34, 35, 36, 37, 38, 41, 42, 43, 44, 45, 46, 47, 48, 49]) ⟨[(0, sp p), (53, sp p), (64, sp p), (75, sp p), (82, sp p), (89, sp p), (48, (pO gr (0 + i * 5))), (49, (pO gr (0 + i * 5))), (50, (pO gr (0 + i * 5))), (51, (pO gr (0 + i * 5))), (52, (pO gr (0 + i * 5))), (57, avS (xO l i).key), (61, avS (xO l i).key), (68, avS (xO l i).product), (72, avS (xO l i).product), (79, avI (xO l i).count), (86, avI (xO l i).ready), (93, avI (xO l i).due), (97, avI (xO l i).due), (5, .v (.slice (some ⟨gr, 0, none⟩) l.length cap)), (62, (iO 4 [avS (xO l i).key, avS (xO l i).key, avS ⟨#[]⟩, avS ⟨#[111, 97]⟩])), (80, (iO 3 [avI (xO l i).count, avI 0, avI 100001]))], [.box gr ⟨rowL l, 89, cap * 5⟩], k + 1 + 4 * q + 1 + 1⟩ := by
          rw [hF]
          refine VA.all (rs := [15, 25, 39, 50]) (by decide +kernel) (by decide) ?_
          refine ⟨⟨_, rfl, .inl rfl, ?_⟩, ⟨_, rfl, .inl rfl, ?_⟩, ⟨_, rfl, .inl rfl, ?_⟩, ⟨_, rfl, .inl rfl, ?_⟩, trivial⟩
          ·
            refine OpE.callT' (k + 1 + 4 * q + 1 + 1) rfl rfl hB rfl Tryz.call16 rfl (some_Q (by rfl) (by decide) (by decide) (AllQ.cons ⟨(hok.getD i).1, (hok.getD i).2.2⟩ (AllQ.cons ⟨(hok.getD i).1, (hok.getD i).2.2⟩ (AllQ.cons (by decide) (AllQ.cons (by decide) AllQ.nil))))) (by omega) ?_
            rintro _ ⟨r63, hr63, rfl⟩
            have hh := hS33 r63 hr63
            rw [hF] at hh
            exact VA.to hh (by decide +kernel) (Le.mk hB [0] ⟨rfl, rfl, rfl, rfl, rfl, rfl, rfl, rfl, rfl, rfl, rfl, rfl, rfl, rfl, rfl, rfl, rfl, rfl, rfl, rfl, rfl, rfl, rfl, trivial⟩ rfl rfl (Nat.le_refl _))
          ·
            refine OpE.buildSlice (zc := #[.string ⟨#[]⟩, .string ⟨#[]⟩, .string ⟨#[]⟩, .string ⟨#[]⟩]) rfl hB rfl Tryz.underlying67 Tryz.sizeOf9 Tryz.zeroValue9 (by decide) (by decide) (by kernel_rfl) rfl rfl ?_
            have hh := hS36 
            rw [hF] at hh
            exact VA.to hh (by decide +kernel) (Le.mk hB [0] ⟨rfl, rfl, rfl, rfl, rfl, rfl, rfl, rfl, rfl, rfl, rfl, rfl, rfl, rfl, rfl, rfl, rfl, rfl, rfl, rfl, rfl, rfl, rfl, trivial⟩ rfl rfl (Nat.le_refl _))
          ·
            refine OpE.buildSlice (zc := #[.int .i64 0, .int .i64 0, .int .i64 0]) rfl hB rfl Tryz.underlying22 Tryz.sizeOf3 Tryz.zeroValue3 (by decide) (by decide) (by kernel_rfl) rfl rfl ?_
            have hh := hS39 
            rw [hF] at hh
            exact VA.to hh (by decide +kernel) (Le.mk hB [0] ⟨rfl, rfl, rfl, rfl, rfl, rfl, rfl, rfl, rfl, rfl, rfl, rfl, rfl, rfl, rfl, rfl, rfl, rfl, rfl, rfl, rfl, rfl, rfl, trivial⟩ rfl rfl (Nat.le_refl _))
          ·
            refine OpE.buildSlice (zc := #[.int .i64 0, .int .i64 0, .int .i64 0]) rfl hB rfl Tryz.underlying22 Tryz.sizeOf3 Tryz.zeroValue3 (by decide) (by decide) (by kernel_rfl) rfl rfl ?_
            have hh := hS40 
            rw [hF] at hh
            exact VA.to hh (by decide +kernel) (Le.mk hB [0] ⟨rfl, rfl, rfl, rfl, rfl, rfl, rfl, rfl, rfl, rfl, rfl, rfl, rfl, rfl, rfl, rfl, rfl, rfl, rfl, rfl, rfl, rfl, rfl, trivial⟩ rfl rfl (Nat.le_refl _))
        have hS49 : F 23 (lstB 67 [0, 1, 2, 3, 4, 5, 6, 7, 8, 9, 10, 11, 12, 13, 14, 16, 17, 18, 19, 20, 21, 22, 23, 24, 27, 28, 29, 30, 31, 34, 35, 36, 37, 38, 39, 41, 42, 43, 44, 45, 46, 47, 48, 49]) ⟨[(0, sp p), (53, sp p), (64, sp p), (75, sp p), (82, sp p), (89, sp p), (48, (pO gr (0 + i * 5))), (49, (pO gr (0 + i * 5))), (50, (pO gr (0 + i * 5))), (51, (pO gr (0 + i * 5))), (52, (pO gr (0 + i * 5))), (57, avS (xO l i).key), (61, avS (xO l i).key), (68, avS (xO l i).product), (72, avS (xO l i).product), (79, avI (xO l i).count), (86, avI (xO l i).ready), (93, avI (xO l i).due), (97, avI (xO l i).due), (5, .v (.slice (some ⟨gr, 0, none⟩) l.length cap)), (62, (iO 4 [avS (xO l i).key, avS (xO l i).key, avS ⟨#[]⟩, avS ⟨#[111, 97]⟩])), (87, (iO 3 [avI (xO l i).ready, avI (-1), avI 345686400000]))], [.box gr ⟨rowL l, 89, cap * 5⟩], k + 1 + 4 * q + 1 + 1⟩ := by
          rw [hF]
          refine VA.all (rs := [15, 25, 32, 50]) (by decide +kernel) (by decide) ?_
          refine ⟨⟨_, rfl, .inl rfl, ?_⟩, ⟨_, rfl, .inl rfl, ?_⟩, ⟨_, rfl, .inl rfl, ?_⟩, ⟨_, rfl, .inl rfl, ?_⟩, trivial⟩
          ·
            refine OpE.callT' (k + 1 + 4 * q + 1 + 1) rfl rfl hB rfl Tryz.call16 rfl (some_Q (by rfl) (by decide) (by decide) (AllQ.cons ⟨(hok.getD i).1, (hok.getD i).2.2⟩ (AllQ.cons ⟨(hok.getD i).1, (hok.getD i).2.2⟩ (AllQ.cons (by decide) (AllQ.cons (by decide) AllQ.nil))))) (by omega) ?_
            rintro _ ⟨r63, hr63, rfl⟩
            have hh := hS34 r63 hr63
            rw [hF] at hh
            exact VA.to hh (by decide +kernel) (Le.mk hB [0] ⟨rfl, rfl, rfl, rfl, rfl, rfl, rfl, rfl, rfl, rfl, rfl, rfl, rfl, rfl, rfl, rfl, rfl, rfl, rfl, rfl, rfl, rfl, rfl, trivial⟩ rfl rfl (Nat.le_refl _))
          ·
            refine OpE.buildSlice (zc := #[.string ⟨#[]⟩, .string ⟨#[]⟩, .string ⟨#[]⟩, .string ⟨#[]⟩]) rfl hB rfl Tryz.underlying67 Tryz.sizeOf9 Tryz.zeroValue9 (by decide) (by decide) (by kernel_rfl) rfl rfl ?_
            have hh := hS37 
            rw [hF] at hh
            exact VA.to hh (by decide +kernel) (Le.mk hB [0] ⟨rfl, rfl, rfl, rfl, rfl, rfl, rfl, rfl, rfl, rfl, rfl, rfl, rfl, rfl, rfl, rfl, rfl, rfl, rfl, rfl, rfl, rfl, rfl, trivial⟩ rfl rfl (Nat.le_refl _))
          ·
            refine OpE.buildSlice (zc := #[.int .i64 0, .int .i64 0, .int .i64 0]) rfl hB rfl Tryz.underlying22 Tryz.sizeOf3 Tryz.zeroValue3 (by decide) (by decide) (by kernel_rfl) rfl rfl ?_
            have hh := hS39 
            rw [hF] at hh
            exact VA.to hh (by decide +kernel) (Le.mk hB [0] ⟨rfl, rfl, rfl, rfl, rfl, rfl, rfl, rfl, rfl, rfl, rfl, rfl, rfl, rfl, rfl, rfl, rfl, rfl, rfl, rfl, rfl, rfl, rfl, trivial⟩ rfl rfl (Nat.le_refl _))
          ·
            refine OpE.buildSlice (zc := #[.int .i64 0, .int .i64 0, .int .i64 0]) rfl hB rfl Tryz.underlying22 Tryz.sizeOf3 Tryz.zeroValue3 (by decide) (by decide) (by kernel_rfl) rfl rfl ?_
            have hh := hS41 
            rw [hF] at hh
            exact VA.to hh (by decide +kernel) (Le.mk hB [0] ⟨rfl, rfl, rfl, rfl, rfl, rfl, rfl, rfl, rfl, rfl, rfl, rfl, rfl, rfl, rfl, rfl, rfl, rfl, rfl, rfl, rfl, rfl, rfl, trivial⟩ rfl rfl (Nat.le_refl _))
        have hS50 : F 23 (lstB 67 [0, 1, 2, 3, 4, 5, 6, 7, 8, 9, 10, 11, 12, 13, 14, 16, 17, 18, 19, 20, 21, 22, 23, 24, 27, 28, 29, 30, 31, 34, 35, 36, 37, 38, 41, 42, 43, 44, 45, 46, 47, 48, 49, 50]) ⟨[(0, sp p), (53, sp p), (64, sp p), (75, sp p), (82, sp p), (89, sp p), (48, (pO gr (0 + i * 5))), (49, (pO gr (0 + i * 5))), (50, (pO gr (0 + i * 5))), (51, (pO gr (0 + i * 5))), (52, (pO gr (0 + i * 5))), (57, avS (xO l i).key), (61, avS (xO l i).key), (68, avS (xO l i).product), (72, avS (xO l i).product), (79, avI (xO l i).count), (86, avI (xO l i).ready), (93, avI (xO l i).due), (97, avI (xO l i).due), (5, .v (.slice (some ⟨gr, 0, none⟩) l.length cap)), (62, (iO 4 [avS (xO l i).key, avS (xO l i).key, avS ⟨#[]⟩, avS ⟨#[111, 97]⟩])), (98, (iO 3 [avI (xO l i).due, avI (xO l i).due, avI 345686400000]))], [.box gr ⟨rowL l, 89, cap * 5⟩], k + 1 + 4 * q + 1 + 1⟩ := by
          rw [hF]
          refine VA.all (rs := [15, 25, 32, 39]) (by decide +kernel) (by decide) ?_
          refine ⟨⟨_, rfl, .inl rfl, ?_⟩, ⟨_, rfl, .inl rfl, ?_⟩, ⟨_, rfl, .inl rfl, ?_⟩, ⟨_, rfl, .inl rfl, ?_⟩, trivial⟩
          ·
            refine OpE.callT' (k + 1 + 4 * q + 1 + 1) rfl rfl hB rfl Tryz.call16 rfl (some_Q (by rfl) (by decide) (by decide) (AllQ.cons ⟨(hok.getD i).1, (hok.getD i).2.2⟩ (AllQ.cons ⟨(hok.getD i).1, (hok.getD i).2.2⟩ (AllQ.cons (by decide) (AllQ.cons (by decide) AllQ.nil))))) (by omega) ?_
            rintro _ ⟨r63, hr63, rfl⟩
            have hh := hS35 r63 hr63
            rw [hF] at hh
            exact VA.to hh (by decide +kernel) (Le.mk hB [0] ⟨rfl, rfl, rfl, rfl, rfl, rfl, rfl, rfl, rfl, rfl, rfl, rfl, rfl, rfl, rfl, rfl, rfl, rfl, rfl, rfl, rfl, rfl, rfl, trivial⟩ rfl rfl (Nat.le_refl _))
          ·
            refine OpE.buildSlice (zc := #[.string ⟨#[]⟩, .string ⟨#[]⟩, .string ⟨#[]⟩, .string ⟨#[]⟩]) rfl hB rfl Tryz.underlying67 Tryz.sizeOf9 Tryz.zeroValue9 (by decide) (by decide) (by kernel_rfl) rfl rfl ?_
            have hh := hS38 
            rw [hF] at hh
            exact VA.to hh (by decide +kernel) (Le.mk hB [0] ⟨rfl, rfl, rfl, rfl, rfl, rfl, rfl, rfl, rfl, rfl, rfl, rfl, rfl, rfl, rfl, rfl, rfl, rfl, rfl, rfl, rfl, rfl, rfl, trivial⟩ rfl rfl (Nat.le_refl _))
          ·
            refine OpE.buildSlice (zc := #[.int .i64 0, .int .i64 0, .int .i64 0]) rfl hB rfl Tryz.underlying22 Tryz.sizeOf3 Tryz.zeroValue3 (by decide) (by decide) (by kernel_rfl) rfl rfl ?_
            have hh := hS40 
            rw [hF] at hh
            exact VA.to hh (by decide +kernel) (Le.mk hB [0] ⟨rfl, rfl, rfl, rfl, rfl, rfl, rfl, rfl, rfl, rfl, rfl, rfl, rfl, rfl, rfl, rfl, rfl, rfl, rfl, rfl, rfl, rfl, rfl, trivial⟩ rfl rfl (Nat.le_refl _))
          ·
            refine OpE.buildSlice (zc := #[.int .i64 0, .int .i64 0, .int .i64 0]) rfl hB rfl Tryz.underlying22 Tryz.sizeOf3 Tryz.zeroValue3 (by decide) (by decide) (by kernel_rfl) rfl rfl ?_
            have hh := hS41 
            rw [hF] at hh
            exact VA.to hh (by decide +kernel) (Le.mk hB [0] ⟨rfl, rfl, rfl, rfl, rfl, rfl, rfl, rfl, rfl, rfl, rfl, rfl, rfl, rfl, rfl, rfl, rfl, rfl, rfl, rfl, rfl, rfl, rfl, trivial⟩ rfl rfl (Nat.le_refl _))
        have hS51 : F 23 (lstB 67 [0, 1, 2, 3, 4, 5, 6, 7, 8, 9, 10, 11, 12, 13, 16, 17, 18, 19, 20, 21, 22, 23, 24, 25, 27, 28, 29, 30, 31, 32, 34, 35, 36, 37, 38, 41, 42, 43, 44, 45, 46, 47, 48, 49]) ⟨[(0, sp p), (53, sp p), (64, sp p), (75, sp p), (82, sp p), (89, sp p), (48, (pO gr (0 + i * 5))), (49, (pO gr (0 + i * 5))), (50, (pO gr (0 + i * 5))), (51, (pO gr (0 + i * 5))), (52, (pO gr (0 + i * 5))), (57, avS (xO l i).key), (61, avS (xO l i).key), (68, avS (xO l i).product), (72, avS (xO l i).product), (79, avI (xO l i).count), (86, avI (xO l i).ready), (93, avI (xO l i).due), (97, avI (xO l i).due), (5, .v (.slice (some ⟨gr, 0, none⟩) l.length cap)), (73, (iO 4 [avS (xO l i).product, avS (xO l i).product, avS ⟨#[122, 122]⟩, avS ⟨#[]⟩])), (80, (iO 3 [avI (xO l i).count, avI 0, avI 100001]))], [.box gr ⟨rowL l, 89, cap * 5⟩], k + 1 + 4 * q + 1 + 1⟩ := by
          rw [hF]
          refine VA.all (rs := [14, 39, 50]) (by decide +kernel) (by decide) ?_
          refine ⟨⟨_, rfl, .inl rfl, ?_⟩, ⟨_, rfl, .inl rfl, ?_⟩, ⟨_, rfl, .inl rfl, ?_⟩, trivial⟩
          ·
            refine OpE.buildSlice (zc := #[.string ⟨#[]⟩, .string ⟨#[]⟩, .string ⟨#[]⟩, .string ⟨#[]⟩]) rfl hB rfl Tryz.underlying67 Tryz.sizeOf9 Tryz.zeroValue9 (by decide) (by decide) (by kernel_rfl) rfl rfl ?_
            have hh := hS36 
            rw [hF] at hh
            exact VA.to hh (by decide +kernel) (Le.mk hB [0] ⟨rfl, rfl, rfl, rfl, rfl, rfl, rfl, rfl, rfl, rfl, rfl, rfl, rfl, rfl, rfl, rfl, rfl, rfl, rfl, rfl, rfl, rfl, rfl, trivial⟩ rfl rfl (Nat.le_refl _))
          ·
            refine OpE.buildSlice (zc := #[.int .i64 0, .int .i64 0, .int .i64 0]) rfl hB rfl Tryz.underlying22 Tryz.sizeOf3 Tryz.zeroValue3 (by decide) (by decide) (by kernel_rfl) rfl rfl ?_
            have hh := hS42 
            rw [hF] at hh
            exact VA.to hh (by decide +kernel) (Le.mk hB [0] ⟨rfl, rfl, rfl, rfl, rfl, rfl, rfl, rfl, rfl, rfl, rfl, rfl, rfl, rfl, rfl, rfl, rfl, rfl, rfl, rfl, rfl, rfl, rfl, trivial⟩ rfl rfl (Nat.le_refl _))
          ·
            refine OpE.buildSlice (zc := #[.int .i64 0, .int .i64 0, .int .i64 0]) rfl hB rfl Tryz.underlying22 Tryz.sizeOf3 Tryz.zeroValue3 (by decide) (by decide) (by kernel_rfl) rfl rfl ?_
            have hh := hS43 
            rw [hF] at hh
            exact VA.to hh (by decide +kernel) (Le.mk hB [0] ⟨rfl, rfl, rfl, rfl, rfl, rfl, rfl, rfl, rfl, rfl, rfl, rfl, rfl, rfl, rfl, rfl, rfl, rfl, rfl, rfl, rfl, rfl, rfl, trivial⟩ rfl rfl (Nat.le_refl _))
        have hS52 : F 23 (lstB 67 [0, 1, 2, 3, 4, 5, 6, 7, 8, 9, 10, 11, 12, 13, 16, 17, 18, 19, 20, 21, 22, 23, 24, 25, 27, 28, 29, 30, 31, 34, 35, 36, 37, 38, 39, 41, 42, 43, 44, 45, 46, 47, 48, 49]) ⟨[(0, sp p), (53, sp p), (64, sp p), (75, sp p), (82, sp p), (89, sp p), (48, (pO gr (0 + i * 5))), (49, (pO gr (0 + i * 5))), (50, (pO gr (0 + i * 5))), (51, (pO gr (0 + i * 5))), (52, (pO gr (0 + i * 5))), (57, avS (xO l i).key), (61, avS (xO l i).key), (68, avS (xO l i).product), (72, avS (xO l i).product), (79, avI (xO l i).count), (86, avI (xO l i).ready), (93, avI (xO l i).due), (97, avI (xO l i).due), (5, .v (.slice (some ⟨gr, 0, none⟩) l.length cap)), (73, (iO 4 [avS (xO l i).product, avS (xO l i).product, avS ⟨#[122, 122]⟩, avS ⟨#[]⟩])), (87, (iO 3 [avI (xO l i).ready, avI (-1), avI 345686400000]))], [.box gr ⟨rowL l, 89, cap * 5⟩], k + 1 + 4 * q + 1 + 1⟩ := by
          rw [hF]
          refine VA.all (rs := [14, 32, 50]) (by decide +kernel) (by decide) ?_
          refine ⟨⟨_, rfl, .inl rfl, ?_⟩, ⟨_, rfl, .inl rfl, ?_⟩, ⟨_, rfl, .inl rfl, ?_⟩, trivial⟩
          ·
            refine OpE.buildSlice (zc := #[.string ⟨#[]⟩, .string ⟨#[]⟩, .string ⟨#[]⟩, .string ⟨#[]⟩]) rfl hB rfl Tryz.underlying67 Tryz.sizeOf9 Tryz.zeroValue9 (by decide) (by decide) (by kernel_rfl) rfl rfl ?_
            have hh := hS37 
            rw [hF] at hh
            exact VA.to hh (by decide +kernel) (Le.mk hB [0] ⟨rfl, rfl, rfl, rfl, rfl, rfl, rfl, rfl, rfl, rfl, rfl, rfl, rfl, rfl, rfl, rfl, rfl, rfl, rfl, rfl, rfl, rfl, rfl, trivial⟩ rfl rfl (Nat.le_refl _))
          ·
            refine OpE.buildSlice (zc := #[.int .i64 0, .int .i64 0, .int .i64 0]) rfl hB rfl Tryz.underlying22 Tryz.sizeOf3 Tryz.zeroValue3 (by decide) (by decide) (by kernel_rfl) rfl rfl ?_
            have hh := hS42 
            rw [hF] at hh
            exact VA.to hh (by decide +kernel) (Le.mk hB [0] ⟨rfl, rfl, rfl, rfl, rfl, rfl, rfl, rfl, rfl, rfl, rfl, rfl, rfl, rfl, rfl, rfl, rfl, rfl, rfl, rfl, rfl, rfl, rfl, trivial⟩ rfl rfl (Nat.le_refl _))
          ·
            refine OpE.buildSlice (zc := #[.int .i64 0, .int .i64 0, .int .i64 0]) rfl hB rfl Tryz.underlying22 Tryz.sizeOf3 Tryz.zeroValue3 (by decide) (by decide) (by kernel_rfl) rfl rfl ?_
            have hh := hS44 
            rw [hF] at hh
            exact VA.to hh (by decide +kernel) (Le.mk hB [0] ⟨rfl, rfl, rfl, rfl, rfl, rfl, rfl, rfl, rfl, rfl, rfl, rfl, rfl, rfl, rfl, rfl, rfl, rfl, rfl, rfl, rfl, rfl, rfl, trivial⟩ rfl rfl (Nat.le_refl _))
        have hS53 : F 23 (lstB 67 [0, 1, 2, 3, 4, 5, 6, 7, 8, 9, 10, 11, 12, 13, 16, 17, 18, 19, 20, 21, 22, 23, 24, 25, 27, 28, 29, 30, 31, 34, 35, 36, 37, 38, 41, 42, 43, 44, 45, 46, 47, 48, 49, 50]) ⟨[(0, sp p), (53, sp p), (64, sp p), (75, sp p), (82, sp p), (89, sp p), (48, (pO gr (0 + i * 5))), (49, (pO gr (0 + i * 5))), (50, (pO gr (0 + i * 5))), (51, (pO gr (0 + i * 5))), (52, (pO gr (0 + i * 5))), (57, avS (xO l i).key), (61, avS (xO l i).key), (68, avS (xO l i).product), (72, avS (xO l i).product), (79, avI (xO l i).count), (86, avI (xO l i).ready), (93, avI (xO l i).due), (97, avI (xO l i).due), (5, .v (.slice (some ⟨gr, 0, none⟩) l.length cap)), (73, (iO 4 [avS (xO l i).product, avS (xO l i).product, avS ⟨#[122, 122]⟩, avS ⟨#[]⟩])), (98, (iO 3 [avI (xO l i).due, avI (xO l i).due, avI 345686400000]))], [.box gr ⟨rowL l, 89, cap * 5⟩], k + 1 + 4 * q + 1 + 1⟩ := by
          rw [hF]
          refine VA.all (rs := [14, 32, 39]) (by decide +kernel) (by decide) ?_
          refine ⟨⟨_, rfl, .inl rfl, ?_⟩, ⟨_, rfl, .inl rfl, ?_⟩, ⟨_, rfl, .inl rfl, ?_⟩, trivial⟩
          ·
            refine OpE.buildSlice (zc := #[.string ⟨#[]⟩, .string ⟨#[]⟩, .string ⟨#[]⟩, .string ⟨#[]⟩]) rfl hB rfl Tryz.underlying67 Tryz.sizeOf9 Tryz.zeroValue9 (by decide) (by decide) (by kernel_rfl) rfl rfl ?_
            have hh := hS38 
            rw [hF] at hh
            exact VA.to hh (by decide +kernel) (Le.mk hB [0] ⟨rfl, rfl, rfl, rfl, rfl, rfl, rfl, rfl, rfl, rfl, rfl, rfl, rfl, rfl, rfl, rfl, rfl, rfl, rfl, rfl, rfl, rfl, rfl, trivial⟩ rfl rfl (Nat.le_refl _))
          ·
            refine OpE.buildSlice (zc := #[.int .i64 0, .int .i64 0, .int .i64 0]) rfl hB rfl Tryz.underlying22 Tryz.sizeOf3 Tryz.zeroValue3 (by decide) (by decide) (by kernel_rfl) rfl rfl ?_
            have hh := hS43 
            rw [hF] at hh
            exact VA.to hh (by decide +kernel) (Le.mk hB [0] ⟨rfl, rfl, rfl, rfl, rfl, rfl, rfl, rfl, rfl, rfl, rfl, rfl, rfl, rfl, rfl, rfl, rfl, rfl, rfl, rfl, rfl, rfl, rfl, trivial⟩ rfl rfl (Nat.le_refl _))
          ·
            refine OpE.buildSlice (zc := #[.int .i64 0, .int .i64 0, .int .i64 0]) rfl hB rfl Tryz.underlying22 Tryz.sizeOf3 Tryz.zeroValue3 (by decide) (by decide) (by kernel_rfl) rfl rfl ?_
            have hh := hS44 
            rw [hF] at hh
            exact VA.to hh (by decide +kernel) (Le.mk hB [0] ⟨rfl, rfl, rfl, rfl, rfl, rfl, rfl, rfl, rfl, rfl, rfl, rfl, rfl, rfl, rfl, rfl, rfl, rfl, rfl, rfl, rfl, rfl, rfl, trivial⟩ rfl rfl (Nat.le_refl _))
        have hS54 : F 23 (lstB 67 [0, 1, 2, 3, 4, 5, 6, 7, 8, 9, 10, 11, 12, 13, 16, 17, 18, 19, 20, 21, 22, 23, 24, 27, 28, 29, 30, 31, 32, 34, 35, 36, 37, 38, 39, 41, 42, 43, 44, 45, 46, 47, 48, 49]) ⟨[(0, sp p), (53, sp p), (64, sp p), (75, sp p), (82, sp p), (89, sp p), (48, (pO gr (0 + i * 5))), (49, (pO gr (0 + i * 5))), (50, (pO gr (0 + i * 5))), (51, (pO gr (0 + i * 5))), (52, (pO gr (0 + i * 5))), (57, avS (xO l i).key), (61, avS (xO l i).key), (68, avS (xO l i).product), (72, avS (xO l i).product), (79, avI (xO l i).count), (86, avI (xO l i).ready), (93, avI (xO l i).due), (97, avI (xO l i).due), (5, .v (.slice (some ⟨gr, 0, none⟩) l.length cap)), (80, (iO 3 [avI (xO l i).count, avI 0, avI 100001])), (87, (iO 3 [avI (xO l i).ready, avI (-1), avI 345686400000]))], [.box gr ⟨rowL l, 89, cap * 5⟩], k + 1 + 4 * q + 1 + 1⟩ := by
          rw [hF]
          refine VA.all (rs := [14, 25, 50]) (by decide +kernel) (by decide) ?_
          refine ⟨⟨_, rfl, .inl rfl, ?_⟩, ⟨_, rfl, .inl rfl, ?_⟩, ⟨_, rfl, .inl rfl, ?_⟩, trivial⟩
          ·
            refine OpE.buildSlice (zc := #[.string ⟨#[]⟩, .string ⟨#[]⟩, .string ⟨#[]⟩, .string ⟨#[]⟩]) rfl hB rfl Tryz.underlying67 Tryz.sizeOf9 Tryz.zeroValue9 (by decide) (by decide) (by kernel_rfl) rfl rfl ?_
            have hh := hS39 
            rw [hF] at hh
            exact VA.to hh (by decide +kernel) (Le.mk hB [0] ⟨rfl, rfl, rfl, rfl, rfl, rfl, rfl, rfl, rfl, rfl, rfl, rfl, rfl, rfl, rfl, rfl, rfl, rfl, rfl, rfl, rfl, rfl, rfl, trivial⟩ rfl rfl (Nat.le_refl _))
          ·
            refine OpE.buildSlice (zc := #[.string ⟨#[]⟩, .string ⟨#[]⟩, .string ⟨#[]⟩, .string ⟨#[]⟩]) rfl hB rfl Tryz.underlying67 Tryz.sizeOf9 Tryz.zeroValue9 (by decide) (by decide) (by kernel_rfl) rfl rfl ?_
            have hh := hS42 
            rw [hF] at hh
            exact VA.to hh (by decide +kernel) (Le.mk hB [0] ⟨rfl, rfl, rfl, rfl, rfl, rfl, rfl, rfl, rfl, rfl, rfl, rfl, rfl, rfl, rfl, rfl, rfl, rfl, rfl, rfl, rfl, rfl, rfl, trivial⟩ rfl rfl (Nat.le_refl _))
          ·
            refine OpE.buildSlice (zc := #[.int .i64 0, .int .i64 0, .int .i64 0]) rfl hB rfl Tryz.underlying22 Tryz.sizeOf3 Tryz.zeroValue3 (by decide) (by decide) (by kernel_rfl) rfl rfl ?_
            have hh := hS45 
            rw [hF] at hh
            exact VA.to hh (by decide +kernel) (Le.mk hB [0] ⟨rfl, rfl, rfl, rfl, rfl, rfl, rfl, rfl, rfl, rfl, rfl, rfl, rfl, rfl, rfl, rfl, rfl, rfl, rfl, rfl, rfl, rfl, rfl, trivial⟩ rfl rfl (Nat.le_refl _))
        have hS55 : F 23 (lstB 67 [0, 1, 2, 3, 4, 5, 6, 7, 8, 9, 10, 11, 12, 13, 16, 17, 18, 19, 20, 21, 22, 23, 24, 27, 28, 29, 30, 31, 32, 34, 35, 36, 37, 38, 41, 42, 43, 44, 45, 46, 47, 48, 49, 50]) ⟨[(0, sp p), (53, sp p), (64, sp p), (75, sp p), (82, sp p), (89, sp p), (48, (pO gr (0 + i * 5))), (49, (pO gr (0 + i * 5))), (50, (pO gr (0 + i * 5))), (51, (pO gr (0 + i * 5))), (52, (pO gr (0 + i * 5))), (57, avS (xO l i).key), (61, avS (xO l i).key), (68, avS (xO l i).product), (72, avS (xO l i).product), (79, avI (xO l i).count), (86, avI (xO l i).ready), (93, avI (xO l i).due), (97, avI (xO l i).due), (5, .v (.slice (some ⟨gr, 0, none⟩) l.length cap)), (80, (iO 3 [avI (xO l i).count, avI 0, avI 100001])), (98, (iO 3 [avI (xO l i).due, avI (xO l i).due, avI 345686400000]))], [.box gr ⟨rowL l, 89, cap * 5⟩], k + 1 + 4 * q + 1 + 1⟩ := by
          rw [hF]
          refine VA.all (rs := [14, 25, 39]) (by decide +kernel) (by decide) ?_
          refine ⟨⟨_, rfl, .inl rfl, ?_⟩, ⟨_, rfl, .inl rfl, ?_⟩, ⟨_, rfl, .inl rfl, ?_⟩, trivial⟩
          ·
            refine OpE.buildSlice (zc := #[.string ⟨#[]⟩, .string ⟨#[]⟩, .string ⟨#[]⟩, .string ⟨#[]⟩]) rfl hB rfl Tryz.underlying67 Tryz.sizeOf9 Tryz.zeroValue9 (by decide) (by decide) (by kernel_rfl) rfl rfl ?_
            have hh := hS40 
            rw [hF] at hh
            exact VA.to hh (by decide +kernel) (Le.mk hB [0] ⟨rfl, rfl, rfl, rfl, rfl, rfl, rfl, rfl, rfl, rfl, rfl, rfl, rfl, rfl, rfl, rfl, rfl, rfl, rfl, rfl, rfl, rfl, rfl, trivial⟩ rfl rfl (Nat.le_refl _))
          ·
            refine OpE.buildSlice (zc := #[.string ⟨#[]⟩, .string ⟨#[]⟩, .string ⟨#[]⟩, .string ⟨#[]⟩]) rfl hB rfl Tryz.underlying67 Tryz.sizeOf9 Tryz.zeroValue9 (by decide) (by decide) (by kernel_rfl) rfl rfl ?_
            have hh := hS43 
            rw [hF] at hh
            exact VA.to hh (by decide +kernel) (Le.mk hB [0] ⟨rfl, rfl, rfl, rfl, rfl, rfl, rfl, rfl, rfl, rfl, rfl, rfl, rfl, rfl, rfl, rfl, rfl, rfl, rfl, rfl, rfl, rfl, rfl, trivial⟩ rfl rfl (Nat.le_refl _))
          ·
            refine OpE.buildSlice (zc := #[.int .i64 0, .int .i64 0, .int .i64 0]) rfl hB rfl Tryz.underlying22 Tryz.sizeOf3 Tryz.zeroValue3 (by decide) (by decide) (by kernel_rfl) rfl rfl ?_
            have hh := hS45 
            rw [hF] at hh
            exact VA.to hh (by decide +kernel) (Le.mk hB [0] ⟨rfl, rfl, rfl, rfl, rfl, rfl, rfl, rfl, rfl, rfl, rfl, rfl, rfl, rfl, rfl, rfl, rfl, rfl, rfl, rfl, rfl, rfl, rfl, trivial⟩ rfl rfl (Nat.le_refl _))
        have hS56 : F 23 (lstB 67 [0, 1, 2, 3, 4, 5, 6, 7, 8, 9, 10, 11, 12, 13, 16, 17, 18, 19, 20, 21, 22, 23, 24, 27, 28, 29, 30, 31, 34, 35, 36, 37, 38, 39, 41, 42, 43, 44, 45, 46, 47, 48, 49, 50]) ⟨[(0, sp p), (53, sp p), (64, sp p), (75, sp p), (82, sp p), (89, sp p), (48, (pO gr (0 + i * 5))), (49, (pO gr (0 + i * 5))), (50, (pO gr (0 + i * 5))), (51, (pO gr (0 + i * 5))), (52, (pO gr (0 + i * 5))), (57, avS (xO l i).key), (61, avS (xO l i).key), (68, avS (xO l i).product), (72, avS (xO l i).product), (79, avI (xO l i).count), (86, avI (xO l i).ready), (93, avI (xO l i).due), (97, avI (xO l i).due), (5, .v (.slice (some ⟨gr, 0, none⟩) l.length cap)), (87, (iO 3 [avI (xO l i).ready, avI (-1), avI 345686400000])), (98, (iO 3 [avI (xO l i).due, avI (xO l i).due, avI 345686400000]))], [.box gr ⟨rowL l, 89, cap * 5⟩], k + 1 + 4 * q + 1 + 1⟩ := by
          rw [hF]
          refine VA.all (rs := [14, 25, 32]) (by decide +kernel) (by decide) ?_
          refine ⟨⟨_, rfl, .inl rfl, ?_⟩, ⟨_, rfl, .inl rfl, ?_⟩, ⟨_, rfl, .inl rfl, ?_⟩, trivial⟩
          ·
            refine OpE.buildSlice (zc := #[.string ⟨#[]⟩, .string ⟨#[]⟩, .string ⟨#[]⟩, .string ⟨#[]⟩]) rfl hB rfl Tryz.underlying67 Tryz.sizeOf9 Tryz.zeroValue9 (by decide) (by decide) (by kernel_rfl) rfl rfl ?_
            have hh := hS41 
            rw [hF] at hh
            exact VA.to hh (by decide +kernel) (Le.mk hB [0] ⟨rfl, rfl, rfl, rfl, rfl, rfl, rfl, rfl, rfl, rfl, rfl, rfl, rfl, rfl, rfl, rfl, rfl, rfl, rfl, rfl, rfl, rfl, rfl, trivial⟩ rfl rfl (Nat.le_refl _))
          ·
            refine OpE.buildSlice (zc := #[.string ⟨#[]⟩, .string ⟨#[]⟩, .string ⟨#[]⟩, .string ⟨#[]⟩]) rfl hB rfl Tryz.underlying67 Tryz.sizeOf9 Tryz.zeroValue9 (by decide) (by decide) (by kernel_rfl) rfl rfl ?_
            have hh := hS44 
            rw [hF] at hh
            exact VA.to hh (by decide +kernel) (Le.mk hB [0] ⟨rfl, rfl, rfl, rfl, rfl, rfl, rfl, rfl, rfl, rfl, rfl, rfl, rfl, rfl, rfl, rfl, rfl, rfl, rfl, rfl, rfl, rfl, rfl, trivial⟩ rfl rfl (Nat.le_refl _))
          ·
            refine OpE.buildSlice (zc := #[.int .i64 0, .int .i64 0, .int .i64 0]) rfl hB rfl Tryz.underlying22 Tryz.sizeOf3 Tryz.zeroValue3 (by decide) (by decide) (by kernel_rfl) rfl rfl ?_
            have hh := hS45 
            rw [hF] at hh
            exact VA.to hh (by decide +kernel) (Le.mk hB [0] ⟨rfl, rfl, rfl, rfl, rfl, rfl, rfl, rfl, rfl, rfl, rfl, rfl, rfl, rfl, rfl, rfl, rfl, rfl, rfl, rfl, rfl, rfl, rfl, trivial⟩ rfl rfl (Nat.le_refl _))
        have hS57 : F 24 (lstB 67 [0, 1, 2, 3, 4, 5, 6, 7, 8, 9, 10, 11, 12, 13, 14, 16, 17, 18, 19, 20, 21, 22, 23, 24, 27, 28, 29, 30, 31, 34, 35, 36, 37, 38, 41, 42, 43, 44, 45, 46, 47, 48, 49]) ⟨[(0, sp p), (53, sp p), (64, sp p), (75, sp p), (82, sp p), (89, sp p), (48, (pO gr (0 + i * 5))), (49, (pO gr (0 + i * 5))), (50, (pO gr (0 + i * 5))), (51, (pO gr (0 + i * 5))), (52, (pO gr (0 + i * 5))), (57, avS (xO l i).key), (61, avS (xO l i).key), (68, avS (xO l i).product), (72, avS (xO l i).product), (79, avI (xO l i).count), (86, avI (xO l i).ready), (93, avI (xO l i).due), (97, avI (xO l i).due), (5, .v (.slice (some ⟨gr, 0, none⟩) l.length cap)), (62, (iO 4 [avS (xO l i).key, avS (xO l i).key, avS ⟨#[]⟩, avS ⟨#[111, 97]⟩]))], [.box gr ⟨rowL l, 89, cap * 5⟩], k + 1 + 4 * q + 1 + 1⟩ := by
          rw [hF]
          refine VA.all (rs := [15, 25, 32, 39, 50]) (by decide +kernel) (by decide) ?_
          refine ⟨⟨_, rfl, .inl rfl, ?_⟩, ⟨_, rfl, .inl rfl, ?_⟩, ⟨_, rfl, .inl rfl, ?_⟩, ⟨_, rfl, .inl rfl, ?_⟩, ⟨_, rfl, .inl rfl, ?_⟩, trivial⟩
          ·
            refine OpE.callT' (k + 1 + 4 * q + 1 + 1) rfl rfl hB rfl Tryz.call16 rfl (some_Q (by rfl) (by decide) (by decide) (AllQ.cons ⟨(hok.getD i).1, (hok.getD i).2.2⟩ (AllQ.cons ⟨(hok.getD i).1, (hok.getD i).2.2⟩ (AllQ.cons (by decide) (AllQ.cons (by decide) AllQ.nil))))) (by omega) ?_
            rintro _ ⟨r63, hr63, rfl⟩
            have hh := hS46 r63 hr63
            rw [hF] at hh
            exact VA.to hh (by decide +kernel) (Le.mk hB [0] ⟨rfl, rfl, rfl, rfl, rfl, rfl, rfl, rfl, rfl, rfl, rfl, rfl, rfl, rfl, rfl, rfl, rfl, rfl, rfl, rfl, rfl, rfl, trivial⟩ rfl rfl (Nat.le_refl _))
          ·
            refine OpE.buildSlice (zc := #[.string ⟨#[]⟩, .string ⟨#[]⟩, .string ⟨#[]⟩, .string ⟨#[]⟩]) rfl hB rfl Tryz.underlying67 Tryz.sizeOf9 Tryz.zeroValue9 (by decide) (by decide) (by kernel_rfl) rfl rfl ?_
            have hh := hS47 
            rw [hF] at hh
            exact VA.to hh (by decide +kernel) (Le.mk hB [0] ⟨rfl, rfl, rfl, rfl, rfl, rfl, rfl, rfl, rfl, rfl, rfl, rfl, rfl, rfl, rfl, rfl, rfl, rfl, rfl, rfl, rfl, rfl, trivial⟩ rfl rfl (Nat.le_refl _))
          ·
            refine OpE.buildSlice (zc := #[.int .i64 0, .int .i64 0, .int .i64 0]) rfl hB rfl Tryz.underlying22 Tryz.sizeOf3 Tryz.zeroValue3 (by decide) (by decide) (by kernel_rfl) rfl rfl ?_
            have hh := hS48 
            rw [hF] at hh
            exact VA.to hh (by decide +kernel) (Le.mk hB [0] ⟨rfl, rfl, rfl, rfl, rfl, rfl, rfl, rfl, rfl, rfl, rfl, rfl, rfl, rfl, rfl, rfl, rfl, rfl, rfl, rfl, rfl, rfl, trivial⟩ rfl rfl (Nat.le_refl _))
          ·
            refine OpE.buildSlice (zc := #[.int .i64 0, .int .i64 0, .int .i64 0]) rfl hB rfl Tryz.underlying22 Tryz.sizeOf3 Tryz.zeroValue3 (by decide) (by decide) (by kernel_rfl) rfl rfl ?_
            have hh := hS49 
            rw [hF] at hh
            exact VA.to hh (by decide +kernel) (Le.mk hB [0] ⟨rfl, rfl, rfl, rfl, rfl, rfl, rfl, rfl, rfl, rfl, rfl, rfl, rfl, rfl, rfl, rfl, rfl, rfl, rfl, rfl, rfl, rfl, trivial⟩ rfl rfl (Nat.le_refl _))
          ·
            refine OpE.buildSlice (zc := #[.int .i64 0, .int .i64 0, .int .i64 0]) rfl hB rfl Tryz.underlying22 Tryz.sizeOf3 Tryz.zeroValue3 (by decide) (by decide) (by kernel_rfl) rfl rfl ?_
            have hh := hS50 
            rw [hF] at hh
            exact VA.to hh (by decide +kernel) (Le.mk hB [0] ⟨rfl, rfl, rfl, rfl, rfl, rfl, rfl, rfl, rfl, rfl, rfl, rfl, rfl, rfl, rfl, rfl, rfl, rfl, rfl, rfl, rfl, rfl, trivial⟩ rfl rfl (Nat.le_refl _))
        have hS58 : F 24 (lstB 67 [0, 1, 2, 3, 4, 5, 6, 7, 8, 9, 10, 11, 12, 13, 16, 17, 18, 19, 20, 21, 22, 23, 24, 25, 27, 28, 29, 30, 31, 34, 35, 36, 37, 38, 41, 42, 43, 44, 45, 46, 47, 48, 49]) ⟨[(0, sp p), (53, sp p), (64, sp p), (75, sp p), (82, sp p), (89, sp p), (48, (pO gr (0 + i * 5))), (49, (pO gr (0 + i * 5))), (50, (pO gr (0 + i * 5))), (51, (pO gr (0 + i * 5))), (52, (pO gr (0 + i * 5))), (57, avS (xO l i).key), (61, avS (xO l i).key), (68, avS (xO l i).product), (72, avS (xO l i).product), (79, avI (xO l i).count), (86, avI (xO l i).ready), (93, avI (xO l i).due), (97, avI (xO l i).due), (5, .v (.slice (some ⟨gr, 0, none⟩) l.length cap)), (73, (iO 4 [avS (xO l i).product, avS (xO l i).product, avS ⟨#[122, 122]⟩, avS ⟨#[]⟩]))], [.box gr ⟨rowL l, 89, cap * 5⟩], k + 1 + 4 * q + 1 + 1⟩ := by
          rw [hF]
          refine VA.all (rs := [14, 32, 39, 50]) (by decide +kernel) (by decide) ?_
          refine ⟨⟨_, rfl, .inl rfl, ?_⟩, ⟨_, rfl, .inl rfl, ?_⟩, ⟨_, rfl, .inl rfl, ?_⟩, ⟨_, rfl, .inl rfl, ?_⟩, trivial⟩
          ·
            refine OpE.buildSlice (zc := #[.string ⟨#[]⟩, .string ⟨#[]⟩, .string ⟨#[]⟩, .string ⟨#[]⟩]) rfl hB rfl Tryz.underlying67 Tryz.sizeOf9 Tryz.zeroValue9 (by decide) (by decide) (by kernel_rfl) rfl rfl ?_
            have hh := hS47 
            rw [hF] at hh
            exact VA.to hh (by decide +kernel) (Le.mk hB [0] ⟨rfl, rfl, rfl, rfl, rfl, rfl, rfl, rfl, rfl, rfl, rfl, rfl, rfl, rfl, rfl, rfl, rfl, rfl, rfl, rfl, rfl, rfl, trivial⟩ rfl rfl (Nat.le_refl _))
          ·
            refine OpE.buildSlice (zc := #[.int .i64 0, .int .i64 0, .int .i64 0]) rfl hB rfl Tryz.underlying22 Tryz.sizeOf3 Tryz.zeroValue3 (by decide) (by decide) (by kernel_rfl) rfl rfl ?_
            have hh := hS51 
            rw [hF] at hh
            exact VA.to hh (by decide +kernel) (Le.mk hB [0] ⟨rfl, rfl, rfl, rfl, rfl, rfl, rfl, rfl, rfl, rfl, rfl, rfl, rfl, rfl, rfl, rfl, rfl, rfl, rfl, rfl, rfl, rfl, trivial⟩ rfl rfl (Nat.le_refl _))
          ·
            refine OpE.buildSlice (zc := #[.int .i64 0, .int .i64 0, .int .i64 0]) rfl hB rfl Tryz.underlying22 Tryz.sizeOf3 Tryz.zeroValue3 (by decide) (by decide) (by kernel_rfl) rfl rfl ?_
            have hh := hS52 
            rw [hF] at hh
            exact VA.to hh (by decide +kernel) (Le.mk hB [0] ⟨rfl, rfl, rfl, rfl, rfl, rfl, rfl, rfl, rfl, rfl, rfl, rfl, rfl, rfl, rfl, rfl, rfl, rfl, rfl, rfl, rfl, rfl, trivial⟩ rfl rfl (Nat.le_refl _))
          ·
            refine OpE.buildSlice (zc := #[.int .i64 0, .int .i64 0, .int .i64 0]) rfl hB rfl Tryz.underlying22 Tryz.sizeOf3 Tryz.zeroValue3 (by decide) (by decide) (by kernel_rfl) rfl rfl ?_
            have hh := hS53 
            rw [hF] at hh
            exact VA.to hh (by decide +kernel) (Le.mk hB [0] ⟨rfl, rfl, rfl, rfl, rfl, rfl, rfl, rfl, rfl, rfl, rfl, rfl, rfl, rfl, rfl, rfl, rfl, rfl, rfl, rfl, rfl, rfl, trivial⟩ rfl rfl (Nat.le_refl _))
        have hS59 : F 24 (lstB 67 [0, 1, 2, 3, 4, 5, 6, 7, 8, 9, 10, 11, 12, 13, 16, 17, 18, 19, 20, 21, 22, 23, 24, 27, 28, 29, 30, 31, 32, 34, 35, 36, 37, 38, 41, 42, 43, 44, 45, 46, 47, 48, 49]) ⟨[(0, sp p), (53, sp p), (64, sp p), (75, sp p), (82, sp p), (89, sp p), (48, (pO gr (0 + i * 5))), (49, (pO gr (0 + i * 5))), (50, (pO gr (0 + i * 5))), (51, (pO gr (0 + i * 5))), (52, (pO gr (0 + i * 5))), (57, avS (xO l i).key), (61, avS (xO l i).key), (68, avS (xO l i).product), (72, avS (xO l i).product), (79, avI (xO l i).count), (86, avI (xO l i).ready), (93, avI (xO l i).due), (97, avI (xO l i).due), (5, .v (.slice (some ⟨gr, 0, none⟩) l.length cap)), (80, (iO 3 [avI (xO l i).count, avI 0, avI 100001]))], [.box gr ⟨rowL l, 89, cap * 5⟩], k + 1 + 4 * q + 1 + 1⟩ := by
          rw [hF]
          refine VA.all (rs := [14, 25, 39, 50]) (by decide +kernel) (by decide) ?_
          refine ⟨⟨_, rfl, .inl rfl, ?_⟩, ⟨_, rfl, .inl rfl, ?_⟩, ⟨_, rfl, .inl rfl, ?_⟩, ⟨_, rfl, .inl rfl, ?_⟩, trivial⟩
          ·
            refine OpE.buildSlice (zc := #[.string ⟨#[]⟩, .string ⟨#[]⟩, .string ⟨#[]⟩, .string ⟨#[]⟩]) rfl hB rfl Tryz.underlying67 Tryz.sizeOf9 Tryz.zeroValue9 (by decide) (by decide) (by kernel_rfl) rfl rfl ?_
            have hh := hS48 
            rw [hF] at hh
            exact VA.to hh (by decide +kernel) (Le.mk hB [0] ⟨rfl, rfl, rfl, rfl, rfl, rfl, rfl, rfl, rfl, rfl, rfl, rfl, rfl, rfl, rfl, rfl, rfl, rfl, rfl, rfl, rfl, rfl, trivial⟩ rfl rfl (Nat.le_refl _))
          ·
            refine OpE.buildSlice (zc := #[.string ⟨#[]⟩, .string ⟨#[]⟩, .string ⟨#[]⟩, .string ⟨#[]⟩]) rfl hB rfl Tryz.underlying67 Tryz.sizeOf9 Tryz.zeroValue9 (by decide) (by decide) (by kernel_rfl) rfl rfl ?_
            have hh := hS51 
            rw [hF] at hh
            exact VA.to hh (by decide +kernel) (Le.mk hB [0] ⟨rfl, rfl, rfl, rfl, rfl, rfl, rfl, rfl, rfl, rfl, rfl, rfl, rfl, rfl, rfl, rfl, rfl, rfl, rfl, rfl, rfl, rfl, trivial⟩ rfl rfl (Nat.le_refl _))
          ·
            refine OpE.buildSlice (zc := #[.int .i64 0, .int .i64 0, .int .i64 0]) rfl hB rfl Tryz.underlying22 Tryz.sizeOf3 Tryz.zeroValue3 (by decide) (by decide) (by kernel_rfl) rfl rfl ?_
            have hh := hS54 
            rw [hF] at hh
            exact VA.to hh (by decide +kernel) (Le.mk hB [0] ⟨rfl, rfl, rfl, rfl, rfl, rfl, rfl, rfl, rfl, rfl, rfl, rfl, rfl, rfl, rfl, rfl, rfl, rfl, rfl, rfl, rfl, rfl, trivial⟩ rfl rfl (Nat.le_refl _))
          ·
            refine OpE.buildSlice (zc := #[.int .i64 0, .int .i64 0, .int .i64 0]) rfl hB rfl Tryz.underlying22 Tryz.sizeOf3 Tryz.zeroValue3 (by decide) (by decide) (by kernel_rfl) rfl rfl ?_
            have hh := hS55 
            rw [hF] at hh
            exact VA.to hh (by decide +kernel) (Le.mk hB [0] ⟨rfl, rfl, rfl, rfl, rfl, rfl, rfl, rfl, rfl, rfl, rfl, rfl, rfl, rfl, rfl, rfl, rfl, rfl, rfl, rfl, rfl, rfl, trivial⟩ rfl rfl (Nat.le_refl _))
        have hS60 : F 24 (lstB 67 [0, 1, 2, 3, 4, 5, 6, 7, 8, 9, 10, 11, 12, 13, 16, 17, 18, 19, 20, 21, 22, 23, 24, 27, 28, 29, 30, 31, 34, 35, 36, 37, 38, 39, 41, 42, 43, 44, 45, 46, 47, 48, 49]) ⟨[(0, sp p), (53, sp p), (64, sp p), (75, sp p), (82, sp p), (89, sp p), (48, (pO gr (0 + i * 5))), (49, (pO gr (0 + i * 5))), (50, (pO gr (0 + i * 5))), (51, (pO gr (0 + i * 5))), (52, (pO gr (0 + i * 5))), (57, avS (xO l i).key), (61, avS (xO l i).key), (68, avS (xO l i).product), (72, avS (xO l i).product), (79, avI (xO l i).count), (86, avI (xO l i).ready), (93, avI (xO l i).due), (97, avI (xO l i).due), (5, .v (.slice (some ⟨gr, 0, none⟩) l.length cap)), (87, (iO 3 [avI (xO l i).ready, avI (-1), avI 345686400000]))], [.box gr ⟨rowL l, 89, cap * 5⟩], k + 1 + 4 * q + 1 + 1⟩ := by
          rw [hF]
          refine VA.all (rs := [14, 25, 32, 50]) (by decide +kernel) (by decide) ?_
          refine ⟨⟨_, rfl, .inl rfl, ?_⟩, ⟨_, rfl, .inl rfl, ?_⟩, ⟨_, rfl, .inl rfl, ?_⟩, ⟨_, rfl, .inl rfl, ?_⟩, trivial⟩
          ·
            refine OpE.buildSlice (zc := #[.string ⟨#[]⟩, .string ⟨#[]⟩, .string ⟨#[]⟩, .string ⟨#[]⟩]) rfl hB rfl Tryz.underlying67 Tryz.sizeOf9 Tryz.zeroValue9 (by decide) (by decide) (by kernel_rfl) rfl rfl ?_
            have hh := hS49 
            rw [hF] at hh
            exact VA.to hh (by decide +kernel) (Le.mk hB [0] ⟨rfl, rfl, rfl, rfl, rfl, rfl, rfl, rfl, rfl, rfl, rfl, rfl, rfl, rfl, rfl, rfl, rfl, rfl, rfl, rfl, rfl, rfl, trivial⟩ rfl rfl (Nat.le_refl _))
          ·
            refine OpE.buildSlice (zc := #[.string ⟨#[]⟩, .string ⟨#[]⟩, .string ⟨#[]⟩, .string ⟨#[]⟩]) rfl hB rfl Tryz.underlying67 Tryz.sizeOf9 Tryz.zeroValue9 (by decide) (by decide) (by kernel_rfl) rfl rfl ?_
            have hh := hS52 
            rw [hF] at hh
            exact VA.to hh (by decide +kernel) (Le.mk hB [0] ⟨rfl, rfl, rfl, rfl, rfl, rfl, rfl, rfl, rfl, rfl, rfl, rfl, rfl, rfl, rfl, rfl, rfl, rfl, rfl, rfl, rfl, rfl, trivial⟩ rfl rfl (Nat.le_refl _))
          ·
            refine OpE.buildSlice (zc := #[.int .i64 0, .int .i64 0, .int .i64 0]) rfl hB rfl Tryz.underlying22 Tryz.sizeOf3 Tryz.zeroValue3 (by decide) (by decide) (by kernel_rfl) rfl rfl ?_
            have hh := hS54 
            rw [hF] at hh
            exact VA.to hh (by decide +kernel) (Le.mk hB [0] ⟨rfl, rfl, rfl, rfl, rfl, rfl, rfl, rfl, rfl, rfl, rfl, rfl, rfl, rfl, rfl, rfl, rfl, rfl, rfl, rfl, rfl, rfl, trivial⟩ rfl rfl (Nat.le_refl _))
          ·
            refine OpE.buildSlice (zc := #[.int .i64 0, .int .i64 0, .int .i64 0]) rfl hB rfl Tryz.underlying22 Tryz.sizeOf3 Tryz.zeroValue3 (by decide) (by decide) (by kernel_rfl) rfl rfl ?_
            have hh := hS56 
            rw [hF] at hh
            exact VA.to hh (by decide +kernel) (Le.mk hB [0] ⟨rfl, rfl, rfl, rfl, rfl, rfl, rfl, rfl, rfl, rfl, rfl, rfl, rfl, rfl, rfl, rfl, rfl, rfl, rfl, rfl, rfl, rfl, trivial⟩ rfl rfl (Nat.le_refl _))
        have hS61 : F 24 (lstB 67 [0, 1, 2, 3, 4, 5, 6, 7, 8, 9, 10, 11, 12, 13, 16, 17, 18, 19, 20, 21, 22, 23, 24, 27, 28, 29, 30, 31, 34, 35, 36, 37, 38, 41, 42, 43, 44, 45, 46, 47, 48, 49, 50]) ⟨[(0, sp p), (53, sp p), (64, sp p), (75, sp p), (82, sp p), (89, sp p), (48, (pO gr (0 + i * 5))), (49, (pO gr (0 + i * 5))), (50, (pO gr (0 + i * 5))), (51, (pO gr (0 + i * 5))), (52, (pO gr (0 + i * 5))), (57, avS (xO l i).key), (61, avS (xO l i).key), (68, avS (xO l i).product), (72, avS (xO l i).product), (79, avI (xO l i).count), (86, avI (xO l i).ready), (93, avI (xO l i).due), (97, avI (xO l i).due), (5, .v (.slice (some ⟨gr, 0, none⟩) l.length cap)), (98, (iO 3 [avI (xO l i).due, avI (xO l i).due, avI 345686400000]))], [.box gr ⟨rowL l, 89, cap * 5⟩], k + 1 + 4 * q + 1 + 1⟩ := by
          rw [hF]
          refine VA.all (rs := [14, 25, 32, 39]) (by decide +kernel) (by decide) ?_
          refine ⟨⟨_, rfl, .inl rfl, ?_⟩, ⟨_, rfl, .inl rfl, ?_⟩, ⟨_, rfl, .inl rfl, ?_⟩, ⟨_, rfl, .inl rfl, ?_⟩, trivial⟩
          ·
            refine OpE.buildSlice (zc := #[.string ⟨#[]⟩, .string ⟨#[]⟩, .string ⟨#[]⟩, .string ⟨#[]⟩]) rfl hB rfl Tryz.underlying67 Tryz.sizeOf9 Tryz.zeroValue9 (by decide) (by decide) (by kernel_rfl) rfl rfl ?_
            have hh := hS50 
            rw [hF] at hh
            exact VA.to hh (by decide +kernel) (Le.mk hB [0] ⟨rfl, rfl, rfl, rfl, rfl, rfl, rfl, rfl, rfl, rfl, rfl, rfl, rfl, rfl, rfl, rfl, rfl, rfl, rfl, rfl, rfl, rfl, trivial⟩ rfl rfl (Nat.le_refl _))
          ·
            refine OpE.buildSlice (zc := #[.string ⟨#[]⟩, .string ⟨#[]⟩, .string ⟨#[]⟩, .string ⟨#[]⟩]) rfl hB rfl Tryz.underlying67 Tryz.sizeOf9 Tryz.zeroValue9 (by decide) (by decide) (by kernel_rfl) rfl rfl ?_
            have hh := hS53 
            rw [hF] at hh
            exact VA.to hh (by decide +kernel) (Le.mk hB [0] ⟨rfl, rfl, rfl, rfl, rfl, rfl, rfl, rfl, rfl, rfl, rfl, rfl, rfl, rfl, rfl, rfl, rfl, rfl, rfl, rfl, rfl, rfl, trivial⟩ rfl rfl (Nat.le_refl _))
          ·
            refine OpE.buildSlice (zc := #[.int .i64 0, .int .i64 0, .int .i64 0]) rfl hB rfl Tryz.underlying22 Tryz.sizeOf3 Tryz.zeroValue3 (by decide) (by decide) (by kernel_rfl) rfl rfl ?_
            have hh := hS55 
            rw [hF] at hh
            exact VA.to hh (by decide +kernel) (Le.mk hB [0] ⟨rfl, rfl, rfl, rfl, rfl, rfl, rfl, rfl, rfl, rfl, rfl, rfl, rfl, rfl, rfl, rfl, rfl, rfl, rfl, rfl, rfl, rfl, trivial⟩ rfl rfl (Nat.le_refl _))
          ·
            refine OpE.buildSlice (zc := #[.int .i64 0, .int .i64 0, .int .i64 0]) rfl hB rfl Tryz.underlying22 Tryz.sizeOf3 Tryz.zeroValue3 (by decide) (by decide) (by kernel_rfl) rfl rfl ?_
            have hh := hS56 
            rw [hF] at hh
            exact VA.to hh (by decide +kernel) (Le.mk hB [0] ⟨rfl, rfl, rfl, rfl, rfl, rfl, rfl, rfl, rfl, rfl, rfl, rfl, rfl, rfl, rfl, rfl, rfl, rfl, rfl, rfl, rfl, rfl, trivial⟩ rfl rfl (Nat.le_refl _))
        have hS62 : F 25 (lstB 67 [0, 1, 2, 3, 4, 5, 6, 7, 8, 9, 10, 11, 12, 13, 16, 17, 18, 19, 20, 21, 22, 23, 24, 27, 28, 29, 30, 31, 34, 35, 36, 37, 38, 41, 42, 43, 44, 45, 46, 47, 48, 49]) ⟨[(0, sp p), (53, sp p), (64, sp p), (75, sp p), (82, sp p), (89, sp p), (48, (pO gr (0 + i * 5))), (49, (pO gr (0 + i * 5))), (50, (pO gr (0 + i * 5))), (51, (pO gr (0 + i * 5))), (52, (pO gr (0 + i * 5))), (57, avS (xO l i).key), (61, avS (xO l i).key), (68, avS (xO l i).product), (72, avS (xO l i).product), (79, avI (xO l i).count), (86, avI (xO l i).ready), (93, avI (xO l i).due), (97, avI (xO l i).due), (5, .v (.slice (some ⟨gr, 0, none⟩) l.length cap))], [.box gr ⟨rowL l, 89, cap * 5⟩], k + 1 + 4 * q + 1 + 1⟩ := by
          rw [hF]
          refine VA.all (rs := [14, 25, 32, 39, 50]) (by decide +kernel) (by decide) ?_
          refine ⟨⟨_, rfl, .inl rfl, ?_⟩, ⟨_, rfl, .inl rfl, ?_⟩, ⟨_, rfl, .inl rfl, ?_⟩, ⟨_, rfl, .inl rfl, ?_⟩, ⟨_, rfl, .inl rfl, ?_⟩, trivial⟩
          ·
            refine OpE.buildSlice (zc := #[.string ⟨#[]⟩, .string ⟨#[]⟩, .string ⟨#[]⟩, .string ⟨#[]⟩]) rfl hB rfl Tryz.underlying67 Tryz.sizeOf9 Tryz.zeroValue9 (by decide) (by decide) (by kernel_rfl) rfl rfl ?_
            have hh := hS57 
            rw [hF] at hh
            exact VA.to hh (by decide +kernel) (Le.mk hB [0] ⟨rfl, rfl, rfl, rfl, rfl, rfl, rfl, rfl, rfl, rfl, rfl, rfl, rfl, rfl, rfl, rfl, rfl, rfl, rfl, rfl, rfl, trivial⟩ rfl rfl (Nat.le_refl _))
          ·
            refine OpE.buildSlice (zc := #[.string ⟨#[]⟩, .string ⟨#[]⟩, .string ⟨#[]⟩, .string ⟨#[]⟩]) rfl hB rfl Tryz.underlying67 Tryz.sizeOf9 Tryz.zeroValue9 (by decide) (by decide) (by kernel_rfl) rfl rfl ?_
            have hh := hS58 
            rw [hF] at hh
            exact VA.to hh (by decide +kernel) (Le.mk hB [0] ⟨rfl, rfl, rfl, rfl, rfl, rfl, rfl, rfl, rfl, rfl, rfl, rfl, rfl, rfl, rfl, rfl, rfl, rfl, rfl, rfl, rfl, trivial⟩ rfl rfl (Nat.le_refl _))
          ·
            refine OpE.buildSlice (zc := #[.int .i64 0, .int .i64 0, .int .i64 0]) rfl hB rfl Tryz.underlying22 Tryz.sizeOf3 Tryz.zeroValue3 (by decide) (by decide) (by kernel_rfl) rfl rfl ?_
            have hh := hS59 
            rw [hF] at hh
            exact VA.to hh (by decide +kernel) (Le.mk hB [0] ⟨rfl, rfl, rfl, rfl, rfl, rfl, rfl, rfl, rfl, rfl, rfl, rfl, rfl, rfl, rfl, rfl, rfl, rfl, rfl, rfl, rfl, trivial⟩ rfl rfl (Nat.le_refl _))
          ·
            refine OpE.buildSlice (zc := #[.int .i64 0, .int .i64 0, .int .i64 0]) rfl hB rfl Tryz.underlying22 Tryz.sizeOf3 Tryz.zeroValue3 (by decide) (by decide) (by kernel_rfl) rfl rfl ?_
            have hh := hS60 
            rw [hF] at hh
            exact VA.to hh (by decide +kernel) (Le.mk hB [0] ⟨rfl, rfl, rfl, rfl, rfl, rfl, rfl, rfl, rfl, rfl, rfl, rfl, rfl, rfl, rfl, rfl, rfl, rfl, rfl, rfl, rfl, trivial⟩ rfl rfl (Nat.le_refl _))
          ·
            refine OpE.buildSlice (zc := #[.int .i64 0, .int .i64 0, .int .i64 0]) rfl hB rfl Tryz.underlying22 Tryz.sizeOf3 Tryz.zeroValue3 (by decide) (by decide) (by kernel_rfl) rfl rfl ?_
            have hh := hS61 
            rw [hF] at hh
            exact VA.to hh (by decide +kernel) (Le.mk hB [0] ⟨rfl, rfl, rfl, rfl, rfl, rfl, rfl, rfl, rfl, rfl, rfl, rfl, rfl, rfl, rfl, rfl, rfl, rfl, rfl, rfl, rfl, trivial⟩ rfl rfl (Nat.le_refl _))
        rw [hF]
        have hh := hS62 
        rw [hF] at hh
        exact VA.to hh (by decide +kernel) (Le.mk hB [0] ⟨rfl, rfl, rfl, rfl, rfl, rfl, rfl, rfl, rfl, rfl, rfl, rfl, rfl, rfl, rfl, rfl, rfl, rfl, rfl, rfl, trivial⟩ rfl rfl (Nat.le_refl _))
      · have aH3 := aH3b
        try simp only [qqT, qqF, qqN, qqM, qqL, qqE] at aH3
        refine VC.skip ?_
        refine VC.sr ?_
        refine VO.mv rfl rfl rfl rfl ?_
        refine VO.ma rfl rfl rfl rfl ?_
        refine VO.nil ?_
        refine VC.le _ (Le.rowT (t := 4) (i := 0) (n := l.length) (xs := l) hB hnew rfl rfl rfl) ?_
        refine VC.ret ?_
        exact Exists.intro _ (And.intro (RetV.one Tryz.results45 (ResV.tmp rfl)) (And.intro (by first | exact ⟨l, ⟨by omega, hok⟩, rfl⟩ | exact ⟨_, ⟨by simp; omega, by repeat (first | exact hok | refine OOk.set ?_ _ ⟨by first | exact hr63.1 | exact (hok.getD i).1, by first | exact hr74 | exact (hok.getD i).2.1, by first | exact hr63.2 | exact (hok.getD i).2.2⟩)⟩, rfl⟩) ((show k + 1 + 4 * q + 1 ≤ k + 100 by omega))))
    · replace aK2b : _ = false := aK2b
      have aK2 := aK2b
      try simp only [qqT, qqF, qqN, qqM, qqL, qqE] at aK2
      refine VO.opX rfl rfl rfl rfl aK2b ?_
      refine VO.val rfl rfl (OpV.pickF rfl rfl rfl rfl aK2b) ?_
      refine VO.nil ?_
      refine VC.condF rfl rfl ?_
      refine VC.skip ?_
      refine VC.sr ?_
      refine VO.mv rfl rfl rfl rfl ?_
      refine VO.ma rfl rfl rfl rfl ?_
      refine VO.nil ?_
      refine VC.le _ (Le.rowT (t := 4) (i := 0) (n := l.length) (xs := l) hB hnew rfl rfl rfl) ?_
      refine VC.ret ?_
      exact Exists.intro _ (And.intro (RetV.one Tryz.results45 (ResV.tmp rfl)) (And.intro (by first | exact ⟨l, ⟨by omega, hok⟩, rfl⟩ | exact ⟨_, ⟨by simp; omega, by repeat (first | exact hok | refine OOk.set ?_ _ ⟨by first | exact hr63.1 | exact (hok.getD i).1, by first | exact hr74 | exact (hok.getD i).2.1, by first | exact hr63.2 | exact (hok.getD i).2.2⟩)⟩, rfl⟩) ((show k + 1 + 4 * q ≤ k + 100 by omega))))
end Go.Proofs.YtaaokimiadfidaaGreatDoor
namespace Go.Proofs.YtaaokimiadfidaaGreatDoor
open Go.RowKit
set_option linter.unusedVariables false
set_option linter.unusedSimpArgs false

def Inp (w : World) (a : Option Addr) (L : List Int) : Prop :=
 L.length ≤ 9223372036854775807 ∧ ∀ i, i < L.length → ∃ b o, a = some ⟨b, o, none⟩ ∧ w.cell? ⟨b, o + i, none⟩ = some (.int .i64 (L.getD i 0))

theorem Inp.ofRow {w : World} {a : Option Addr} {len cap : Nat} {zs : List Int}
  (h : (a = none ∧ len = 0 ∧ cap = 0 ∧ zs = []) ∨
   ∃ x, a = some x ∧ len ≤ cap ∧ cap ≤ maxLen ∧ zs.length = cap ∧ (∀ i, i < zs.length → w.cell? (x.add i) = some (.int .i64 (zs.getD i 0))) ∧ ∀ n ∈ zs, (Lit.int .i64 n).wf = true) :
  ∃ L : List Int, L.length = len ∧ Inp w a L := by
 rcases h with ⟨rfl, rfl, rfl, rfl⟩ | ⟨x, rfl, h1, h2, h3, h4, h5⟩
 ·exact ⟨[], rfl, by simp, by simp⟩
 ·unfold maxLen at h2
  refine ⟨zs.take len, by simp; omega, by simp; omega, fun i hi => ?_⟩
  have hi' : i < len ∧ i < zs.length := by simp at hi; omega
  obtain ⟨b, o, s⟩ := x
  have h0 := h4 0 (by omega)
  have hs : s = none := by
   cases s with
   | none => rfl
   | some s =>
    simp only [Addr.add, if_true, World.cell?] at h0
    split at h0 <;> simp at h0
  subst hs
  have hadd : (⟨b, o, none⟩ : Addr).add i = ⟨b, o + i, none⟩ := by unfold Addr.add; split <;> simp_all
  have := h4 i hi'.2
  rw [hadd] at this
  exact ⟨b, o, rfl, by rw [this]; simp [hi'.1, hi'.2]⟩

def lawQ (t : Nat) (x : Value) (e : Exit) (s : St') : Prop := e = .ret ∧ look s.sl t = some (.v x)
section
variable {P : Program} {w : World} {A : Nat → Prop} {nt t : Nat} {x : Value} {c : Code} {s : St'}
theorem VC.rebase (h : ∀ a w1, R (B0 w A nt) s a w1 → ∃ (B1 : Bs) (s1 : St'), B1.nt = nt ∧ B1.w0 = w1 ∧ (∀ b, B1.S b → w.heap.size ≤ b) ∧ R B1 s1 a w1 ∧ VC P B1 c (lawQ t x) s1) : VC P (B0 w A nt) c (lawQ t x) s := fun a w1 hr => by
 obtain ⟨B1, s1, h1, h2, h3, h4, h5⟩ := h a w1 hr
 refine Code.wp_mono (fun e a' w' ⟨s2, ⟨k1, k2⟩, k3⟩ => ?_) (h5 a w1 h4)
 refine ⟨⟨[(t, .v x)], [], 0⟩, ⟨k1, by simp [look_put]⟩, fun t' y hy => ?_, k3.size.trans h1, k3.defs, fun p hp => by simp at hp, List.Pairwise.nil, ?_, fun p hp => by simp at hp, trivial⟩
 ·rw [look_put] at hy
  split at hy
  ·rename_i e; subst e; cases hy; exact (k3.slots _ _ k2).flat ⟨_, rfl⟩
  ·cases hy
 ·have c1 := hr.chg
  have c2 := k3.chg
  rw [h2] at c2
  exact (c1.any.trans c2).mono fun b hb hs => (Nat.not_lt.2 (h3 b hs) hb).elim
theorem VC.stream {a0 : Option Addr} {cap0 g tot i : Nat} {L : List Int} {sl : List (Nat × AV)} (hi : s.hp[i]? = some (.box g ⟨[.v (.slice a0 L.length cap0), .v (.int .i64 0)], 25, tot⟩)) (htot : tot = 2) (hin : Inp w a0 L) (hsl : LeL s.sl sl) (hf : ∀ p ∈ sl, ∃ v, p.2 = .v v)
  (h : ∀ w1, w.heap.size ≤ g → (B1 w1 (fun b => b ≠ g) nt (fun b => b = g) (fun b => b ≤ g) (TT g L)).Ok → VC P (B1 w1 (fun b => b ≠ g) nt (fun b => b = g) (fun b => b ≤ g) (TT g L)) c (lawQ t x) ⟨sl, [], 0⟩) : VC P (B0 w A nt) c (lawQ t x) s :=
 VC.rebase fun a w1 hr => by
  have hm := List.mem_of_getElem? hi
  obtain ⟨cc, k1, k2, k3, k4⟩ := hr.blocks _ hm
  have hnew : ¬ g < w.heap.size := hr.isNew (fun b h => h) hm rfl
  have hge : w.heap.size ≤ g := by omega
  have hcc : cc = #[.slice a0 L.length cap0, .int .i64 0] := by
   obtain ⟨u0, p0, q0⟩ := k4 0 (by simp)
   obtain ⟨u1, p1, q1⟩ := k4 1 (by simp)
   have e0 := q0.eq_v
   have e1 := q1.eq_v
   have hsz : cc.size = 2 := k2.trans htot
   apply Array.ext (by simpa using hsz)
   intro i hi hi'
   simp at hi'
   match i, hi' with
   | 0, _ => have := Array.getElem?_eq_some_iff.1 p0; simp; rw [this.2, e0]
   | 1, _ => have := Array.getElem?_eq_some_iff.1 p1; simp; rw [this.2, e1]
  subst hcc
  have hT : TT g L w1 0 := ⟨0, Nat.le_refl _, a0, cap0, k1, hin.1, fun i hi => by
   obtain ⟨b, o, e1, e2⟩ := hin.2 i hi
   have hb := World.block_lt_of_cell? w _ e2
   exact ⟨b, o, e1, Nat.lt_of_lt_of_le hb hge, hr.chg.cell e2 fun h => h⟩⟩
  refine ⟨_, _, rfl, rfl, fun b hb => by rw [hb]; exact hge, ?_, h w1 hge (TT.ok hT)⟩
  refine ⟨fun t' y hy => ?_, hr.size, hr.defs, fun p hp => by simp at hp, List.Pairwise.nil, Chg.refl _ _, fun p hp => by simp at hp, hT⟩
  have hs := hr.slots t' y (LeL.look hsl t' y hy)
  have : ∃ v, y = .v v := by
   have key : ∀ (l : List (Nat × AV)), (∀ p ∈ l, ∃ v, p.2 = .v v) → look l t' = some y → ∃ v, y = .v v := by
    intro l
    induction l with
    | nil => intro _ h; cases h
    | cons p r ih =>
     intro hp hl
     obtain ⟨k, z⟩ := p
     rw [look_put] at hl
     split at hl
     ·cases hl; exact hp (k, y) (by simp)
     ·exact ih (fun q hq => hp q (by simp [hq])) hl
   exact key sl hf hy
  exact hs.flat this
theorem law_calls {F : FuncId} {fn : Func} {a0 : Option Addr} {cap0 : Nat} {L : List Int} {body : Code} (hf : P.funcs[F]? = some fn) (hb : fn.body = some body) (hn : fn.ntmps = nt) (h1 : 1 ≤ nt) (hres : fn.results = #[.tmp t])
  (h : VC P (B0 w (fun _ => True) nt) body (lawQ t (.bool true)) ⟨slots0 0 [.v (.slice a0 L.length cap0)], [], 0⟩) : Calls P F #[.slice a0 L.length cap0] w fun e w' => e = .returned (.bool true) ∧ Chg NoB w w' := by
 subst hn
 refine calls_of_wp hf hb (Code.wp_mono (fun e a w' hq => ?_) (h _ w (R.start (us := #[.slice a0 L.length cap0]) (k := 0) rfl ⟨rfl, fun j hj => by simp at hj; subst hj; exact .v _⟩ (fun _ h => h.elim) trivial (by show fn.ntmps = 1 + (fn.ntmps - 1); omega))))
 obtain ⟨s, ⟨rfl, hq⟩, hr⟩ := hq
 refine ⟨hr.defs, .bool true, ?_, rfl, hr.chg⟩
 have hv := (hr.slots t _ hq).eq_v
 simp [results_eq, hres, resRun, hv]
end
theorem Le.boolT {B : Bs} {s : St'} {t : Nat} {b : Bool} (ht : look s.sl t = some (avB b)) (hb : b = true) : Le B s ⟨(t, avB true) :: s.sl, s.hp, s.k⟩ := Le.recast ht fun w Z u h => by subst hb; exact h
end Go.Proofs.YtaaokimiadfidaaGreatDoor
namespace Go.Proofs.YtaaokimiadfidaaGreatDoor
open Go.RowKit
set_option linter.unusedVariables false
set_option linter.unusedSimpArgs false

abbrev ε : ByteArray := ⟨#[]⟩
section
variable {s : List ByteArray} {i : Nat}
end
section
variable {slots : Int} {p : List (List ByteArray)} {l : List ByteArray}
end
end Go.Proofs.YtaaokimiadfidaaGreatDoor
namespace Go.Proofs.YtaaokimiadfidaaGreatDoor
open Go.RowKit
set_option linter.unusedVariables false
set_option linter.unusedSimpArgs false

section
variable {s parts : List ByteArray} {later : List (List ByteArray)}
end
structure Fits (s parts : List ByteArray) : Prop where
 once : ∀ i j, i < j → j < s.length → s.getD i ByteArray.empty = s.getD j ByteArray.empty → s.getD j ByteArray.empty = ε
 room : parts.length ≤ s.length
 keys : ∀ x ∈ parts, x ≠ ε
 pnd : parts.Nodup
end Go.Proofs.YtaaokimiadfidaaGreatDoor
namespace Go.Proofs.YtaaokimiadfidaaGreatDoor
open Go.RowKit
set_option linter.unusedVariables false
set_option linter.unusedSimpArgs false

def SmS (s : List ByteArray) : Prop := s.length ≤ 1000000000 ∧ ∀ i, (s.getD i ByteArray.empty).size ≤ 1000000000
def SmSS (p : List (List ByteArray)) : Prop := p.length ≤ 1000000000 ∧ ∀ i, SmS (p.getD i default)
end Go.Proofs.YtaaokimiadfidaaGreatDoor
namespace Go.Proofs.YtaaokimiadfidaaGreatDoor
open Go.RowKit
set_option linter.unusedVariables false
set_option linter.unusedSimpArgs false

theorem SmS.nil : SmS [] := ⟨by simp, fun i => by simp [List.getD_eq_getElem?_getD]⟩
theorem SmSS.one {p : List ByteArray} (hp : SmS p) : SmSS [p] := ⟨by simp, fun i => by cases i with | zero => exact hp | succ i => exact SmS.nil⟩
end Go.Proofs.YtaaokimiadfidaaGreatDoor
namespace Go.Proofs.YtaaokimiadfidaaGreatDoor
open Go.RowKit
set_option linter.unusedVariables false
set_option linter.unusedSimpArgs false

section
variable {parts : List ByteArray} {later : List (List ByteArray)}
end
theorem keyF_size {x : ByteArray} (h : keyF x = true) : 1 ≤ x.size ∧ x.size ≤ 40 := by
 unfold keyF at h
 simp only [Bool.and_eq_true, decide_eq_true_eq] at h
 exact ⟨h.1.1.1, h.1.1.2⟩
theorem canE_key {l : List ByteArray} {i : Nat} (h : canE l i = 0) : keyF (l.getD i ByteArray.empty) = true := by
 cases hk : keyF (l.getD i ByteArray.empty) with
 | true => rfl
 | false => rw [canE_5 hk] at h; cases h
theorem canE_lt {l : List ByteArray} {i : Nat} (h : canE l i = 0) (h0 : 0 < i) : sLt (l.getD (i - 1) ByteArray.empty) (l.getD i ByteArray.empty) = true := by
 have hk := canE_key h
 cases hs : sLe (l.getD i ByteArray.empty) (l.getD (i - 1) ByteArray.empty) with
 | true => rw [canE_7 hk h0 hs] at h; cases h
 | false => exact sLt_of_not hs
theorem can_sort {l : List ByteArray} (h : ∀ j, j < l.length → canE l j = 0) : SortS l := by
 intro a b hab hb
 induction b with
 | zero => omega
 | succ b ih =>
  have h1 := canE_lt (h (b + 1) hb) (by omega)
  simp only [Nat.add_sub_cancel] at h1
  by_cases e : a = b
  ·subst e; exact h1
  ·exact sLt_trans (ih (by omega) (by omega)) h1
theorem sort_nodup {l : List ByteArray} (h : SortS l) : l.Nodup := by
 rw [List.Nodup, List.pairwise_iff_getElem]
 intro i j hi hj hij e
 have := h i j hij hj
 simp only [List.getD_eq_getElem?_getD, List.getElem?_eq_getElem hi, List.getElem?_eq_getElem hj, Option.getD_some, e] at this
 rw [sLt_irr] at this; cases this
theorem getD_mem {l : List ByteArray} {x : ByteArray} (h : x ∈ l) : ∃ j, j < l.length ∧ l.getD j ByteArray.empty = x := by
 obtain ⟨j, hj, rfl⟩ := List.mem_iff_getElem.1 h
 exact ⟨j, hj, by simp [hj]⟩
structure RightP (n : Nat) (l : List ByteArray) : Prop where
 len : l.length ≤ n
 can : ∀ j, j < l.length → canE l j = 0
theorem RightP.nil (n : Nat) : RightP n [] := ⟨by simp, fun j hj => by simp at hj⟩
section
variable {n : Nat} {l s : List ByteArray}
theorem RightP.keys (h : RightP n l) : ∀ x ∈ l, 1 ≤ x.size ∧ x.size ≤ 40 := fun x hx => by
 obtain ⟨j, hj, rfl⟩ := getD_mem hx
 exact keyF_size (canE_key (h.can j hj))
theorem RightP.fits (h : RightP s.length l) (ho : ∀ i j, i < j → j < s.length → s.getD i ByteArray.empty = s.getD j ByteArray.empty → s.getD j ByteArray.empty = ε) : Fits s l :=
 ⟨ho, h.len, fun x hx e => by have := h.keys x hx; rw [e] at this; exact absurd this.1 (by decide), sort_nodup (can_sort h.can)⟩
end
end Go.Proofs.YtaaokimiadfidaaGreatDoor
namespace Go.Proofs.YtaaokimiadfidaaGreatDoor
open Go.RowKit
set_option linter.unusedVariables false
set_option linter.unusedSimpArgs false

structure Mat {α : Type} [Enc α] (w : World) (lo g n : Nat) (eo ei : TypeId) (V : Nat → Value) (R : Nat → List α) : Prop where
 low : lo ≤ g
 ex : ∃ cur, w.heap[g]? = some (.cells cur eo (0, 0)) ∧ cur.size = n ∧ ∀ k, k < n → cur[k]? = some (V k)
 own : ∀ k, k < n → Own w lo ei (V k) (R k)
 out : ∀ k, k < n → (V k).ownBlock ≠ some g
 sep : ∀ j k, j < n → k < n → j ≠ k → ∀ q, (V j).ownBlock = some q → (V k).ownBlock ≠ some q

namespace Mat
variable {α : Type} [Enc α] {w w' : World} {lo g n : Nat} {eo ei : TypeId} {V : Nat → Value} {R R' : Nat → List α}
end Mat

end Go.Proofs.YtaaokimiadfidaaGreatDoor
namespace Go.Proofs.YtaaokimiadfidaaGreatDoor
open Go.RowKit
set_option linter.unusedVariables false
set_option linter.unusedSimpArgs false
theorem one_sz {α : Type} [Inhabited α] {f : α → ByteArray} {x : α} (h : (f x).size ≤ 1000000) (h0 : (f default).size ≤ 1000000) (i : Nat) : (f ([x].getD i default)).size ≤ 1000000 := by
 match i with
 | 0 => exact h
 | i + 1 => exact h0
def rdP : List PaceS := [⟨⟨#[112]⟩, 10, []⟩]
def rdO : List OrdrS := [⟨⟨#[111]⟩, ⟨#[112]⟩, 3, 0, 5⟩]
theorem rdP_sm : SmPc rdP := ⟨by decide, one_sz (f := PaceS.product) (by decide) (by decide), fun i => by
 match i with
 | 0 => decide
 | i + 1 => show ([] : List NeedS).length ≤ _; decide, fun i j => by
 match i with
 | 0 => show (([] : List NeedS).getD j default).key.size ≤ _; simp; decide
 | i + 1 => show (([] : List NeedS).getD j default).key.size ≤ _; simp; decide⟩
theorem rdO_sm : SmOr rdO := ⟨by decide, one_sz (f := OrdrS.key) (by decide) (by decide), one_sz (f := OrdrS.product) (by decide) (by decide)⟩
theorem rd_sch : scheF rdP rdO [0] 1 0 = 0 := by decide +kernel
theorem rd_from : fromP rdP rdO [0] 1 0 0 = 1 := by decide +kernel
theorem rd_end : endP rdP rdO [0] 1 0 0 = 31 := by decide +kernel
theorem rd_times : timesR rdP rdO [0] 1 0 = [⟨1, 31⟩] := by
 rw [timesR, if_pos rd_sch]
 show [winP rdP rdO [0] 1 0 0] = _
 rw [winP, rd_from, rd_end]
theorem pace_nil {w : World} {Z : Nat → Prop} {u : Value} {a : ByteArray} {b : Int} (h : Rep w Z (.agg [avS a, avI b, .v (.slice none 0 0)]) u) : Rep w Z (avPc ⟨a, b, []⟩) u := by
 cases h with
 | agg cs us hl hr =>
  refine .agg _ us hl fun j hj => ?_
  match j, hj with
  | 0, _ => exact hr 0 (by simp)
  | 1, _ => exact hr 1 (by simp)
  | 2, _ =>
   have := hr 2 (by simp)
   show Rep w Z (.im 0 2 _) _
   rw [this.eq_v]; exact .nil _ _
end Go.Proofs.YtaaokimiadfidaaGreatDoor
namespace Go.Proofs.YtaaokimiadfidaaGreatDoor
open Go.RowKit
set_option linter.unusedVariables false
set_option linter.unusedSimpArgs false
set_option maxRecDepth 100000 in
theorem rl_errsK {xs : List Int} (hl : xs.length ≤ 1000000000) :
  SpecN Tryz.prog 23 [avInts xs] (fun y => y = avI (errsF xs)) := by
 refine SpecN.of_VCN Tryz.func23 rfl Tryz.ntmps23 (Nle rfl) fun w A hB => ?_
 have hnew : True := trivial
 refine VC.sr ?_
 refine VO.ma rfl rfl rfl rfl ?_
 refine VO.nil ?_
 refine VC.seq ?_
 refine VC.sr ?_
 refine VO.mv rfl rfl rfl rfl ?_
 refine VO.val rfl rfl (OpV.len_im rfl Tryz.underlying174 rfl) ?_
 refine VO.mv rfl rfl rfl rfl ?_
 refine VO.nil ?_
 refine VC.block ?_
 refine VC.loopK [(5, _), (6, _)] ⟨rfl, rfl, trivial⟩ ({q : Nat // q ≤ xs.length ∧ ∀ j, j < q → xs.getD j 0 = 0}) (fun (iZ : {q : Nat // q ≤ xs.length ∧ ∀ j, j < q → xs.getD j 0 = 0}) => match iZ with | ⟨q, hq, hn⟩ => [(7, avI (q : Int))]) (fun (iZ : {q : Nat // q ≤ xs.length ∧ ∀ j, j < q → xs.getD j 0 = 0}) => match iZ with | ⟨q, hq, hn⟩ => []) (fun (iZ : {q : Nat // q ≤ xs.length ∧ ∀ j, j < q → xs.getD j 0 = 0}) => match iZ with | ⟨q, hq, hn⟩ => 0) (fun (iZ : {q : Nat // q ≤ xs.length ∧ ∀ j, j < q → xs.getD j 0 = 0}) => match iZ with | ⟨q, hq, hn⟩ => xs.length - q) ⟨0, Nat.zero_le _, fun j hj => absurd hj (Nat.not_lt_zero j)⟩ (Le.mk hB [] ⟨rfl, rfl, rfl, trivial⟩ rfl rfl (Nat.le_refl _)) ?_
 rintro ⟨q, hq, hn⟩
 show VC _ _ _ _ ⟨[(7, avI (q : Int))] ++ [(5, _), (6, _)], [], 0⟩
 refine VC.sr ?_
 refine VO.val rfl rfl (OpV.lss rfl rfl rfl) ?_
 refine VO.nil ?_
 refine VC.seq ?_
 refine VC.cond rfl (fun aH1b => ?_) (fun aH1b => ?_)
 ·have aH1 := aH1b
  try simp only [qqT, qqF, qqN, qqM, qqL, qqE] at aH1
  refine VC.skip ?_
  refine VC.seq ?_
  refine VC.block ?_
  refine VC.sr ?_
  refine VO.val rfl rfl (OpV.indexAddr_1 rfl Tryz.underlying174 Tryz.sizeOf35 rfl rfl rfl (by omega)) ?_
  refine VO.val rfl rfl (OpV.load_at rfl hB OutW.no Tryz.isAgg35 rfl rfl) ?_
  refine VO.ma rfl rfl rfl rfl ?_
  refine VO.nil ?_
  refine VC.sr ?_
  refine VO.mv rfl rfl rfl rfl ?_
  refine VO.val rfl rfl (OpV.neq rfl rfl rfl) ?_
  refine VO.nil ?_
  refine VC.cond rfl (fun h1b => ?_) (fun h1b => ?_)
  ·have h1 := h1b
   try simp only [qqT, qqF, qqN, qqM, qqL, qqE] at h1
   refine VC.sr ?_
   refine VO.mv rfl rfl rfl rfl ?_
   refine VO.ma rfl rfl rfl rfl ?_
   refine VO.nil ?_
   refine VC.ret ?_
   exact Exists.intro _ (And.intro (RetN.one Tryz.results23 (ResN.v rfl)) (by rw [errsF_at (q := q) (by omega) hn h1]))
  ·have h1 := h1b
   try simp only [qqT, qqF, qqN, qqM, qqL, qqE] at h1
   refine VC.skip ?_
   refine VC.region ?_
   refine VO.val rfl rfl (OpV.add rfl rfl rfl (by unfold fits; omega)) ?_
   refine VO.mv rfl rfl rfl rfl ?_
   refine VO.nil ?_
   exact Exists.intro (⟨q + 1, by omega, lt_succ_cases hn ((by omega))⟩) (And.intro (Le.mk hB [] ⟨rfl, rfl, rfl, trivial⟩ rfl rfl (Nat.le_refl _)) (by first | omega | (show _ < _; omega) | (simp only []; omega)))
 ·have aH1 := aH1b
  try simp only [qqT, qqF, qqN, qqM, qqL, qqE] at aH1
  refine VC.exit ?_
  refine VC.sr ?_
  refine VO.ma rfl rfl rfl rfl ?_
  refine VO.nil ?_
  refine VC.ret ?_
  exact Exists.intro _ (And.intro (RetN.one Tryz.results23 (ResN.v rfl)) (by rw [errsF_none (fun j hj => hn j (by omega))]))
set_option maxRecDepth 100000 in
theorem rl_whenK {b : Bool} {e : Int}  :
  SpecN Tryz.prog 25 [avB b, avI e] (fun y => y = avI (if b = true then e else 0)) := by
 refine SpecN.of_VCN Tryz.func25 rfl Tryz.ntmps25 (Nle rfl) fun w A hB => ?_
 have hnew : True := trivial
 refine VC.sr ?_
 refine VO.ma rfl rfl rfl rfl ?_
 refine VO.nil ?_
 refine VC.seq ?_
 refine VC.sr ?_
 refine VO.mv rfl rfl rfl rfl ?_
 refine VO.nil ?_
 refine VC.cond rfl (fun aH1b => ?_) (fun aH1b => ?_)
 ·have aH1 := aH1b
  try simp only [qqT, qqF, qqN, qqM, qqL, qqE] at aH1
  refine VC.sr ?_
  refine VO.mv rfl rfl rfl rfl ?_
  refine VO.ma rfl rfl rfl rfl ?_
  refine VO.nil ?_
  refine VC.ret ?_
  exact Exists.intro _ (And.intro (RetN.one Tryz.results25 (ResN.v rfl)) (by simp_all))
 ·have aH1 := aH1b
  try simp only [qqT, qqF, qqN, qqM, qqL, qqE] at aH1
  refine VC.skip ?_
  refine VC.sr ?_
  refine VO.ma rfl rfl rfl rfl ?_
  refine VO.nil ?_
  refine VC.ret ?_
  exact Exists.intro _ (And.intro (RetN.one Tryz.results25 (ResN.v rfl)) (by simp_all))
set_option maxRecDepth 100000 in
theorem rl_plannedK   :
  SpecN Tryz.prog 62 [] (fun y => y = avB true) := by
 refine SpecN.of_VCN Tryz.func62 rfl Tryz.ntmps62 (Nle rfl) fun w A hB => ?_
 have hnew : True := trivial
 refine VC.sr ?_
 refine VO.ma rfl rfl rfl rfl ?_
 refine VO.nil ?_
 refine VC.sr ?_
 refine VO.val rfl rfl (OpV.build (pls := #[(0, 1), (1, 1), (2, 1)]) rfl Tryz.zeroValue137 Tryz.underlying137 (fun w => by kernel_rfl) rfl rfl) ?_
 refine VO.le _ (Le.recast (t := 4) (y := avPc ⟨⟨#[112]⟩, 10, []⟩) rfl (fun w Z u h => pace_nil h)) ?_
 refine VO.op rfl (OpE.buildSlice (zc := #[.string ⟨#[]⟩, .int .i64 0, .slice none 0 0]) rfl hB rfl Tryz.underlying73 Tryz.sizeOf137 Tryz.zeroValue137 (by decide) (by decide) (by kernel_rfl) rfl rfl ?_)
 refine VO.le _ (Le.recast (t := 5) (y := avL rdP) rfl (fun w Z u h => Rep.rowL (xs := rdP) rfl h)) ?_
 refine VO.val rfl rfl (OpV.build (pls := #[(0, 1), (1, 1), (2, 1), (3, 1), (4, 1)]) rfl Tryz.zeroValue89 Tryz.underlying89 (fun w => by kernel_rfl) rfl rfl) ?_
 refine VO.op rfl (OpE.buildSlice (zc := #[.string ⟨#[]⟩, .string ⟨#[]⟩, .int .i64 0, .int .i64 0, .int .i64 0]) rfl hB rfl Tryz.underlying75 Tryz.sizeOf89 Tryz.zeroValue89 (by decide) (by decide) (by kernel_rfl) rfl rfl ?_)
 refine VO.le _ (Le.recast (t := 7) (y := avL rdO) rfl (fun w Z u h => Rep.rowL (xs := rdO) rfl h)) ?_
 refine VO.op rfl (OpE.buildSlice (zc := #[.int .i64 0]) rfl hB rfl Tryz.underlying22 Tryz.sizeOf3 Tryz.zeroValue3 (by decide) (by decide) (by kernel_rfl) rfl rfl ?_)
 refine VO.le _ (Le.lits (t := 8) (xs := [0]) rfl rfl) ?_
 refine VO.op rfl (OpE.call rfl hB rfl Tryz.call89 rfl (SpecN.spec (plan_Times rdP_sm rdO_sm (by decide))) ?_)
 rintro _ rfl
 refine VO.le _ (Le.recast (t := 9) (y := .tup [avL ([⟨1, 31⟩] : List WinS), avI 0]) rfl (fun w Z u h => by rw [rd_times, rd_sch] at h; exact h)) ?_
 refine VO.mv rfl rfl rfl rfl ?_
 refine VO.val rfl rfl (OpV.extract rfl rfl rfl) ?_
 refine VO.val rfl rfl (OpV.extract rfl rfl rfl) ?_
 refine VO.ma rfl rfl rfl rfl ?_
 refine VO.ma rfl rfl rfl rfl ?_
 refine VO.nil ?_
 refine VC.sr ?_
 refine VO.mv rfl rfl rfl rfl ?_
 refine VO.val rfl rfl (OpV.eql rfl rfl rfl) ?_
 refine VO.le _ (Le.boolT (t := 13) rfl (decide_eq_true rfl)) ?_
 refine VO.mv rfl rfl rfl rfl ?_
 refine VO.opY rfl rfl rfl rfl rfl ?_
 refine OpE.val (W := NoB) (OpV.move (.inl rfl) rfl) rfl ?_
 refine VO.opY rfl rfl rfl rfl rfl ?_
 refine OpE.val (W := NoB) (OpV.len_im rfl Tryz.underlying133 rfl) rfl ?_
 refine VO.opY rfl rfl rfl rfl rfl ?_
 refine OpE.val (W := NoB) (OpV.eql rfl rfl rfl) rfl ?_
 refine VO.le _ (Le.boolT (t := 17) rfl (decide_eq_true rfl)) ?_
 refine VO.val rfl rfl (OpV.pickT rfl rfl rfl rfl rfl) ?_
 refine VO.mv rfl rfl rfl rfl ?_
 refine VO.opY rfl rfl rfl rfl rfl ?_
 refine OpE.val (W := NoB) (OpV.move (.inl rfl) rfl) rfl ?_
 refine VO.opY rfl rfl rfl rfl rfl ?_
 refine OpE.val (W := NoB) (OpV.indexAddr_E rfl Tryz.underlying133 Tryz.sizeOf139 rfl rfl rfl (by show 0 < 1; decide)) rfl ?_
 refine VO.opY rfl rfl rfl rfl rfl ?_
 refine OpE.val (W := NoB) (OpV.fieldAddr_atO 1 rfl Tryz.underlying139 rfl rfl Tryz.sizeOf3 rfl rfl) rfl ?_
 refine VO.opY rfl rfl rfl rfl rfl ?_
 refine OpE.val (W := NoB) (OpV.load_at rfl hB OutW.no Tryz.isAgg3 rfl rfl) rfl ?_
 refine VO.opY rfl rfl rfl rfl rfl ?_
 refine OpE.val (W := NoB) (OpV.eql rfl rfl rfl) rfl ?_
 refine VO.le _ (Le.boolT (t := 24) rfl (decide_eq_true rfl)) ?_
 refine VO.val rfl rfl (OpV.pickT rfl rfl rfl rfl rfl) ?_
 refine VO.ma rfl rfl rfl rfl ?_
 refine VO.nil ?_
 refine VC.ret ?_
 exact Exists.intro _ (And.intro (RetN.one Tryz.results62 (ResN.v rfl)) (rfl))
theorem kt_2 (a b : Int) : errsF [a, b] = if a ≠ 0 then a else b := by
 by_cases h1 : a = 0 <;> by_cases h2 : b = 0 <;> simp [errsF, h1, h2]
theorem kt_e1 {p : List PaceS} {o : List OrdrS} {k : ByteArray} : errsF [bothF p o, if decide (fidx (fun y => sEq y.key k) o < 0) = true then 8 else 0] = kitE p o k := by
 have e : decide (fidx (fun y : OrdrS => sEq y.key k) o < 0) = !hasO o k := by
  unfold hasO
  rw [← fidx_any]
  cases h : decide (0 ≤ fidx (fun x : OrdrS => sEq x.key k) o) with
  | true => exact decide_eq_false (by have := of_decide_eq_true h; omega)
  | false => exact decide_eq_true (by have := of_decide_eq_false h; omega)
 rw [kt_2, e, kitE]
 cases hasO o k <;> simp
theorem kt_e2 {p : List PaceS} {o : List OrdrS} {st : List NeedS} : errsF [bothF p o, needsF st 0 1000000000] = stkE p o st := by rw [kt_2]; rfl
theorem stock_sm {l : List NeedS} (h : NsOk 4 l) : SmN l := ⟨by have := h.1; omega, fun i => by have := partK_size (h.getD i); omega⟩
theorem kits_part {p : List PaceS} {o : List OrdrS} (hp : ∀ x ∈ p, PcOk 5 x) : ∀ y ∈ kitsL p o, y.key ∈ partK := fun y hy => by
 obtain ⟨x, _, hy⟩ := List.mem_flatMap.1 hy
 obtain ⟨n, hn, rfl⟩ := List.mem_map.1 hy
 have hx : PcOk 5 (paceO p x.product) := by
  unfold paceO
  cases hf : p.find? (fun z => sEq z.product x.product) with
  | none => exact ⟨by decide, Nat.zero_le _, fun y hy => by cases hy⟩
  | some z => exact hp z (List.mem_of_find?_eq_some hf)
 exact hx.2.2 n hn
theorem kit_max {p : List PaceS} {x : OrdrS} (hp : ∀ x ∈ p, PcOk 5 x) : (kitL p x).length ≤ 5 := by
 unfold kitL
 rw [kitN_len]
 have hx : PcOk 5 (paceO p x.product) := by
  unfold paceO
  cases hf : p.find? (fun z => sEq z.product x.product) with
  | none => exact ⟨by decide, Nat.zero_le _, fun y hy => by cases hy⟩
  | some z => exact hp z (List.mem_of_find?_eq_some hf)
 exact hx.2.1
theorem kitR_max {p : List PaceS} {o : List OrdrS} {k : ByteArray} (hp : ∀ x ∈ p, PcOk 5 x) : (kitR p o k).length ≤ 5 := by
 unfold kitR
 split
 ·exact kit_max hp
 ·exact Nat.zero_le _
theorem shortR_max {p : List PaceS} {o : List OrdrS} {st : List NeedS} (hp : ∀ x ∈ p, PcOk 5 x) : (shortR p o st).length ≤ 6 := by
 unfold shortR
 split
 ·have h1 := shortL_len (kitsL p o) st
  have h2 := keys_bd (kits_part (o := o) hp)
  have h3 : partK.length = 6 := rfl
  omega
 ·exact Nat.zero_le _
theorem covE_max {p : List PaceS} {o : List OrdrS} {st : List NeedS} : (covE p o st).length ≤ o.length := by
 unfold covE
 split
 ·unfold covL
  rw [(srtB_perm _).length_eq, covR]
  have key : ∀ (l : List Int) (m : List (ByteArray × Int)) (c : List ByteArray), (l.foldl (covS p o) (m, c)).2.length ≤ c.length + l.length := by
   intro l
   induction l with
   | nil => intro m c; simp
   | cons i l ih =>
    intro m c
    rw [List.foldl_cons]
    cases h : covT (m, c).1 (kitL p (o.getD i.toNat default)) with
    | true => rw [covS_t h]; have := ih m c; simp only [List.length_cons]; omega
    | false => rw [covS_f h]; have := ih (subP m (kitL p (o.getD i.toNat default))) (c ++ [(o.getD i.toNat default).key]); rw [List.length_append, List.length_singleton] at this; simp only [List.length_cons]; omega
  have := key (dueL o) (amtP st) []
  rw [dueL_len] at this
  simpa using this
 ·exact Nat.zero_le _
set_option maxRecDepth 100000 in
set_option maxHeartbeats 40000000 in
theorem kitsCounted_any (a0 : Option Addr) (cap0 : Nat) (L : List Int) (w : World) (hin : Inp w a0 L) :
  Calls Tryz.prog 5 #[.slice a0 L.length cap0] w fun e w' => e = .returned (.bool true) ∧ Chg NoB w w' := by
 refine law_calls Tryz.func5 rfl Tryz.ntmps5 (Nle rfl) Tryz.results5 ?_
 have hB := B0.ok w (fun _ => True) 134
 have hnew : True := trivial
 refine VC.sr ?_
 refine VO.ma rfl rfl rfl rfl ?_
 refine VO.nil ?_
 refine VC.sr ?_
 refine VO.mv rfl rfl rfl rfl ?_
 refine VO.val rfl rfl (OpV.build (pls := #[(0, 1), (1, 1)]) rfl Tryz.zeroValue25 Tryz.underlying25 (fun w => by kernel_rfl) rfl rfl) ?_
 refine VO.op rfl (OpE.box rfl hB rfl rfl rfl ?_)
 intro g
 refine VO.ma rfl rfl rfl rfl ?_
 refine VO.nil ?_
 refine VC.stream (i := 0) (sl := [(3, sp g)]) (by exact rfl) (by exact rfl) hin (by exact ⟨rfl, trivial⟩) (fun p hp => by simp at hp; subst hp; exact ⟨_, rfl⟩) (fun w1 hge hB => ?_)
 refine VC.sr ?_
 refine VO.mv rfl rfl rfl rfl ?_
 refine VO.op rfl (OpE.callT' (0) rfl rfl hB rfl Tryz.call44 rfl (paces_T) (by omega) ?_)
 rintro _ ⟨pc, hpc, rfl⟩
 refine VO.mv rfl rfl rfl rfl ?_
 refine VO.op rfl (OpE.callT' (0 + 100) rfl rfl hB rfl Tryz.call45 rfl (orders_M (m := 5) (by decide)) (by omega) ?_)
 rintro _ ⟨o, ho, rfl⟩
 refine VO.mv rfl rfl rfl rfl ?_
 refine VO.op rfl (OpE.callT' (0 + 100 + 100) rfl rfl hB rfl Tryz.call46 rfl (stock_T) (by omega) ?_)
 rintro _ ⟨st, hst, rfl⟩
 refine VO.mv rfl rfl rfl rfl ?_
 refine VO.op rfl (OpE.buildSlice (zc := #[.string ⟨#[]⟩, .string ⟨#[]⟩, .string ⟨#[]⟩]) rfl hB rfl Tryz.underlying67 Tryz.sizeOf9 Tryz.zeroValue9 (by decide) (by decide) (by kernel_rfl) rfl rfl ?_)
 refine VO.op rfl (OpE.callT' (0 + 100 + 100 + 30) rfl rfl hB rfl Tryz.call16 rfl (some_T 1000 (by rfl) (by decide) (by decide) (AllS.cons (by decide) (AllS.cons (by decide) (AllS.cons (by decide) AllS.nil)))) (by omega) ?_)
 rintro _ ⟨r31, hr31, rfl⟩
 refine VO.ma rfl rfl rfl rfl ?_
 refine VO.ma rfl rfl rfl rfl ?_
 refine VO.ma rfl rfl rfl rfl ?_
 refine VO.ma rfl rfl rfl rfl ?_
 refine VO.nil ?_
 refine VC.seq ?_
 have hps := PcOk.sm hpc.2 (by omega)
 have hos := ho.2.sm (by omega)
 have hss := stock_sm hst
 have hkp := kits_part (o := o) hpc.2
 have hpk : partK.length = 6 := rfl
 have hol := ho.1
 have hpl := hps.len
 have hk1 := kitR_max (o := o) (k := r31) hpc.2
 have hk2 := shortR_max (o := o) (st := st) hpc.2
 have hk3 := covE_max (p := pc) (o := o) (st := st)
 refine VC.le ⟨[(4, _), (5, _), (6, _), (7, _)], [], 0 + 100 + 100 + 30 + 1⟩ (Le.mk hB [] ⟨rfl, rfl, rfl, rfl, trivial⟩ rfl rfl (Nat.le_refl _)) ?_
 refine VC.region ?_
 refine VO.mv rfl rfl rfl rfl ?_
 refine VO.mv rfl rfl rfl rfl ?_
 refine VO.mv rfl rfl rfl rfl ?_
 refine VO.op rfl (OpE.call rfl hB rfl Tryz.call47 rfl (plan_Kit hps hos) ?_)
 rintro _ rfl
 refine VO.mv rfl rfl rfl rfl ?_
 refine VO.val rfl rfl (OpV.extract rfl rfl rfl) ?_
 refine VO.val rfl rfl (OpV.extract rfl rfl rfl) ?_
 refine VO.ma rfl rfl rfl rfl ?_
 refine VO.ma rfl rfl rfl rfl ?_
 refine VO.nil ?_
 refine VC.sr ?_
 refine VO.mv rfl rfl rfl rfl ?_
 refine VO.mv rfl rfl rfl rfl ?_
 refine VO.mv rfl rfl rfl rfl ?_
 refine VO.op rfl (OpE.call rfl hB rfl Tryz.call48 rfl (SpecN.spec (plan_Short (ks := partK) hps hos hss hkp (by omega))) ?_)
 rintro _ rfl
 refine VO.mv rfl rfl rfl rfl ?_
 refine VO.val rfl rfl (OpV.extract rfl rfl rfl) ?_
 refine VO.val rfl rfl (OpV.extract rfl rfl rfl) ?_
 refine VO.ma rfl rfl rfl rfl ?_
 refine VO.ma rfl rfl rfl rfl ?_
 refine VO.nil ?_
 refine VC.sr ?_
 refine VO.mv rfl rfl rfl rfl ?_
 refine VO.mv rfl rfl rfl rfl ?_
 refine VO.mv rfl rfl rfl rfl ?_
 refine VO.op rfl (OpE.call rfl hB rfl Tryz.call49 rfl (SpecN.spec (plan_Covered hps hos hss (by omega))) ?_)
 rintro _ rfl
 refine VO.mv rfl rfl rfl rfl ?_
 refine VO.val rfl rfl (OpV.extract rfl rfl rfl) ?_
 refine VO.val rfl rfl (OpV.extract rfl rfl rfl) ?_
 refine VO.ma rfl rfl rfl rfl ?_
 refine VO.ma rfl rfl rfl rfl ?_
 refine VO.nil ?_
 refine VC.sr ?_
 refine VO.mv rfl rfl rfl rfl ?_
 refine VO.mv rfl rfl rfl rfl ?_
 refine VO.op rfl (OpE.call rfl hB rfl Tryz.call50 rfl (SpecN.spec (rf_BothFault hps hos)) ?_)
 rintro _ rfl
 refine VO.ma rfl rfl rfl rfl ?_
 refine VO.nil ?_
 refine VC.sr ?_
 refine VO.mv rfl rfl rfl rfl ?_
 refine VO.mv rfl rfl rfl rfl ?_
 refine VO.mv rfl rfl rfl rfl ?_
 refine VO.op rfl (OpE.call rfl hB rfl Tryz.call51 rfl (SpecN.spec (rf_OrderAt (by omega))) ?_)
 rintro _ rfl
 refine VO.val rfl rfl (OpV.lss rfl rfl rfl) ?_
 refine VO.op rfl (OpE.call rfl hB rfl Tryz.call25 rfl (SpecN.spec (rl_whenK)) ?_)
 rintro _ rfl
 refine VO.op rfl (OpE.buildSlice (zc := #[.int .i64 0, .int .i64 0]) rfl hB rfl Tryz.underlying174 Tryz.sizeOf35 Tryz.zeroValue35 (by decide) (by decide) (by kernel_rfl) rfl rfl ?_)
 refine VO.le _ (Le.lits (t := 62) (xs := [bothF pc o, if decide (fidx (fun y => sEq y.key r31) o < 0) = true then 8 else 0]) rfl rfl) ?_
 refine VO.op rfl (OpE.call rfl hB rfl Tryz.call23 rfl (SpecN.spec (rl_errsK (by simp))) ?_)
 rintro _ rfl
 refine VO.le _ (Le.recast (t := 63) (y := avI (kitE pc o r31)) rfl (fun w Z u h => by rw [← kt_e1]; exact h)) ?_
 refine VO.mv rfl rfl rfl rfl ?_
 refine VO.mv rfl rfl rfl rfl ?_
 refine VO.op rfl (OpE.call rfl hB rfl Tryz.call52 rfl (SpecN.spec (rf_StockFault hss)) ?_)
 rintro _ rfl
 refine VO.op rfl (OpE.buildSlice (zc := #[.int .i64 0, .int .i64 0]) rfl hB rfl Tryz.underlying174 Tryz.sizeOf35 Tryz.zeroValue35 (by decide) (by decide) (by kernel_rfl) rfl rfl ?_)
 refine VO.le _ (Le.lits (t := 67) (xs := [bothF pc o, needsF st 0 1000000000]) rfl rfl) ?_
 refine VO.op rfl (OpE.call rfl hB rfl Tryz.call23 rfl (SpecN.spec (rl_errsK (by simp))) ?_)
 rintro _ rfl
 refine VO.le _ (Le.recast (t := 68) (y := avI (stkE pc o st)) rfl (fun w Z u h => by rw [← kt_e2]; exact h)) ?_
 refine VO.ma rfl rfl rfl rfl ?_
 refine VO.ma rfl rfl rfl rfl ?_
 refine VO.nil ?_
 refine VC.sr ?_
 refine VO.ma rfl rfl rfl rfl ?_
 refine VO.ma rfl rfl rfl rfl ?_
 refine VO.nil ?_
 refine VC.seq ?_
 refine VC.sr ?_
 refine VO.mv rfl rfl rfl rfl ?_
 refine VO.val rfl rfl (OpV.eql rfl rfl rfl) ?_
 refine VO.nil ?_
 refine VC.cond rfl (fun k0b => ?_) (fun k0b => ?_)
 ·have k0 := k0b
  try simp only [qqT, qqF, qqN, qqM, qqL, qqE] at k0
  have hz := kitE_ok k0
  have hz2 := both_ok hz.1
  have hfx : 0 ≤ fidx (fun y : OrdrS => sEq y.key r31) o := by
   have := hz.2
   unfold hasO at this
   rw [← fidx_any] at this
   exact of_decide_eq_true this
  have hfa := fidx_at (d := default) (p := fun x : OrdrS => sEq x.key r31) (xs := o) (by omega)
  have hfb := hfa.1
  refine VC.region ?_
  refine VO.mv rfl rfl rfl rfl ?_
  refine VO.mv rfl rfl rfl rfl ?_
  refine VO.mv rfl rfl rfl rfl ?_
  refine VO.mv rfl rfl rfl rfl ?_
  refine VO.op rfl (OpE.call rfl hB rfl Tryz.call51 rfl (SpecN.spec (rf_OrderAt (by omega))) ?_)
  rintro _ rfl
  refine VO.val rfl rfl (OpV.indexAddr_E rfl Tryz.underlying75 Tryz.sizeOf89 rfl rfl (Int.toNat_of_nonneg hfx).symm (by omega)) ?_
  refine VO.val rfl rfl (OpV.loadK_at rfl hB OutW.no Tryz.isAgg89 Tryz.sizeOf89 rfl rfl) ?_
  refine VO.op rfl (OpE.call rfl hB rfl Tryz.call53 rfl (SpecN.spec (rf_KitOf hpl hz2.1 (ordr_count hz2.2 (by omega)))) ?_)
  rintro _ rfl
  refine VO.le _ (Le.recast (t := 78) (y := avL (kitR pc o r31)) rfl (fun w Z u h => by rw [kitR_ok k0]; exact h)) ?_
  refine VO.ma rfl rfl rfl rfl ?_
  refine VO.nil ?_
  refine VC.sr ?_
  refine VO.ma rfl rfl rfl rfl ?_
  refine VO.nil ?_
  refine VC.seq ?_
  refine VC.sr ?_
  refine VO.mv rfl rfl rfl rfl ?_
  refine VO.val rfl rfl (OpV.eql rfl rfl rfl) ?_
  refine VO.nil ?_
  refine VC.cond rfl (fun k1b => ?_) (fun k1b => ?_)
  ·have k1 := k1b
   try simp only [qqT, qqF, qqN, qqM, qqL, qqE] at k1
   have hs0 := stk_ok k1
   have hs1 := both_ok hs0.1
   refine VC.region ?_
   refine VO.mv rfl rfl rfl rfl ?_
   refine VO.mv rfl rfl rfl rfl ?_
   refine VO.mv rfl rfl rfl rfl ?_
   refine VO.op rfl (OpE.call rfl hB rfl Tryz.call54 rfl (SpecN.spec (rf_ShortOf (ks := partK) hpl hs1.1 hs1.2 hs0.2 hkp (fun y hy => hst.2 y hy) (by omega))) ?_)
   rintro _ rfl
   refine VO.le _ (Le.recast (t := 84) (y := avL (shortR pc o st)) rfl (fun w Z u h => by rw [shortR, if_pos k1]; exact h)) ?_
   refine VO.mv rfl rfl rfl rfl ?_
   refine VO.mv rfl rfl rfl rfl ?_
   refine VO.mv rfl rfl rfl rfl ?_
   refine VO.op rfl (OpE.call rfl hB rfl Tryz.call55 rfl (SpecN.spec (rf_CoveredOf hpl hs1.1 hs1.2 hs0.2 (by omega))) ?_)
   rintro _ rfl
   refine VO.le _ (Le.recast (t := 88) (y := avStrs (covE pc o st)) rfl (fun w Z u h => by rw [covE, if_pos k1]; exact h)) ?_
   refine VO.ma rfl rfl rfl rfl ?_
   refine VO.ma rfl rfl rfl rfl ?_
   refine VO.nil ?_
   refine VC.sr ?_
   refine VO.mv rfl rfl rfl rfl ?_
   refine VO.op rfl (OpE.call rfl hB rfl Tryz.call56 rfl (SpecN.spec (plan_CheckOrders hos)) ?_)
   rintro _ rfl
   refine VO.mv rfl rfl rfl rfl ?_
   refine VO.op rfl (OpE.call rfl hB rfl Tryz.call57 rfl (SpecN.spec (rf_OrdersFault hos)) ?_)
   rintro _ rfl
   refine VO.val rfl rfl (OpV.eql rfl rfl rfl) ?_
   refine VO.le _ (Le.boolT (t := 93) rfl (decide_eq_true rfl)) ?_
   refine VO.mv rfl rfl rfl rfl ?_
   refine VO.opY rfl rfl rfl rfl rfl ?_
   refine OpE.val (W := NoB) (OpV.move (.inl rfl) rfl) rfl ?_
   refine VO.opY rfl rfl rfl rfl rfl ?_
   refine OpE.call rfl hB rfl Tryz.call58 rfl (SpecN.spec (plan_CheckPaces hps)) ?_
   rintro _ rfl
   refine VO.opY rfl rfl rfl rfl rfl ?_
   refine OpE.val (W := NoB) (OpV.move (.inl rfl) rfl) rfl ?_
   refine VO.opY rfl rfl rfl rfl rfl ?_
   refine OpE.call rfl hB rfl Tryz.call59 rfl (SpecN.spec (rf_PacesFault hps)) ?_
   rintro _ rfl
   refine VO.opY rfl rfl rfl rfl rfl ?_
   refine OpE.val (W := NoB) (OpV.eql rfl rfl rfl) rfl ?_
   refine VO.le _ (Le.boolT (t := 99) rfl (decide_eq_true rfl)) ?_
   refine VO.val rfl rfl (OpV.pickT rfl rfl rfl rfl rfl) ?_
   refine VO.mv rfl rfl rfl rfl ?_
   refine VO.opY rfl rfl rfl rfl rfl ?_
   refine OpE.val (W := NoB) (OpV.move (.inl rfl) rfl) rfl ?_
   refine VO.opY rfl rfl rfl rfl rfl ?_
   refine OpE.val (W := NoB) (OpV.move (.inl rfl) rfl) rfl ?_
   refine VO.opY rfl rfl rfl rfl rfl ?_
   refine OpE.val (W := NoB) (OpV.eql rfl rfl rfl) rfl ?_
   refine VO.le _ (Le.boolT (t := 104) rfl (decide_eq_true rfl)) ?_
   refine VO.val rfl rfl (OpV.pickT rfl rfl rfl rfl rfl) ?_
   refine VO.mv rfl rfl rfl rfl ?_
   refine VO.opY rfl rfl rfl rfl rfl ?_
   refine OpE.val (W := NoB) (OpV.move (.inl rfl) rfl) rfl ?_
   refine VO.opY rfl rfl rfl rfl rfl ?_
   refine OpE.val (W := NoB) (OpV.move (.inl rfl) rfl) rfl ?_
   refine VO.opY rfl rfl rfl rfl rfl ?_
   refine OpE.call rfl hB rfl Tryz.call60 rfl (SpecN.spec (slices_Equal_need (by omega) (by omega))) ?_
   rintro _ rfl
   refine VO.le _ (Le.boolT (t := 109) rfl (eqLs_self eqNd_self _)) ?_
   refine VO.val rfl rfl (OpV.pickT rfl rfl rfl rfl rfl) ?_
   refine VO.mv rfl rfl rfl rfl ?_
   refine VO.opY rfl rfl rfl rfl rfl ?_
   refine OpE.val (W := NoB) (OpV.move (.inl rfl) rfl) rfl ?_
   refine VO.opY rfl rfl rfl rfl rfl ?_
   refine OpE.val (W := NoB) (OpV.move (.inl rfl) rfl) rfl ?_
   refine VO.opY rfl rfl rfl rfl rfl ?_
   refine OpE.val (W := NoB) (OpV.eql rfl rfl rfl) rfl ?_
   refine VO.le _ (Le.boolT (t := 114) rfl (decide_eq_true rfl)) ?_
   refine VO.val rfl rfl (OpV.pickT rfl rfl rfl rfl rfl) ?_
   refine VO.mv rfl rfl rfl rfl ?_
   refine VO.opY rfl rfl rfl rfl rfl ?_
   refine OpE.val (W := NoB) (OpV.move (.inl rfl) rfl) rfl ?_
   refine VO.opY rfl rfl rfl rfl rfl ?_
   refine OpE.val (W := NoB) (OpV.move (.inl rfl) rfl) rfl ?_
   refine VO.opY rfl rfl rfl rfl rfl ?_
   refine OpE.call rfl hB rfl Tryz.call60 rfl (SpecN.spec (slices_Equal_need (by omega) (by omega))) ?_
   rintro _ rfl
   refine VO.le _ (Le.boolT (t := 119) rfl (eqLs_self eqNd_self _)) ?_
   refine VO.val rfl rfl (OpV.pickT rfl rfl rfl rfl rfl) ?_
   refine VO.mv rfl rfl rfl rfl ?_
   refine VO.opY rfl rfl rfl rfl rfl ?_
   refine OpE.val (W := NoB) (OpV.move (.inl rfl) rfl) rfl ?_
   refine VO.opY rfl rfl rfl rfl rfl ?_
   refine OpE.val (W := NoB) (OpV.move (.inl rfl) rfl) rfl ?_
   refine VO.opY rfl rfl rfl rfl rfl ?_
   refine OpE.val (W := NoB) (OpV.eql rfl rfl rfl) rfl ?_
   refine VO.le _ (Le.boolT (t := 124) rfl (decide_eq_true rfl)) ?_
   refine VO.val rfl rfl (OpV.pickT rfl rfl rfl rfl rfl) ?_
   refine VO.mv rfl rfl rfl rfl ?_
   refine VO.opY rfl rfl rfl rfl rfl ?_
   refine OpE.val (W := NoB) (OpV.move (.inl rfl) rfl) rfl ?_
   refine VO.opY rfl rfl rfl rfl rfl ?_
   refine OpE.val (W := NoB) (OpV.move (.inl rfl) rfl) rfl ?_
   refine VO.opY rfl rfl rfl rfl rfl ?_
   refine OpE.call rfl hB rfl Tryz.call61 rfl (SpecN.spec (slices_Equal_str (by omega) (by omega))) ?_
   rintro _ rfl
   refine VO.le _ (Le.boolT (t := 129) rfl (eqLs_self sEq_refl _)) ?_
   refine VO.val rfl rfl (OpV.pickT rfl rfl rfl rfl rfl) ?_
   refine VO.mv rfl rfl rfl rfl ?_
   refine VO.opY rfl rfl rfl rfl rfl ?_
   refine OpE.call rfl hB rfl Tryz.call62 rfl (SpecN.spec (rl_plannedK)) ?_
   rintro _ rfl
   refine VO.val rfl rfl (OpV.pickT rfl rfl rfl rfl rfl) ?_
   refine VO.ma rfl rfl rfl rfl ?_
   refine VO.nil ?_
   refine VC.ret ?_
   exact And.intro rfl rfl
  ·have k1 := k1b
   try simp only [qqT, qqF, qqN, qqM, qqL, qqE] at k1
   refine VC.le _ (Le.recast (t := 18) (y := avL (shortR pc o st)) rfl (fun w Z u h => by rw [shortR, if_neg k1, h.eq_v]; exact .nil _ _)) ?_
   refine VC.le _ (Le.recast (t := 19) (y := avStrs (covE pc o st)) rfl (fun w Z u h => by rw [covE, if_neg k1, h.eq_v]; exact .nil _ _)) ?_
   refine VC.skip ?_
   refine VC.sr ?_
   refine VO.mv rfl rfl rfl rfl ?_
   refine VO.op rfl (OpE.call rfl hB rfl Tryz.call56 rfl (SpecN.spec (plan_CheckOrders hos)) ?_)
   rintro _ rfl
   refine VO.mv rfl rfl rfl rfl ?_
   refine VO.op rfl (OpE.call rfl hB rfl Tryz.call57 rfl (SpecN.spec (rf_OrdersFault hos)) ?_)
   rintro _ rfl
   refine VO.val rfl rfl (OpV.eql rfl rfl rfl) ?_
   refine VO.le _ (Le.boolT (t := 93) rfl (decide_eq_true rfl)) ?_
   refine VO.mv rfl rfl rfl rfl ?_
   refine VO.opY rfl rfl rfl rfl rfl ?_
   refine OpE.val (W := NoB) (OpV.move (.inl rfl) rfl) rfl ?_
   refine VO.opY rfl rfl rfl rfl rfl ?_
   refine OpE.call rfl hB rfl Tryz.call58 rfl (SpecN.spec (plan_CheckPaces hps)) ?_
   rintro _ rfl
   refine VO.opY rfl rfl rfl rfl rfl ?_
   refine OpE.val (W := NoB) (OpV.move (.inl rfl) rfl) rfl ?_
   refine VO.opY rfl rfl rfl rfl rfl ?_
   refine OpE.call rfl hB rfl Tryz.call59 rfl (SpecN.spec (rf_PacesFault hps)) ?_
   rintro _ rfl
   refine VO.opY rfl rfl rfl rfl rfl ?_
   refine OpE.val (W := NoB) (OpV.eql rfl rfl rfl) rfl ?_
   refine VO.le _ (Le.boolT (t := 99) rfl (decide_eq_true rfl)) ?_
   refine VO.val rfl rfl (OpV.pickT rfl rfl rfl rfl rfl) ?_
   refine VO.mv rfl rfl rfl rfl ?_
   refine VO.opY rfl rfl rfl rfl rfl ?_
   refine OpE.val (W := NoB) (OpV.move (.inl rfl) rfl) rfl ?_
   refine VO.opY rfl rfl rfl rfl rfl ?_
   refine OpE.val (W := NoB) (OpV.move (.inl rfl) rfl) rfl ?_
   refine VO.opY rfl rfl rfl rfl rfl ?_
   refine OpE.val (W := NoB) (OpV.eql rfl rfl rfl) rfl ?_
   refine VO.le _ (Le.boolT (t := 104) rfl (decide_eq_true rfl)) ?_
   refine VO.val rfl rfl (OpV.pickT rfl rfl rfl rfl rfl) ?_
   refine VO.mv rfl rfl rfl rfl ?_
   refine VO.opY rfl rfl rfl rfl rfl ?_
   refine OpE.val (W := NoB) (OpV.move (.inl rfl) rfl) rfl ?_
   refine VO.opY rfl rfl rfl rfl rfl ?_
   refine OpE.val (W := NoB) (OpV.move (.inl rfl) rfl) rfl ?_
   refine VO.opY rfl rfl rfl rfl rfl ?_
   refine OpE.call rfl hB rfl Tryz.call60 rfl (SpecN.spec (slices_Equal_need (by omega) (by omega))) ?_
   rintro _ rfl
   refine VO.le _ (Le.boolT (t := 109) rfl (eqLs_self eqNd_self _)) ?_
   refine VO.val rfl rfl (OpV.pickT rfl rfl rfl rfl rfl) ?_
   refine VO.mv rfl rfl rfl rfl ?_
   refine VO.opY rfl rfl rfl rfl rfl ?_
   refine OpE.val (W := NoB) (OpV.move (.inl rfl) rfl) rfl ?_
   refine VO.opY rfl rfl rfl rfl rfl ?_
   refine OpE.val (W := NoB) (OpV.move (.inl rfl) rfl) rfl ?_
   refine VO.opY rfl rfl rfl rfl rfl ?_
   refine OpE.val (W := NoB) (OpV.eql rfl rfl rfl) rfl ?_
   refine VO.le _ (Le.boolT (t := 114) rfl (decide_eq_true rfl)) ?_
   refine VO.val rfl rfl (OpV.pickT rfl rfl rfl rfl rfl) ?_
   refine VO.mv rfl rfl rfl rfl ?_
   refine VO.opY rfl rfl rfl rfl rfl ?_
   refine OpE.val (W := NoB) (OpV.move (.inl rfl) rfl) rfl ?_
   refine VO.opY rfl rfl rfl rfl rfl ?_
   refine OpE.val (W := NoB) (OpV.move (.inl rfl) rfl) rfl ?_
   refine VO.opY rfl rfl rfl rfl rfl ?_
   refine OpE.call rfl hB rfl Tryz.call60 rfl (SpecN.spec (slices_Equal_need (by omega) (by omega))) ?_
   rintro _ rfl
   refine VO.le _ (Le.boolT (t := 119) rfl (eqLs_self eqNd_self _)) ?_
   refine VO.val rfl rfl (OpV.pickT rfl rfl rfl rfl rfl) ?_
   refine VO.mv rfl rfl rfl rfl ?_
   refine VO.opY rfl rfl rfl rfl rfl ?_
   refine OpE.val (W := NoB) (OpV.move (.inl rfl) rfl) rfl ?_
   refine VO.opY rfl rfl rfl rfl rfl ?_
   refine OpE.val (W := NoB) (OpV.move (.inl rfl) rfl) rfl ?_
   refine VO.opY rfl rfl rfl rfl rfl ?_
   refine OpE.val (W := NoB) (OpV.eql rfl rfl rfl) rfl ?_
   refine VO.le _ (Le.boolT (t := 124) rfl (decide_eq_true rfl)) ?_
   refine VO.val rfl rfl (OpV.pickT rfl rfl rfl rfl rfl) ?_
   refine VO.mv rfl rfl rfl rfl ?_
   refine VO.opY rfl rfl rfl rfl rfl ?_
   refine OpE.val (W := NoB) (OpV.move (.inl rfl) rfl) rfl ?_
   refine VO.opY rfl rfl rfl rfl rfl ?_
   refine OpE.val (W := NoB) (OpV.move (.inl rfl) rfl) rfl ?_
   refine VO.opY rfl rfl rfl rfl rfl ?_
   refine OpE.call rfl hB rfl Tryz.call61 rfl (SpecN.spec (slices_Equal_str (by omega) (by omega))) ?_
   rintro _ rfl
   refine VO.le _ (Le.boolT (t := 129) rfl (eqLs_self sEq_refl _)) ?_
   refine VO.val rfl rfl (OpV.pickT rfl rfl rfl rfl rfl) ?_
   refine VO.mv rfl rfl rfl rfl ?_
   refine VO.opY rfl rfl rfl rfl rfl ?_
   refine OpE.call rfl hB rfl Tryz.call62 rfl (SpecN.spec (rl_plannedK)) ?_
   rintro _ rfl
   refine VO.val rfl rfl (OpV.pickT rfl rfl rfl rfl rfl) ?_
   refine VO.ma rfl rfl rfl rfl ?_
   refine VO.nil ?_
   refine VC.ret ?_
   exact And.intro rfl rfl
 ·have k0 := k0b
  try simp only [qqT, qqF, qqN, qqM, qqL, qqE] at k0
  refine VC.le _ (Le.recast (t := 17) (y := avL (kitR pc o r31)) rfl (fun w Z u h => by rw [kitR_no k0, h.eq_v]; exact .nil _ _)) ?_
  refine VC.skip ?_
  refine VC.sr ?_
  refine VO.ma rfl rfl rfl rfl ?_
  refine VO.nil ?_
  refine VC.seq ?_
  refine VC.sr ?_
  refine VO.mv rfl rfl rfl rfl ?_
  refine VO.val rfl rfl (OpV.eql rfl rfl rfl) ?_
  refine VO.nil ?_
  refine VC.cond rfl (fun k1b => ?_) (fun k1b => ?_)
  ·have k1 := k1b
   try simp only [qqT, qqF, qqN, qqM, qqL, qqE] at k1
   have hs0 := stk_ok k1
   have hs1 := both_ok hs0.1
   refine VC.region ?_
   refine VO.mv rfl rfl rfl rfl ?_
   refine VO.mv rfl rfl rfl rfl ?_
   refine VO.mv rfl rfl rfl rfl ?_
   refine VO.op rfl (OpE.call rfl hB rfl Tryz.call54 rfl (SpecN.spec (rf_ShortOf (ks := partK) hpl hs1.1 hs1.2 hs0.2 hkp (fun y hy => hst.2 y hy) (by omega))) ?_)
   rintro _ rfl
   refine VO.le _ (Le.recast (t := 84) (y := avL (shortR pc o st)) rfl (fun w Z u h => by rw [shortR, if_pos k1]; exact h)) ?_
   refine VO.mv rfl rfl rfl rfl ?_
   refine VO.mv rfl rfl rfl rfl ?_
   refine VO.mv rfl rfl rfl rfl ?_
   refine VO.op rfl (OpE.call rfl hB rfl Tryz.call55 rfl (SpecN.spec (rf_CoveredOf hpl hs1.1 hs1.2 hs0.2 (by omega))) ?_)
   rintro _ rfl
   refine VO.le _ (Le.recast (t := 88) (y := avStrs (covE pc o st)) rfl (fun w Z u h => by rw [covE, if_pos k1]; exact h)) ?_
   refine VO.ma rfl rfl rfl rfl ?_
   refine VO.ma rfl rfl rfl rfl ?_
   refine VO.nil ?_
   refine VC.sr ?_
   refine VO.mv rfl rfl rfl rfl ?_
   refine VO.op rfl (OpE.call rfl hB rfl Tryz.call56 rfl (SpecN.spec (plan_CheckOrders hos)) ?_)
   rintro _ rfl
   refine VO.mv rfl rfl rfl rfl ?_
   refine VO.op rfl (OpE.call rfl hB rfl Tryz.call57 rfl (SpecN.spec (rf_OrdersFault hos)) ?_)
   rintro _ rfl
   refine VO.val rfl rfl (OpV.eql rfl rfl rfl) ?_
   refine VO.le _ (Le.boolT (t := 93) rfl (decide_eq_true rfl)) ?_
   refine VO.mv rfl rfl rfl rfl ?_
   refine VO.opY rfl rfl rfl rfl rfl ?_
   refine OpE.val (W := NoB) (OpV.move (.inl rfl) rfl) rfl ?_
   refine VO.opY rfl rfl rfl rfl rfl ?_
   refine OpE.call rfl hB rfl Tryz.call58 rfl (SpecN.spec (plan_CheckPaces hps)) ?_
   rintro _ rfl
   refine VO.opY rfl rfl rfl rfl rfl ?_
   refine OpE.val (W := NoB) (OpV.move (.inl rfl) rfl) rfl ?_
   refine VO.opY rfl rfl rfl rfl rfl ?_
   refine OpE.call rfl hB rfl Tryz.call59 rfl (SpecN.spec (rf_PacesFault hps)) ?_
   rintro _ rfl
   refine VO.opY rfl rfl rfl rfl rfl ?_
   refine OpE.val (W := NoB) (OpV.eql rfl rfl rfl) rfl ?_
   refine VO.le _ (Le.boolT (t := 99) rfl (decide_eq_true rfl)) ?_
   refine VO.val rfl rfl (OpV.pickT rfl rfl rfl rfl rfl) ?_
   refine VO.mv rfl rfl rfl rfl ?_
   refine VO.opY rfl rfl rfl rfl rfl ?_
   refine OpE.val (W := NoB) (OpV.move (.inl rfl) rfl) rfl ?_
   refine VO.opY rfl rfl rfl rfl rfl ?_
   refine OpE.val (W := NoB) (OpV.move (.inl rfl) rfl) rfl ?_
   refine VO.opY rfl rfl rfl rfl rfl ?_
   refine OpE.val (W := NoB) (OpV.eql rfl rfl rfl) rfl ?_
   refine VO.le _ (Le.boolT (t := 104) rfl (decide_eq_true rfl)) ?_
   refine VO.val rfl rfl (OpV.pickT rfl rfl rfl rfl rfl) ?_
   refine VO.mv rfl rfl rfl rfl ?_
   refine VO.opY rfl rfl rfl rfl rfl ?_
   refine OpE.val (W := NoB) (OpV.move (.inl rfl) rfl) rfl ?_
   refine VO.opY rfl rfl rfl rfl rfl ?_
   refine OpE.val (W := NoB) (OpV.move (.inl rfl) rfl) rfl ?_
   refine VO.opY rfl rfl rfl rfl rfl ?_
   refine OpE.call rfl hB rfl Tryz.call60 rfl (SpecN.spec (slices_Equal_need (by omega) (by omega))) ?_
   rintro _ rfl
   refine VO.le _ (Le.boolT (t := 109) rfl (eqLs_self eqNd_self _)) ?_
   refine VO.val rfl rfl (OpV.pickT rfl rfl rfl rfl rfl) ?_
   refine VO.mv rfl rfl rfl rfl ?_
   refine VO.opY rfl rfl rfl rfl rfl ?_
   refine OpE.val (W := NoB) (OpV.move (.inl rfl) rfl) rfl ?_
   refine VO.opY rfl rfl rfl rfl rfl ?_
   refine OpE.val (W := NoB) (OpV.move (.inl rfl) rfl) rfl ?_
   refine VO.opY rfl rfl rfl rfl rfl ?_
   refine OpE.val (W := NoB) (OpV.eql rfl rfl rfl) rfl ?_
   refine VO.le _ (Le.boolT (t := 114) rfl (decide_eq_true rfl)) ?_
   refine VO.val rfl rfl (OpV.pickT rfl rfl rfl rfl rfl) ?_
   refine VO.mv rfl rfl rfl rfl ?_
   refine VO.opY rfl rfl rfl rfl rfl ?_
   refine OpE.val (W := NoB) (OpV.move (.inl rfl) rfl) rfl ?_
   refine VO.opY rfl rfl rfl rfl rfl ?_
   refine OpE.val (W := NoB) (OpV.move (.inl rfl) rfl) rfl ?_
   refine VO.opY rfl rfl rfl rfl rfl ?_
   refine OpE.call rfl hB rfl Tryz.call60 rfl (SpecN.spec (slices_Equal_need (by omega) (by omega))) ?_
   rintro _ rfl
   refine VO.le _ (Le.boolT (t := 119) rfl (eqLs_self eqNd_self _)) ?_
   refine VO.val rfl rfl (OpV.pickT rfl rfl rfl rfl rfl) ?_
   refine VO.mv rfl rfl rfl rfl ?_
   refine VO.opY rfl rfl rfl rfl rfl ?_
   refine OpE.val (W := NoB) (OpV.move (.inl rfl) rfl) rfl ?_
   refine VO.opY rfl rfl rfl rfl rfl ?_
   refine OpE.val (W := NoB) (OpV.move (.inl rfl) rfl) rfl ?_
   refine VO.opY rfl rfl rfl rfl rfl ?_
   refine OpE.val (W := NoB) (OpV.eql rfl rfl rfl) rfl ?_
   refine VO.le _ (Le.boolT (t := 124) rfl (decide_eq_true rfl)) ?_
   refine VO.val rfl rfl (OpV.pickT rfl rfl rfl rfl rfl) ?_
   refine VO.mv rfl rfl rfl rfl ?_
   refine VO.opY rfl rfl rfl rfl rfl ?_
   refine OpE.val (W := NoB) (OpV.move (.inl rfl) rfl) rfl ?_
   refine VO.opY rfl rfl rfl rfl rfl ?_
   refine OpE.val (W := NoB) (OpV.move (.inl rfl) rfl) rfl ?_
   refine VO.opY rfl rfl rfl rfl rfl ?_
   refine OpE.call rfl hB rfl Tryz.call61 rfl (SpecN.spec (slices_Equal_str (by omega) (by omega))) ?_
   rintro _ rfl
   refine VO.le _ (Le.boolT (t := 129) rfl (eqLs_self sEq_refl _)) ?_
   refine VO.val rfl rfl (OpV.pickT rfl rfl rfl rfl rfl) ?_
   refine VO.mv rfl rfl rfl rfl ?_
   refine VO.opY rfl rfl rfl rfl rfl ?_
   refine OpE.call rfl hB rfl Tryz.call62 rfl (SpecN.spec (rl_plannedK)) ?_
   rintro _ rfl
   refine VO.val rfl rfl (OpV.pickT rfl rfl rfl rfl rfl) ?_
   refine VO.ma rfl rfl rfl rfl ?_
   refine VO.nil ?_
   refine VC.ret ?_
   exact And.intro rfl rfl
  ·have k1 := k1b
   try simp only [qqT, qqF, qqN, qqM, qqL, qqE] at k1
   refine VC.le _ (Le.recast (t := 18) (y := avL (shortR pc o st)) rfl (fun w Z u h => by rw [shortR, if_neg k1, h.eq_v]; exact .nil _ _)) ?_
   refine VC.le _ (Le.recast (t := 19) (y := avStrs (covE pc o st)) rfl (fun w Z u h => by rw [covE, if_neg k1, h.eq_v]; exact .nil _ _)) ?_
   refine VC.skip ?_
   refine VC.sr ?_
   refine VO.mv rfl rfl rfl rfl ?_
   refine VO.op rfl (OpE.call rfl hB rfl Tryz.call56 rfl (SpecN.spec (plan_CheckOrders hos)) ?_)
   rintro _ rfl
   refine VO.mv rfl rfl rfl rfl ?_
   refine VO.op rfl (OpE.call rfl hB rfl Tryz.call57 rfl (SpecN.spec (rf_OrdersFault hos)) ?_)
   rintro _ rfl
   refine VO.val rfl rfl (OpV.eql rfl rfl rfl) ?_
   refine VO.le _ (Le.boolT (t := 93) rfl (decide_eq_true rfl)) ?_
   refine VO.mv rfl rfl rfl rfl ?_
   refine VO.opY rfl rfl rfl rfl rfl ?_
   refine OpE.val (W := NoB) (OpV.move (.inl rfl) rfl) rfl ?_
   refine VO.opY rfl rfl rfl rfl rfl ?_
   refine OpE.call rfl hB rfl Tryz.call58 rfl (SpecN.spec (plan_CheckPaces hps)) ?_
   rintro _ rfl
   refine VO.opY rfl rfl rfl rfl rfl ?_
   refine OpE.val (W := NoB) (OpV.move (.inl rfl) rfl) rfl ?_
   refine VO.opY rfl rfl rfl rfl rfl ?_
   refine OpE.call rfl hB rfl Tryz.call59 rfl (SpecN.spec (rf_PacesFault hps)) ?_
   rintro _ rfl
   refine VO.opY rfl rfl rfl rfl rfl ?_
   refine OpE.val (W := NoB) (OpV.eql rfl rfl rfl) rfl ?_
   refine VO.le _ (Le.boolT (t := 99) rfl (decide_eq_true rfl)) ?_
   refine VO.val rfl rfl (OpV.pickT rfl rfl rfl rfl rfl) ?_
   refine VO.mv rfl rfl rfl rfl ?_
   refine VO.opY rfl rfl rfl rfl rfl ?_
   refine OpE.val (W := NoB) (OpV.move (.inl rfl) rfl) rfl ?_
   refine VO.opY rfl rfl rfl rfl rfl ?_
   refine OpE.val (W := NoB) (OpV.move (.inl rfl) rfl) rfl ?_
   refine VO.opY rfl rfl rfl rfl rfl ?_
   refine OpE.val (W := NoB) (OpV.eql rfl rfl rfl) rfl ?_
   refine VO.le _ (Le.boolT (t := 104) rfl (decide_eq_true rfl)) ?_
   refine VO.val rfl rfl (OpV.pickT rfl rfl rfl rfl rfl) ?_
   refine VO.mv rfl rfl rfl rfl ?_
   refine VO.opY rfl rfl rfl rfl rfl ?_
   refine OpE.val (W := NoB) (OpV.move (.inl rfl) rfl) rfl ?_
   refine VO.opY rfl rfl rfl rfl rfl ?_
   refine OpE.val (W := NoB) (OpV.move (.inl rfl) rfl) rfl ?_
   refine VO.opY rfl rfl rfl rfl rfl ?_
   refine OpE.call rfl hB rfl Tryz.call60 rfl (SpecN.spec (slices_Equal_need (by omega) (by omega))) ?_
   rintro _ rfl
   refine VO.le _ (Le.boolT (t := 109) rfl (eqLs_self eqNd_self _)) ?_
   refine VO.val rfl rfl (OpV.pickT rfl rfl rfl rfl rfl) ?_
   refine VO.mv rfl rfl rfl rfl ?_
   refine VO.opY rfl rfl rfl rfl rfl ?_
   refine OpE.val (W := NoB) (OpV.move (.inl rfl) rfl) rfl ?_
   refine VO.opY rfl rfl rfl rfl rfl ?_
   refine OpE.val (W := NoB) (OpV.move (.inl rfl) rfl) rfl ?_
   refine VO.opY rfl rfl rfl rfl rfl ?_
   refine OpE.val (W := NoB) (OpV.eql rfl rfl rfl) rfl ?_
   refine VO.le _ (Le.boolT (t := 114) rfl (decide_eq_true rfl)) ?_
   refine VO.val rfl rfl (OpV.pickT rfl rfl rfl rfl rfl) ?_
   refine VO.mv rfl rfl rfl rfl ?_
   refine VO.opY rfl rfl rfl rfl rfl ?_
   refine OpE.val (W := NoB) (OpV.move (.inl rfl) rfl) rfl ?_
   refine VO.opY rfl rfl rfl rfl rfl ?_
   refine OpE.val (W := NoB) (OpV.move (.inl rfl) rfl) rfl ?_
   refine VO.opY rfl rfl rfl rfl rfl ?_
   refine OpE.call rfl hB rfl Tryz.call60 rfl (SpecN.spec (slices_Equal_need (by omega) (by omega))) ?_
   rintro _ rfl
   refine VO.le _ (Le.boolT (t := 119) rfl (eqLs_self eqNd_self _)) ?_
   refine VO.val rfl rfl (OpV.pickT rfl rfl rfl rfl rfl) ?_
   refine VO.mv rfl rfl rfl rfl ?_
   refine VO.opY rfl rfl rfl rfl rfl ?_
   refine OpE.val (W := NoB) (OpV.move (.inl rfl) rfl) rfl ?_
   refine VO.opY rfl rfl rfl rfl rfl ?_
   refine OpE.val (W := NoB) (OpV.move (.inl rfl) rfl) rfl ?_
   refine VO.opY rfl rfl rfl rfl rfl ?_
   refine OpE.val (W := NoB) (OpV.eql rfl rfl rfl) rfl ?_
   refine VO.le _ (Le.boolT (t := 124) rfl (decide_eq_true rfl)) ?_
   refine VO.val rfl rfl (OpV.pickT rfl rfl rfl rfl rfl) ?_
   refine VO.mv rfl rfl rfl rfl ?_
   refine VO.opY rfl rfl rfl rfl rfl ?_
   refine OpE.val (W := NoB) (OpV.move (.inl rfl) rfl) rfl ?_
   refine VO.opY rfl rfl rfl rfl rfl ?_
   refine OpE.val (W := NoB) (OpV.move (.inl rfl) rfl) rfl ?_
   refine VO.opY rfl rfl rfl rfl rfl ?_
   refine OpE.call rfl hB rfl Tryz.call61 rfl (SpecN.spec (slices_Equal_str (by omega) (by omega))) ?_
   rintro _ rfl
   refine VO.le _ (Le.boolT (t := 129) rfl (eqLs_self sEq_refl _)) ?_
   refine VO.val rfl rfl (OpV.pickT rfl rfl rfl rfl rfl) ?_
   refine VO.mv rfl rfl rfl rfl ?_
   refine VO.opY rfl rfl rfl rfl rfl ?_
   refine OpE.call rfl hB rfl Tryz.call62 rfl (SpecN.spec (rl_plannedK)) ?_
   rintro _ rfl
   refine VO.val rfl rfl (OpV.pickT rfl rfl rfl rfl rfl) ?_
   refine VO.ma rfl rfl rfl rfl ?_
   refine VO.nil ?_
   refine VC.ret ?_
   exact And.intro rfl rfl
end Go.Proofs.YtaaokimiadfidaaGreatDoor
