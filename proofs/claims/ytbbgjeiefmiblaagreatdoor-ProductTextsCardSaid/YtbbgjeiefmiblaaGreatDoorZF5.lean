/- Part 5 of a proof: the walks and laws that it needs. -/
import Derived.LaidMore
import Derived.Test.YtbbgjeiefmiblaaGreatDoorZF4
namespace Go.Proofs.YtbbgjeiefmiblaaGreatDoor
open Go.RowKit
set_option linter.unusedVariables false
set_option linter.unusedSimpArgs false
def cutF (c : UInt8) (s : ByteArray) : Bool := decide (0 ≤ Lib.indexByte (byL s) c)
def cutA (c : UInt8) (s : ByteArray) : ByteArray := if cutF c s = true then s.extract 0 (Lib.indexByte (byL s) c).toNat else s
def cutB (c : UInt8) (s : ByteArray) : ByteArray := if cutF c s = true then s.extract ((Lib.indexByte (byL s) c).toNat + 1) s.size else ⟨#[]⟩
theorem index_lt {c : UInt8} {l : List UInt8} {m : Nat} (h : Lib.indexByte l c = m) : m < l.length := by
 have h1 := congrArg List.length (index_cut h).1
 have h2 : (l.take m).length ≤ m := by rw [List.length_take]; omega
 rw [List.length_append, List.length_cons, List.length_take, List.length_drop] at h1
 omega
theorem cut_at {c : UInt8} {s : ByteArray} (h : cutF c s = true) : ∃ m : Nat, Lib.indexByte (byL s) c = m ∧ m < s.size ∧ cutA c s = s.extract 0 m ∧ cutB c s = s.extract (m + 1) s.size := by
 have h0 : 0 ≤ Lib.indexByte (byL s) c := of_decide_eq_true h
 refine ⟨(Lib.indexByte (byL s) c).toNat, by omega, ?_, by rw [cutA, if_pos h], by rw [cutB, if_pos h]⟩
 have := index_lt (l := byL s) (c := c) (m := (Lib.indexByte (byL s) c).toNat) (by omega)
 rwa [byL_len] at this
theorem cut_no {c : UInt8} {s : ByteArray} (h : cutF c s = false) : cutA c s = s ∧ cutB c s = ⟨#[]⟩ := ⟨by rw [cutA, if_neg (by rw [h]; simp)], by rw [cutB, if_neg (by rw [h]; simp)]⟩
theorem cutA_size (c : UInt8) (s : ByteArray) : (cutA c s).size ≤ s.size := by
 cases h : cutF c s with
 | true =>
  obtain ⟨m, h1, h2, h3, h4⟩ := cut_at h
  rw [h3, ByteArray.size_extract]; omega
 | false => rw [(cut_no h).1]; exact Nat.le_refl _
theorem cut_sizes {c : UInt8} {s : ByteArray} (h : cutF c s = true) : (cutA c s).size + 1 + (cutB c s).size = s.size := by
 obtain ⟨m, h1, h2, h3, h4⟩ := cut_at h
 rw [h3, h4, ByteArray.size_extract, ByteArray.size_extract]; omega
set_option maxRecDepth 100000 in
theorem stringslite_CutB {s : ByteArray} {c : UInt8} (hs : s.size ≤ 100000000) :
  SpecN Tryz.prog 169 [avS s, avS ⟨#[c]⟩] (fun y => y = .tup [avS (cutA c s), avS (cutB c s), avB (cutF c s)]) := by
 refine SpecN.of_VCN Tryz.func169 rfl Tryz.ntmps169 (Nle rfl) fun w A hB => ?_
 have hnew : True := trivial
 refine VC.seq ?_
 have hc1 : (⟨#[c]⟩ : ByteArray).size = 1 := rfl
 refine VC.region ?_
 refine VO.ma rfl rfl rfl rfl ?_
 refine VO.ma rfl rfl rfl rfl ?_
 refine VO.ma rfl rfl rfl rfl ?_
 refine VO.nil ?_
 refine VC.seq ?_
 refine VC.sr ?_
 refine VO.mv rfl rfl rfl rfl ?_
 refine VO.mv rfl rfl rfl rfl ?_
 refine VO.op rfl (OpE.call rfl hB rfl Tryz.call168 rfl (SpecN.spec (stringslite_Index_S)) ?_)
 rintro _ rfl
 obtain ⟨v, hv⟩ : ∃ v, Lib.indexByte (byL s) c = v := ⟨_, rfl⟩
 rw [hv]
 refine VO.ma rfl rfl rfl rfl ?_
 refine VO.nil ?_
 refine VC.sr ?_
 refine VO.mv rfl rfl rfl rfl ?_
 refine VO.val rfl rfl (OpV.geq rfl rfl rfl) ?_
 refine VO.nil ?_
 refine VC.cond rfl (fun h0b => ?_) (fun h0b => ?_)
 ·have h0 := h0b
  try simp only [qqT, qqF, qqN, qqM, qqL, qqE] at h0
  have hcf : cutF c s = true := by unfold cutF; rw [hv]; exact decide_eq_true h0
  obtain ⟨m, hm1, hm2, hm3, hm4⟩ := cut_at hcf
  obtain rfl : v = m := by rw [← hv, hm1]
  refine VC.seq ?_
  refine VC.draw (fun _ => NoB) hB (by kernel_rfl) ?_
  refine VA.take (i := 0) rfl (by kernel_rfl) (by kernel_rfl) (by kernel_rfl) rfl rfl (OpV.move (.inl rfl) rfl) ?_
  refine VA.take (i := 1) rfl (by kernel_rfl) (by kernel_rfl) (by kernel_rfl) rfl rfl (OpV.move (.inl rfl) rfl) ?_
  refine VA.take (i := 2) rfl (by kernel_rfl) (by kernel_rfl) (by kernel_rfl) rfl rfl (OpV.slice_s (h := m) rfl Tryz.underlying9 rfl rfl ⟨_, _, rfl, by omega⟩ (by omega) (by omega)) ?_
  refine VA.take (i := 3) rfl (by kernel_rfl) (by kernel_rfl) (by kernel_rfl) rfl rfl (OpV.move (.inl rfl) rfl) ?_
  refine VA.take (i := 4) rfl (by kernel_rfl) (by kernel_rfl) (by kernel_rfl) rfl rfl (OpV.move (.inl rfl) rfl) ?_
  refine VA.take (i := 5) rfl (by kernel_rfl) (by kernel_rfl) (by kernel_rfl) rfl rfl (OpV.move (.inl rfl) rfl) ?_
  refine VA.take (i := 6) rfl (by kernel_rfl) (by kernel_rfl) (by kernel_rfl) rfl rfl (OpV.len_s rfl Tryz.underlying9 rfl) ?_
  refine VA.take (i := 7) rfl (by kernel_rfl) (by kernel_rfl) (by kernel_rfl) rfl rfl (OpV.add rfl rfl rfl (by unfold fits; omega)) ?_
  refine VA.take (i := 8) rfl (by kernel_rfl) (by kernel_rfl) (by kernel_rfl) rfl rfl (OpV.slice_s (l := m + 1) rfl Tryz.underlying9 rfl ⟨_, _, rfl, by omega⟩ rfl (by omega) (by omega)) ?_
  refine VA.take (i := 9) rfl (by kernel_rfl) (by kernel_rfl) (by kernel_rfl) rfl rfl (OpV.move (.inr rfl) rfl) ?_
  refine VA.take (i := 10) rfl (by kernel_rfl) (by kernel_rfl) (by kernel_rfl) rfl rfl (OpV.move (.inr rfl) rfl) ?_
  refine VA.take (i := 11) rfl (by kernel_rfl) (by kernel_rfl) (by kernel_rfl) rfl rfl (OpV.move (.inr rfl) rfl) ?_
  refine VA.done (by kernel_rfl) ?_
  refine VC.ret ?_
  exact Exists.intro _ (And.intro (RetN.three Tryz.results169 (ResN.v rfl) (ResN.v rfl) (ResN.v rfl)) (by rw [hm3, hm4, hcf]))
 ·have h0 := h0b
  try simp only [qqT, qqF, qqN, qqM, qqL, qqE] at h0
  have hcf : cutF c s = false := by unfold cutF; rw [hv]; exact decide_eq_false (by omega)
  have hcn := cut_no hcf
  refine VC.skip ?_
  refine VC.sr ?_
  refine VO.mv rfl rfl rfl rfl ?_
  refine VO.ma rfl rfl rfl rfl ?_
  refine VO.ma rfl rfl rfl rfl ?_
  refine VO.ma rfl rfl rfl rfl ?_
  refine VO.nil ?_
  refine VC.ret ?_
  exact Exists.intro _ (And.intro (RetN.three Tryz.results169 (ResN.v rfl) (ResN.v rfl) (ResN.v rfl)) (by rw [hcn.1, hcn.2, hcf]))
set_option maxRecDepth 100000 in
theorem strings_CutB {s : ByteArray} {c : UInt8} (hs : s.size ≤ 100000000) :
  SpecN Tryz.prog 125 [avS s, avS ⟨#[c]⟩] (fun y => y = .tup [avS (cutA c s), avS (cutB c s), avB (cutF c s)]) := by
 refine SpecN.of_VCN Tryz.func125 rfl Tryz.ntmps125 (Nle rfl) fun w A hB => ?_
 have hnew : True := trivial
 refine VC.sr ?_
 refine VO.ma rfl rfl rfl rfl ?_
 refine VO.ma rfl rfl rfl rfl ?_
 refine VO.ma rfl rfl rfl rfl ?_
 refine VO.nil ?_
 refine VC.sr ?_
 refine VO.mv rfl rfl rfl rfl ?_
 refine VO.mv rfl rfl rfl rfl ?_
 refine VO.op rfl (OpE.call rfl hB rfl Tryz.call169 rfl (SpecN.spec (stringslite_CutB hs)) ?_)
 rintro _ rfl
 refine VO.val rfl rfl (OpV.extract rfl rfl rfl) ?_
 refine VO.val rfl rfl (OpV.extract rfl rfl rfl) ?_
 refine VO.val rfl rfl (OpV.extract rfl rfl rfl) ?_
 refine VO.ma rfl rfl rfl rfl ?_
 refine VO.ma rfl rfl rfl rfl ?_
 refine VO.ma rfl rfl rfl rfl ?_
 refine VO.nil ?_
 refine VC.ret ?_
 exact Exists.intro _ (And.intro (RetN.three Tryz.results125 (ResN.v rfl) (ResN.v rfl) (ResN.v rfl)) (rfl))
theorem lines_yes {s : ByteArray} (h : cutF 10 s = true) : linesR s = cutA 10 s :: linesR (cutB 10 s) ∧ linesE s = linesE (cutB 10 s) := by
 obtain ⟨m, h1, h2, h3, h4⟩ := cut_at h
 rw [h3, h4]; exact lines_some h1
theorem lines_no {s : ByteArray} (h0 : sEq s ⟨#[]⟩ = false) (h : cutF 10 s = false) : linesR s = [s] ∧ linesE s = false := lines_none h0 (by have := of_decide_eq_false h; omega)
theorem lines_last {s : ByteArray} (h : linesE s = false) : 0 < (linesR s).length := by
 cases h0 : sEq s ⟨#[]⟩ with
 | true => rw [sEq_eq.1 h0, lines_nil.2] at h; cases h
 | false =>
  cases hc : cutF 10 s with
  | true => rw [(lines_yes hc).1]; exact Nat.succ_pos _
  | false => rw [(lines_no h0 hc).1]; exact Nat.succ_pos _
abbrev okAt (ok : List ByteArray → ByteArray → Bool) (ls : List ByteArray) : Nat → ByteArray → Bool := fun i x => ok (ls.take i) x
structure LnI (ok : List ByteArray → ByteArray → Bool) (text : ByteArray) (pre : List ByteArray) (r : ByteArray) : Prop where
 eq : linesR text = pre ++ linesR r
 en : linesE text = linesE r
 good : ∀ j, j < pre.length → lnBad (okAt ok (linesR text)) (linesR text) (linesE text) j = false
 size : pre.length + r.size ≤ text.size
section
variable {ok : List ByteArray → ByteArray → Bool} {text r : ByteArray} {pre : List ByteArray}
theorem LnI.start (text : ByteArray) : LnI ok text [] text := ⟨rfl, rfl, fun j hj => absurd hj (Nat.not_lt_zero j), by simp⟩
theorem LnI.at_ (h : LnI ok text pre r) {x : ByteArray} {l : List ByteArray} (hl : linesR r = x :: l) : (linesR text).take pre.length = pre ∧ (linesR text).getD pre.length ByteArray.empty = x ∧ pre.length < (linesR text).length := by
 rw [h.eq, hl]
 refine ⟨by simp, by simp [List.getD_eq_getElem?_getD], by simp⟩
theorem LnI.step (h : LnI ok text pre r) (hc : cutF 10 r = true) (ho : ok pre (cutA 10 r) = true) : LnI ok text (pre ++ [cutA 10 r]) (cutB 10 r) := by
 obtain ⟨h1, h2⟩ := lines_yes hc
 obtain ⟨k1, k2, k3⟩ := h.at_ h1
 refine ⟨by rw [h.eq, h1, List.append_assoc]; rfl, h.en.trans h2, fun j hj => ?_, ?_⟩
 ·by_cases hj2 : j < pre.length
  ·exact h.good j hj2
  ·obtain rfl : j = pre.length := by rw [List.length_append] at hj; simp at hj; omega
   unfold lnBad okAt
   rw [k1, k2, ho]
   cases he : linesE text with
   | true => rfl
   | false =>
    have h3 := lines_last (h2.symm.trans (h.en.symm.trans he))
    have h4 : (linesR text).length = pre.length + (1 + (linesR (cutB 10 r)).length) := by rw [h.eq, h1, List.length_append, List.length_cons]; omega
    rw [decide_eq_false (by omega)]; rfl
 ·have := cut_sizes hc
  have := h.size
  rw [List.length_append]; simp; omega
theorem LnI.fin (h : LnI ok text pre r) (hr : sEq r ⟨#[]⟩ = true) : lnF (okAt ok (linesR text)) (linesR text) (linesE text) = none ∧ pre = linesR text := by
 have e := sEq_eq.1 hr
 subst e
 have h1 : linesR text = pre := by rw [h.eq, lines_nil.1, List.append_nil]
 exact ⟨lnF_none fun j hj => h.good j (by rw [h1] at hj; exact hj), h1.symm⟩
theorem LnI.bad1 (h : LnI ok text pre r) (hr : sEq r ⟨#[]⟩ = false) (hc : cutF 10 r = false) : lnF (okAt ok (linesR text)) (linesR text) (linesE text) = some pre.length := by
 obtain ⟨h1, h2⟩ := lines_no hr hc
 obtain ⟨k1, k2, k3⟩ := h.at_ h1
 refine lnF_some k3 ?_ h.good
 unfold lnBad
 rw [h.en, h2, decide_eq_true (by rw [h.eq, h1, List.length_append]; rfl)]
 simp
theorem LnI.bad2 (h : LnI ok text pre r) (hc : cutF 10 r = true) (ho : ok pre (cutA 10 r) = false) : lnF (okAt ok (linesR text)) (linesR text) (linesE text) = some pre.length := by
 obtain ⟨h1, h2⟩ := lines_yes hc
 obtain ⟨k1, k2, k3⟩ := h.at_ h1
 refine lnF_some k3 ?_ h.good
 unfold lnBad okAt
 rw [k1, k2, ho]; rfl
end
def lnY (f : Option Nat) : AV := match f with
 | none => .tup [avI 0, avB true]
 | some i => .tup [avI (i : Int), avB false]
end Go.Proofs.YtbbgjeiefmiblaaGreatDoor
namespace Go.Proofs.YtbbgjeiefmiblaaGreatDoor
open Go.RowKit
set_option linter.unusedVariables false
set_option linter.unusedSimpArgs false
section
variable {P : Program} {B : Bs} {s : St'} {o : Oper} {K : St' → Prop} {V : Nat → Nat → Prop} {ops : Array Oper} {Q : Exit → St' → Prop} {n N : Nat} {L : Array Bool}
def VN (P : Program) (B : Bs) (V : Nat → Nat → Prop) (ops : Array Oper) (Q : Exit → St' → Prop) (n : Nat) (L : Array Bool) (s : St') (N : Nat) : Prop :=
 ∀ a w, R B s a w → w.heap.size = N → wpAnyE P .any ops (fun a w => ∃ s, Q .normal s ∧ R B s a w) (fun j => Ew B (V j)) n L a w
def VM (P : Program) (B : Bs) (V : Nat → Nat → Prop) (ops : Array Oper) (Q : Exit → St' → Prop) (n : Nat) (L : Array Bool) (s : St') (N : Nat) : Prop :=
 ∀ a w, R B s a w → N ≤ w.heap.size → wpAnyE P .any ops (fun a w => ∃ s, Q .normal s ∧ R B s a w) (fun j => Ew B (V j)) n L a w
def OpVN (P : Program) (B : Bs) (W : Nat → Prop) (s : St') (o : Oper) (x : AV) (N : Nat) : Prop :=
 ∀ a w, R B s a w → w.heap.size = N → ∃ v, (∀ w', Chg (fun b => B.str b ∨ W b) w w' → (execOp a.eval o).run P w' = .ok (.value v) w') ∧ Rep w (Zn B s.hp w) x v
theorem OpVN.of {W : Nat → Prop} {x : AV} (h : OpV P B W s o x) : OpVN P B W s o x N := fun a w hr _ => h a w hr
theorem new_keep {W : Nat → Prop} (hB : B.Ok) {a : Act} {w w' : World} (hr : R B s a w) (hW : ∀ b, W b → w.heap.size ≤ b) (hc : Chg (fun b => B.str b ∨ W b) w w') {b : Nat} (hZ : Zn B s.hp w b) : w'.heap[b]? = w.heap[b]? := by
 refine hc.block b hZ.1 ?_
 rintro (h | h)
 ·obtain ⟨h1, h2⟩ := hB.str b h
  exact (hZ.2.2 (hB.low b h1)).2 h
 ·exact absurd hZ.1 (Nat.not_lt.2 (hW b h))
theorem OpVN.loadK_at {W : Nat → Prop} {x : Operand} {t m k : Nat} {F : Nat → AV} (ho : o.op = .load t x) (hB : B.Ok) (hW : ∀ b, W b → N ≤ b) (hag : ∀ w, (isAgg t).run P w = .ok true w) (hsz : ∀ w, (sizeOf t).run P w = .ok k w) (hx : evO s x = some (.at_ m F)) (hm : Nat.ble k m = true) : OpVN P B W s o (.agg (tab k F)) N := by
 intro a w hr hN
 have := hr.ev hx
 generalize hv : a.eval x = u at this
 have hm' := Nat.le_of_ble_eq_true hm
 cases this with
 | at_ m f' b off c e u hZ hb hc hr' =>
  refine ⟨.agg ((List.range k).map u).toArray, fun w' hcw => ?_, .agg _ _ (by simp [tab_len]) fun j hj => ?_⟩
  ·have hb' := (new_keep hB hr (fun b h => hN ▸ hW b h) hcw hZ).trans hb
   have hcell : ∀ j v, ((List.range k).map u)[j]? = some v → w'.cell? ((⟨b, off, none⟩ : Addr).add j) = some v := by
    intro j v hj
    simp only [List.getElem?_map, Option.map_eq_some_iff] at hj
    obtain ⟨q, hq, rfl⟩ := hj
    obtain ⟨hlt, hq'⟩ := List.getElem?_eq_some_iff.1 hq
    simp at hlt hq'
    subst hq'
    rw [Addr.add_lit]
    simpa [World.cell?, hb'] using hc j (by omega)
   have hl := run_loadCells_list (P := P) w' ⟨b, off, none⟩ _ hcell
   simp only [List.length_map, List.length_range] at hl
   simp only [execOp, ho, hv, Instr.loadAt, Instr.sureAddr, loadVar, hag, hsz, hl, Sem.run_bind, Sem.run_pure, Result.andThen_ok, if_true]
  ·rw [tab_len] at hj
   rw [tab_get]
   simp [hj]
   exact hr' j (by omega)
theorem VN.take {i : Nat} {x : AV} (hi : ops[i]? = some o) (hs : Region.noSelect ops = true) (hf : Region.free .any ops L i = true) (hr : (Region.ready .any ops L).contains i = true) (hg : o.guard = none) (hd : okd B.nt o.dst = true)
  (hv : OpVN P B (Wi V ops i) s o x N) (h : VN P B V ops Q n (L.setIfInBounds i true) (s.put o.dst x) N) : VN P B V ops Q (n + 1) L s N := fun a w hR hN => by
 obtain ⟨v, h1, h2⟩ := hv a w hR hN
 exact wpAnyE_first (F := Ew B (Wi V ops i)) Ew.tr Ew.rf (fun x => Ew.rf x) Wi.of hi (Region.noSelect_spec hs) n L a w (Region.free_spec hi hf) (by simpa using hr) (.inl ⟨by simp [Region.wanted, hg], h1⟩) (h _ _ (hR.put _ hd _ _ h2) hN)
theorem VM.take {i : Nat} {x : AV} (hi : ops[i]? = some o) (hs : Region.noSelect ops = true) (hf : Region.free .any ops L i = true) (hr : (Region.ready .any ops L).contains i = true) (hg : o.guard = none) (hd : okd B.nt o.dst = true)
  (hv : OpV P B (Wi V ops i) s o x) (h : VM P B V ops Q n (L.setIfInBounds i true) (s.put o.dst x) N) : VM P B V ops Q (n + 1) L s N := fun a w hR hN => by
 obtain ⟨v, h1, h2⟩ := hv a w hR
 exact wpAnyE_first (F := Ew B (Wi V ops i)) Ew.tr Ew.rf (fun x => Ew.rf x) Wi.of hi (Region.noSelect_spec hs) n L a w (Region.free_spec hi hf) (by simpa using hr) (.inl ⟨by simp [Region.wanted, hg], h1⟩) (h _ _ (hR.put _ hd _ _ h2) hN)
theorem VM.done (hr : Region.ready .any ops L = []) (h : Q .normal s) : VM P B V ops Q n L s N := fun a w hR _ => by
 cases n with
 | zero => exact ⟨hr, s, h, hR⟩
 | succ n => exact ⟨fun _ => ⟨s, h, hR⟩, by rw [hr]; simp⟩
def OpM (P : Program) (B : Bs) (W : Nat → Prop) (s : St') (o : Oper) (K : St' → Prop) (N : Nat) : Prop :=
 ∀ a w, R B s a w → N ≤ w.heap.size → ∀ (next : Act → World → Prop) (Qx : Exit → Act → World → Prop), (∀ s' a' w', K s' → R B s' a' w' → Ew B W w w' → next a' w') → o.wp P a w next Qx
theorem OpM.alloc {W : Nat → Prop} {e : TypeId} {z : Value} {cs : List AV} (ho : o.op = .alloc e) (hB : B.Ok) (hd : okd B.nt o.dst = true) (hz : ∀ w, (zeroValue e).run P w = .ok z w) (hcs : cellsOf (.v z) = cs)
  (hK : ∀ g, N ≤ g → K ((St'.mk s.sl (s.hp ++ [.box g ⟨cs, e, cs.length⟩]) s.k).put o.dst (.v (.pointer (some ⟨g, 0, none⟩))))) : OpM P B W s o K N := by
 subst hcs
 intro a w hr hN next Qx hn
 have h1 := hr.newBox hB _ e _ (Rep.cells (.v z) rfl)
 unfold Oper.wp
 simp only [execOp, ho, Instr.alloc, newVar, newRow, Sem.run_bind, hz, run_newObj_alloc, Result.andThen_ok, Sem.run_pure]
 exact hn _ _ _ (hK _ hN) (h1.put _ hd _ _ (.v _)) (.ofN ((Chg.refl _ _).alloc _))
def EachM (P : Program) (B : Bs) (V : Nat → Nat → Prop) (ops : Array Oper) (Q : Exit → St' → Prop) (n : Nat) (L : Array Bool) (s : St') (N : Nat) : List Nat → Prop
 | [] => True
 | i :: r => (∃ o, ops[i]? = some o ∧ o.guard = none ∧ OpM P B (V i) s o (fun s' => VM P B V ops Q n (L.setIfInBounds i true) s' N) N) ∧ EachM P B V ops Q n L s N r
theorem VM.all {rs : List Nat} (hr : Region.ready .any ops L = rs) (hne : rs ≠ []) (h : EachM P B V ops Q n L s N rs) : VM P B V ops Q (n + 1) L s N := fun a w hR hN => by
 refine ⟨fun h0 => absurd (hr ▸ h0) hne, fun i hi => ?_⟩
 rw [hr] at hi
 have key : ∀ rs, EachM P B V ops Q n L s N rs → i ∈ rs → ∃ o, ops[i]? = some o ∧ o.guard = none ∧ OpM P B (V i) s o (fun s' => VM P B V ops Q n (L.setIfInBounds i true) s' N) N := by
  intro rs
  induction rs with
  | nil => intro _ h; simp at h
  | cons j r ih =>
   intro h hi
   rcases List.mem_cons.1 hi with rfl | hi
   ·exact h.1
   ·exact ih h.2 hi
 obtain ⟨o, ho, hg, hop⟩ := key rs h hi
 unfold wpOp
 simp only [ho]
 have hwant : Region.wanted o (yielded ops a.tmps) = true := by simp [Region.wanted, hg]
 rw [if_pos hwant]
 exact .inl (hop a w hR hN _ _ fun s' a' w' k1 k2 k3 => ⟨k3, k1 a' w' k2 (Nat.le_trans hN k3.size)⟩)
theorem VM.le {s' : St'} (h : Le B s s') (k : VM P B V ops Q n L s' N) : VM P B V ops Q n L s N := fun a w hr => k a w (h a w hr)
end
end Go.Proofs.YtbbgjeiefmiblaaGreatDoor
namespace Go.Proofs.YtbbgjeiefmiblaaGreatDoor
open Go.RowKit
set_option linter.unusedVariables false
set_option linter.unusedSimpArgs false
theorem OpVN.load_at {P : Program} {B : Bs} {s : St'} {o : Oper} {N : Nat} {W : Nat → Prop} {x : Operand} {t m : Nat} {F : Nat → AV} (ho : o.op = .load t x) (hB : B.Ok) (hW : ∀ b, W b → N ≤ b) (hag : ∀ w, (isAgg t).run P w = .ok false w) (hx : evO s x = some (.at_ m F)) (hm : Nat.blt 0 m = true) : OpVN P B W s o (F 0) N := by
 intro a w hr hN
 have := hr.ev hx
 generalize hv : a.eval x = u at this
 have hm' : 0 < m := by simpa using hm
 cases this with
 | at_ m f' b off c e u hZ hb hc hr' =>
  refine ⟨u 0, fun w' hcw => ?_, hr' 0 hm'⟩
  have hb' := (new_keep hB hr (fun b h => hN ▸ hW b h) hcw hZ).trans hb
  have hcell : w'.cell? ⟨b, off, none⟩ = some (u 0) := by simpa [World.cell?, hb'] using hc 0 hm'
  simp [execOp, ho, hv, Instr.loadAt, Instr.sureAddr, loadVar, hag, load, Sem.run, hcell]
end Go.Proofs.YtbbgjeiefmiblaaGreatDoor
namespace Go.Proofs.YtbbgjeiefmiblaaGreatDoor
open Go.RowKit
set_option linter.unusedVariables false
set_option linter.unusedSimpArgs false
theorem splitS_sz {c : UInt8} : ∀ (n : Nat) (s : ByteArray), s.size ≤ n → ∀ x ∈ splitS c s, x.size ≤ s.size
 | 0, s, h, x, hx => by
  by_cases hi : Lib.indexByte (byL s) c < 0
  ·rw [splitS_none hi] at hx; simp at hx; subst hx; exact Nat.le_refl _
  ·obtain ⟨m, hm⟩ : ∃ m : Nat, Lib.indexByte (byL s) c = m := ⟨(Lib.indexByte (byL s) c).toNat, by omega⟩
   have := (splitS_some hm).1
   omega
 | n + 1, s, h, x, hx => by
  by_cases hi : Lib.indexByte (byL s) c < 0
  ·rw [splitS_none hi] at hx; simp at hx; subst hx; exact Nat.le_refl _
  ·obtain ⟨m, hm⟩ : ∃ m : Nat, Lib.indexByte (byL s) c = m := ⟨(Lib.indexByte (byL s) c).toNat, by omega⟩
   obtain ⟨h1, h2⟩ := splitS_some hm
   rw [h2] at hx
   rcases List.mem_cons.1 hx with rfl | hx
   ·rw [ByteArray.size_extract]; omega
   ·have hz : (s.extract (m + 1) s.size).size ≤ n := by rw [ByteArray.size_extract]; omega
    have := splitS_sz n _ hz x hx
    rw [ByteArray.size_extract] at this
    omega
theorem getD_sz {l : List ByteArray} {n : Nat} (h : ∀ x ∈ l, x.size ≤ n) (i : Nat) : (l.getD i ByteArray.empty).size ≤ n := by
 rw [List.getD_eq_getElem?_getD]
 cases hi : l[i]? with
 | none => exact Nat.zero_le _
 | some x => exact h x (List.mem_of_getElem? hi)
theorem splitS_get (c : UInt8) (s : ByteArray) (i : Nat) : ((splitS c s).getD i ByteArray.empty).size ≤ s.size := getD_sz (splitS_sz s.size s (Nat.le_refl _)) i
theorem splitS_length (c : UInt8) (s : ByteArray) : (splitS c s).length ≤ s.size + 1 := by
 rw [splitS_len]
 have : Lib.countByte (byL s) c ≤ s.size := by rw [← byL_len]; exact List.count_le_length
 omega
theorem linesR_get (s : ByteArray) (i : Nat) : ((linesR s).getD i ByteArray.empty).size ≤ s.size := by
 unfold linesR
 split
 ·simp
 ·exact Nat.le_trans (splitS_get _ _ i) (trimSuffix_size s ⟨#[10]⟩)
theorem linesR_length (s : ByteArray) : (linesR s).length ≤ s.size + 1 := by
 unfold linesR
 split
 ·exact Nat.zero_le _
 ·have := splitS_length 10 (bytesOf (Lib.trimSuffix (byL s) [10]))
  have h2 := trimSuffix_size s ⟨#[10]⟩
  have h3 : (bytesOf (Lib.trimSuffix (byL s) [10])).size ≤ s.size := h2
  omega
abbrev w8 (s : ByteArray) (i : Nat) : ByteArray := (splitS 32 s).getD i ByteArray.empty
def vIx (w : ByteArray) : Int := fidx (fun x => sEq w x) vWords
def okLk (s : ByteArray) : Bool := wordsB s && (decide ((splitS 32 s).length = 8) && (numE (w8 s 0) 15 && (decide (1 ≤ vIx (w8 s 3)) && (sEq (w8 s 4) badW || sEq (w8 s 4) fineW))))
def lkOf (s : ByteArray) : LookS := ⟨w8 s 1, w8 s 2, numV (w8 s 0) 15, vIx (w8 s 3), sEq (w8 s 4) badW, w8 s 5, w8 s 6, w8 s 7⟩
section
variable {text : ByteArray}
end
section
variable {o A B C D : Bool} (h : o = (A && (B && (C || D))))
include h
end

end Go.Proofs.YtbbgjeiefmiblaaGreatDoor
namespace Go.Proofs.YtbbgjeiefmiblaaGreatDoor
open Go.RowKit
set_option linter.unusedVariables false
set_option linter.unusedSimpArgs false

structure PaceS where
 product : ByteArray
 cycle : Int
 needs : List NeedS
instance : Inhabited PaceS := ⟨⟨ByteArray.empty, 0, []⟩⟩
instance : Sxc PaceS where
 k := 3
 pos := by decide
 cell m j := match j with
  | 0 => avS m.product
  | 1 => avI m.cycle
  | 2 => avL m.needs
  | _ => .any
structure OrdrS where
 key : ByteArray
 product : ByteArray
 count : Int
 ready : Int
 due : Int
instance : Inhabited OrdrS := ⟨⟨ByteArray.empty, ByteArray.empty, 0, 0, 0⟩⟩
instance : Sxc OrdrS where
 k := 5
 pos := by decide
 cell m j := match j with
  | 0 => avS m.key
  | 1 => avS m.product
  | 2 => avI m.count
  | 3 => avI m.ready
  | 4 => avI m.due
  | _ => .any
def paceE (p : List PaceS) (i : Nat) : Int :=
 if keyF (p.getD i default).product = false then 5
 else if (decide (0 < i) && sLe (p.getD i default).product (p.getD (i - 1) default).product) = true then 7
 else if outR (p.getD i default).cycle 1 10000000 = true then 1
 else needsF (p.getD i default).needs 1 1000
section
variable {p : List PaceS} {i : Nat}
end
section
variable {o : List OrdrS} {i : Nat}
end
def hasP (p : List PaceS) (k : ByteArray) : Bool := p.any fun x => sEq x.product k
structure PacesOk (p : List PaceS) : Prop where
 len : p.length ≤ 200
 all : ∀ j, j < p.length → paceE p j = 0
section
variable (p : List PaceS) (o : List OrdrS) (l : List Int) (start each : Int)
end
end Go.Proofs.YtbbgjeiefmiblaaGreatDoor
namespace Go.Proofs.YtbbgjeiefmiblaaGreatDoor
open Go.RowKit
set_option linter.unusedVariables false
set_option linter.unusedSimpArgs false
structure OrdrsB (o : List OrdrS) : Prop where
 len : o.length ≤ 201
 all : ∀ j, j < o.length → (1 ≤ (o.getD j default).count ∧ (o.getD j default).count ≤ 100000) ∧ (0 ≤ (o.getD j default).ready ∧ (o.getD j default).ready ≤ 345686399999) ∧ (0 ≤ (o.getD j default).due ∧ (o.getD j default).due ≤ 345686399999)
structure SchOk (p : List PaceS) (o : List OrdrS) (l : List Int) (start each : Int) : Prop where
 pok : PacesOk p
 ook : OrdrsB o
 has : ∀ j, j < o.length → hasP p (o.getD j default).product = true
 len : l.length = o.length
 ord : Ord o.length l
 st : 0 ≤ start ∧ start ≤ 345686399999
 ea : 0 ≤ each ∧ each ≤ 10000000
section
variable {p : List PaceS} {o : List OrdrS} {l : List Int} {start each : Int} (h : SchOk p o l start each)
include h
theorem SchOk.at_ {q : Nat} (hq : q < l.length) : 0 ≤ l.getD q 0 ∧ (l.getD q 0).toNat < o.length := by
 have := h.ord.lt (l[q]) (List.getElem_mem hq)
 rw [List.getD_eq_getElem?_getD, List.getElem?_eq_getElem hq]
 simp only [Option.getD_some]
 omega
end
theorem Ord.take {n : Nat} {l : List Int} {q : Nat} (h : Ord n (l.take q)) (hq : q < l.length) (h0 : 0 ≤ l.getD q 0) (h1 : (l.getD q 0).toNat < n) (h2 : l.getD q 0 ∉ l.take q) : Ord n (l.take (q + 1)) := by
 have := h.snoc h1 (by rwa [Int.toNat_of_nonneg h0])
 rw [Int.toNat_of_nonneg h0] at this
 rw [List.take_add_one, List.getElem?_eq_getElem hq]
 rwa [List.getD_eq_getElem?_getD, List.getElem?_eq_getElem hq] at this
end Go.Proofs.YtbbgjeiefmiblaaGreatDoor
namespace Go.Proofs.YtbbgjeiefmiblaaGreatDoor
open Go.RowKit
set_option linter.unusedVariables false
set_option linter.unusedSimpArgs false
theorem nums_same (l : List ByteArray) : numsB l = numsRB l l.length := by
 unfold numsB numsRB
 rw [List.take_length]
 congr 1
 funext x
 exact num_same x 15 (by decide)
theorem numsV_same {l : List ByteArray} (h : numsB l = true) : numsR l = numsRV l l.length := by
 unfold numsR numsV numsRV
 rw [if_pos h, List.take_length]
 refine List.map_congr_left fun x hx => ?_
 have h1 : numE x 15 = true := List.all_eq_true.1 h x hx
 have h2 := numV_same x 15 (by decide) h1
 rw [h2.1, h2.2]
abbrev n3 (s : ByteArray) (i : Nat) : Int := (numsR ((splitS 32 s).drop 2)).getD i 0
def okOr (s : ByteArray) : Bool := wordsB s && (decide ((splitS 32 s).length = 5) && numsB ((splitS 32 s).drop 2))
def orOf (s : ByteArray) : OrdrS := ⟨w8 s 0, w8 s 1, n3 s 0, n3 s 1, n3 s 2⟩
section
variable {text : ByteArray}
end
theorem numsR_len {l : List ByteArray} (h : numsB l = true) : (numsR l).length = l.length := by rw [numsR, if_pos h, numsV_len (Nat.le_refl _)]

end Go.Proofs.YtbbgjeiefmiblaaGreatDoor
namespace Go.Proofs.YtbbgjeiefmiblaaGreatDoor
open Go.RowKit
set_option linter.unusedVariables false
set_option linter.unusedSimpArgs false
abbrev n2p (s : ByteArray) (i : Nat) : Int := (numsR ((splitS 32 s).drop 2)).getD i 0
abbrev n3p (s : ByteArray) (i : Nat) : Int := (numsR ((splitS 32 s).drop 3)).getD i 0
def okP0 (s : ByteArray) : Bool := wordsB s && (decide ((splitS 32 s).length = 4) && (sEq (w8 s 0) prodW && numsB ((splitS 32 s).drop 2)))
def okP1 (s : ByteArray) : Bool := wordsB s && (decide ((splitS 32 s).length = 6) && (sEq (w8 s 0) plcW && numsB ((splitS 32 s).drop 3)))
def plOf (s : ByteArray) : PlaceS := ⟨w8 s 1, w8 s 2, n3p s 0, n3p s 1, n3p s 2⟩
theorem okP0_y {s : ByteArray} (h1 : wordsB s = true) (h2 : (splitS 32 s).length = 4) (h3 : sEq (w8 s 0) prodW = true) : okP0 s = numsB ((splitS 32 s).drop 2) := by
 unfold okP0; rw [h1, decide_eq_true h2, h3]; rfl
theorem okP0_n {s : ByteArray} (h : wordsB s = false ∨ (splitS 32 s).length ≠ 4 ∨ sEq (w8 s 0) prodW = false) : okP0 s = false := by
 unfold okP0
 rcases h with h | h | h
 ·rw [h]; rfl
 ·rw [decide_eq_false h]; simp
 ·rw [h]; simp
theorem okP1_y {s : ByteArray} (h1 : wordsB s = true) (h2 : (splitS 32 s).length = 6) (h3 : sEq (w8 s 0) plcW = true) : okP1 s = numsB ((splitS 32 s).drop 3) := by
 unfold okP1; rw [h1, decide_eq_true h2, h3]; rfl
theorem okP1_n {s : ByteArray} (h : wordsB s = false ∨ (splitS 32 s).length ≠ 6 ∨ sEq (w8 s 0) plcW = false) : okP1 s = false := by
 unfold okP1
 rcases h with h | h | h
 ·rw [h]; rfl
 ·rw [decide_eq_false h]; simp
 ·rw [h]; simp
def okPi (i : Nat) (s : ByteArray) : Bool := if i = 0 then okP0 s else okP1 s
def stepP (i : Nat) (s : ByteArray) (p : ProdS) : ProdS := if i = 0 then ⟨w8 s 1, n2p s 0, n2p s 1, p.places⟩ else ⟨p.key, p.wide, p.high, p.places ++ [plOf s]⟩
theorem okPi_0 (s : ByteArray) : okPi 0 s = okP0 s := rfl
theorem okPi_1 {i : Nat} (h : i ≠ 0) (s : ByteArray) : okPi i s = okP1 s := if_neg h
theorem stepP_0 (s : ByteArray) (p : ProdS) : stepP 0 s p = ⟨w8 s 1, n2p s 0, n2p s 1, p.places⟩ := rfl
theorem stepP_1 {i : Nat} (h : i ≠ 0) (s : ByteArray) (p : ProdS) : stepP i s p = ⟨p.key, p.wide, p.high, p.places ++ [plOf s]⟩ := if_neg h
def prZ : ProdS := ⟨⟨#[]⟩, 0, 0, []⟩
def prOf : List ByteArray → ProdS
 | [] => prZ
 | s :: r => ⟨w8 s 1, n2p s 0, n2p s 1, r.map plOf⟩
theorem prOf_step (pre : List ByteArray) (s : ByteArray) : stepP pre.length s (prOf pre) = prOf (pre ++ [s]) := by
 cases pre with
 | nil => rfl
 | cons x r => rw [stepP_1 (by simp)]; simp [prOf]
theorem prOf_len (pre : List ByteArray) : (prOf pre).places.length ≤ pre.length := by
 cases pre with
 | nil => exact Nat.le_refl _
 | cons x r => simp [prOf]
theorem prOf_take {ls : List ByteArray} {q : Nat} (h : q < ls.length) : prOf (ls.take (q + 1)) = stepP q (ls.getD q ByteArray.empty) (prOf (ls.take q)) := by
 have e : ls.take (q + 1) = ls.take q ++ [ls.getD q ByteArray.empty] := by
  rw [List.take_succ_eq_append_getElem h]; simp [List.getD_eq_getElem?_getD, h]
 have h2 := prOf_step (ls.take q) (ls.getD q ByteArray.empty)
 rw [List.length_take, Nat.min_eq_left (by omega)] at h2
 rw [e, h2]
abbrev okPs : List ByteArray → ByteArray → Bool := fun pre x => okPi pre.length x
abbrev prBad (text : ByteArray) : Option Nat := lnF (okAt okPs (linesR text)) (linesR text) (linesE text)
def prRead (text : ByteArray) : ProdS × Int × Int :=
 if 200000 < text.size then (prZ, 0, 2)
 else if (linesR text).length = 0 then (prZ, 0, 9)
 else match prBad text with
  | some i => (prZ, (i : Int), 9)
  | none => if prodF (prOf (linesR text)) = 0 then (prOf (linesR text), 0, 0) else (prZ, 0, prodF (prOf (linesR text)))
section
variable {text : ByteArray}
theorem prRead_2 (h : 200000 < text.size) : prRead text = (prZ, 0, 2) := by rw [prRead, if_pos h]
theorem prRead_n (h : ¬ 200000 < text.size) (h0 : (linesR text).length = 0) : prRead text = (prZ, 0, 9) := by rw [prRead, if_neg h, if_pos h0]
theorem prRead_9 (h : ¬ 200000 < text.size) (h0 : (linesR text).length ≠ 0) {i : Nat} (hi : prBad text = some i) : prRead text = (prZ, (i : Int), 9) := by rw [prRead, if_neg h, if_neg h0, hi]
theorem prRead_e (h : ¬ 200000 < text.size) (h0 : (linesR text).length ≠ 0) (hi : prBad text = none) (hf : prodF (prOf (linesR text)) ≠ 0) : prRead text = (prZ, 0, prodF (prOf (linesR text))) := by rw [prRead, if_neg h, if_neg h0, hi]; simp only; rw [if_neg hf]
theorem prRead_0 (h : ¬ 200000 < text.size) (h0 : (linesR text).length ≠ 0) (hi : prBad text = none) (hf : prodF (prOf (linesR text)) = 0) : prRead text = (prOf (linesR text), 0, 0) := by rw [prRead, if_neg h, if_neg h0, hi]; simp only; rw [if_pos hf]
theorem plOf_sm {n : Nat} {s : ByteArray} (h : s.size ≤ n) : (plOf s).name.size ≤ n ∧ (plOf s).part.size ≤ n :=
 ⟨Nat.le_trans (splitS_get _ _ _) h, Nat.le_trans (splitS_get _ _ _) h⟩
theorem prOf_Sm {ls : List ByteArray} {n : Nat} (hn : n ≤ 1000000) (hl : ls.length ≤ 1000000) (h : ∀ i, (ls.getD i ByteArray.empty).size ≤ n) : SmP (prOf ls) := by
 cases ls with
 | nil => exact ⟨by decide, by decide, fun i => by simp [prOf, prZ]; decide, fun i => by simp [prOf, prZ]; decide⟩
 | cons x r =>
  have hx : x.size ≤ n := h 0
  have hg : ∀ i, ((r.map plOf).getD i default).name.size ≤ 1000000 ∧ ((r.map plOf).getD i default).part.size ≤ 1000000 := fun i => by
   by_cases hi : i < r.length
   ·have e : (r.map plOf).getD i default = plOf (r.getD i ByteArray.empty) := by simp [List.getD_eq_getElem?_getD, hi]
    rw [e]
    have := plOf_sm (h (i + 1))
    simp only [List.getD_cons_succ] at this
    exact ⟨by omega, by omega⟩
   ·have e : (r.map plOf).getD i default = default := by rw [List.getD_eq_getElem?_getD, List.getElem?_eq_none (by rw [List.length_map]; omega)]; rfl
    rw [e]
    exact ⟨Nat.zero_le _, Nat.zero_le _⟩
  refine ⟨?_, ?_, fun i => (hg i).1, fun i => (hg i).2⟩
  ·show (w8 x 1).size ≤ 1000000
   have := splitS_get 32 x 1
   exact Nat.le_trans this (by omega)
  ·show (r.map plOf).length ≤ 1000000
   rw [List.length_map]; simp at hl; omega
theorem lpBad_at {ls : List ByteArray} {e : Bool} {q : Nat} (hq : q < ls.length) : lnBad (okAt okPs ls) ls e q = (!okPi q (ls.getD q ByteArray.empty) || (!e && decide (q + 1 = ls.length))) := by
 unfold lnBad okAt okPs
 rw [List.length_take, Nat.min_eq_left (by omega)]
end
section
variable {ls : List ByteArray} {en : Bool} {q : Nat}
theorem lpb1 (hq : q < ls.length) (h : okPi q (ls.getD q ByteArray.empty) = false) : lnBad (okAt okPs ls) ls en q = true := by rw [lpBad_at hq, h]; rfl
theorem lpb2 (hq : q < ls.length) (h : en = false) (h2 : q + 1 = ls.length) : lnBad (okAt okPs ls) ls en q = true := by rw [lpBad_at hq, h, decide_eq_true h2]; simp
theorem lpb3 (hq : q < ls.length) (h : okPi q (ls.getD q ByteArray.empty) = true) (h2 : en = true) : lnBad (okAt okPs ls) ls en q = false := by rw [lpBad_at hq, h, h2]; rfl
theorem lpb4 (hq : q < ls.length) (h : okPi q (ls.getD q ByteArray.empty) = true) (h2 : ¬ q + 1 = ls.length) : lnBad (okAt okPs ls) ls en q = false := by rw [lpBad_at hq, h, decide_eq_false h2]; simp
end
end Go.Proofs.YtbbgjeiefmiblaaGreatDoor
namespace Go.Proofs.YtbbgjeiefmiblaaGreatDoor
open Go.RowKit
set_option linter.unusedVariables false
set_option linter.unusedSimpArgs false
section
variable {P : Program} {B : Bs} {s : St'}
theorem Le.cellRow {i k j g n sz : Nat} {o' : Own'} {u : Value} {cs : List AV} {ty : TypeId} {y : AV} (hB : B.Ok) (hi : s.hp[i]? = some (.box g o')) (hj : o'.cs[j]? = some (.v u)) (hk : s.hp[k]? = some (.row u n sz cs ty)) (hik : i < k) (hy : ∀ w Z u, Rep w Z (.im n sz fun j => cs.getD j .any) u → Rep w Z y u) :
  Le B s ⟨s.sl, (s.hp.eraseIdx k).set i (.box g ⟨o'.cs.set j y, o'.ty, o'.tot⟩), s.k⟩ := fun a w hr => by
 have hr1 := hr.erase k
 have hi1 : (s.hp.eraseIdx k)[i]? = some (.box g o') := by rw [List.getElem?_eraseIdx, if_pos hik]; exact hi
 have hz : ∀ b, Zn B (s.hp.eraseIdx k) w b → Zn B ((s.hp.eraseIdx k).set i (.box g ⟨o'.cs.set j y, o'.ty, o'.tot⟩)) w b := fun b hb => ⟨hb.1, fun p hp hpb => by
  rcases List.mem_or_eq_of_mem_set hp with h | h
  ·exact hb.2.1 p h hpb
  ·subst h; exact hb.2.1 _ (List.mem_of_getElem? hi1) hpb, hb.2.2⟩
 have hz0 : ∀ b, Zn B s.hp w b → Zn B (s.hp.eraseIdx k) w b := fun b hb => ⟨hb.1, fun p hp => hb.2.1 p ((List.eraseIdx_sublist s.hp k).subset hp), hb.2.2⟩
 refine hr1.set hB hi1 (w' := w) (Chg.refl _ w) (.inl rfl) ?_
 obtain ⟨c, h1, h2, h3, h4⟩ := hr1.blocks _ (List.mem_of_getElem? hi1)
 refine ⟨c, h1, h2, by simpa using h3, fun q hq => ?_⟩
 have hq' : q < o'.cs.length := by simpa using hq
 obtain ⟨hjl, hje⟩ := List.getElem?_eq_some_iff.1 hj
 obtain ⟨v, k1, k2⟩ := h4 q hq'
 refine ⟨v, k1, ?_⟩
 rw [List.getElem_set]
 split
 ·rename_i e
  subst e
  rw [hje] at k2
  rw [k2.eq_v]
  exact hy _ _ _ (hr.repRow hk (fun b hb => hz b (hz0 b hb)) fun g' hg hl => hz g' (hr.erased hB hk hg))
 ·exact k2.keep fun b hb _ => ⟨rfl, hz b hb⟩
end
end Go.Proofs.YtbbgjeiefmiblaaGreatDoor
namespace Go.Proofs.YtbbgjeiefmiblaaGreatDoor
open Go.RowKit
set_option linter.unusedVariables false
set_option linter.unusedSimpArgs false
abbrev bxPr (g : Nat) (p : ProdS) (u : Value) : Ent := .box g ⟨[avS p.key, avI p.wide, avI p.high, .v u], 65, 4⟩
abbrev rwPl (u : Value) (xs : List PlaceS) : Ent := .row u xs.length 5 (rowL xs) 128
theorem okPi_w {i : Nat} {s : ByteArray} (h : wordsB s = false) : okPi i s = false := by
 unfold okPi
 split
 ·exact okP0_n (.inl h)
 ·exact okP1_n (.inl h)
theorem rwPl_eq {g n : Nat} {u : Value} {p : ProdS} {xs : List PlaceS} (h : n = xs.length) : [bxPr g p u, .row u n 5 (rowL xs) 128] = [bxPr g p u, rwPl u xs] := by subst h; rfl
set_option maxRecDepth 100000 in
set_option maxHeartbeats 8000000 in
theorem panel_readLine {s : ByteArray} {i g : Nat} {p : ProdS} {u : Value} (hs : s.size ≤ 10000000) (hl : p.places.length ≤ 10000000) (hi : i ≤ 10000000) :
  SpecH Tryz.prog 101 [pt g, avS s, avI (i : Int)] [bxPr g p u, rwPl u p.places] (fun y hp' => ∃ u' p', y = avB (okPi i s) ∧ hp' = [bxPr g p' u', rwPl u' p'.places] ∧ (okPi i s = true → p' = stepP i s p) ∧ p'.places.length ≤ p.places.length + 1) := by
 refine SpecH.of_VC Tryz.func101 rfl Tryz.ntmps101 (Nle rfl) fun w A hB => ?_
 have hnew : True := trivial
 refine VC.sr ?_
 refine VO.ma rfl rfl rfl rfl ?_
 refine VO.nil ?_
 refine VC.seq ?_
 have hwl := splitS_length 32 s
 have hwz := splitS_get 32 s
 refine VC.region ?_
 refine VO.mv rfl rfl rfl rfl ?_
 refine VO.op rfl (OpE.call rfl hB rfl Tryz.call146 rfl (kit_Words (by omega)) ?_)
 rintro _ rfl
 obtain ⟨wb, hwb⟩ : ∃ wb, wordsB s = wb := ⟨_, rfl⟩
 rw [hwb]
 have hwr : wb = true → wordsR s = splitS 32 s := fun e => by rw [wordsR, if_pos (by rw [hwb]; exact e)]
 refine VO.mv rfl rfl rfl rfl ?_
 refine VO.val rfl rfl (OpV.extract rfl rfl rfl) ?_
 refine VO.val rfl rfl (OpV.extract rfl rfl rfl) ?_
 refine VO.ma rfl rfl rfl rfl ?_
 refine VO.ma rfl rfl rfl rfl ?_
 refine VO.nil ?_
 refine VC.seq ?_
 refine VC.sr ?_
 refine VO.mv rfl rfl rfl rfl ?_
 refine VO.val rfl rfl (OpV.not rfl rfl) ?_
 refine VO.nil ?_
 refine VC.cond rfl (fun h0b => ?_) (fun h0b => ?_)
 ·have h0 := h0b
  try simp only [qqT, qqF, qqN, qqM, qqL, qqE] at h0
  have hno : okPi i s = false := okPi_w (by rw [hwb]; simp_all)
  refine VC.sr ?_
  refine VO.ma rfl rfl rfl rfl ?_
  refine VO.nil ?_
  refine VC.ret ?_
  exact Exists.intro _ (And.intro (RetV.one Tryz.results101 (ResV.tmp rfl)) (⟨u, p, by rw [hno], rfl, (fun e => by rw [hno] at e; (cases e)), Nat.le_succ _⟩))
 ·have h0 := h0b
  try simp only [qqT, qqF, qqN, qqM, qqL, qqE] at h0
  have hwt : wb = true := by simp_all
  obtain ⟨ws, hws⟩ : ∃ ws, splitS 32 s = ws := ⟨_, rfl⟩
  refine VC.le _ (Le.recast (t := 7) (y := avStrs ws) rfl (fun w Z u h => by rw [← hws, ← hwr hwt]; exact h)) ?_
  rw [hws] at hwz hwl
  refine VC.skip ?_
  refine VC.seq ?_
  refine VC.sr ?_
  refine VO.mv rfl rfl rfl rfl ?_
  refine VO.val rfl rfl (OpV.eql rfl rfl rfl) ?_
  refine VO.nil ?_
  refine VC.cond rfl (fun h1b => ?_) (fun h1b => ?_)
  ·have h1 := h1b
   try simp only [qqT, qqF, qqN, qqM, qqL, qqE] at h1
   obtain rfl : i = 0 := by omega
   refine VC.seq ?_
   refine VC.sr ?_
   refine VO.mv rfl rfl rfl rfl ?_
   refine VO.val rfl rfl (OpV.len_im rfl Tryz.underlying29 rfl) ?_
   refine VO.val rfl rfl (OpV.neq rfl rfl rfl) ?_
   refine VO.mv rfl rfl rfl rfl ?_
   refine VO.opG rfl rfl rfl rfl (fun aK1b => ?_) (fun aK1b => ?_)
   ·replace aK1b : _ = false := aK1b
    have aK1 := aK1b
    try simp only [qqT, qqF, qqN, qqM, qqL, qqE] at aK1
    refine OpE.val (W := NoB) (OpV.move (.inl rfl) rfl) rfl ?_
    refine VO.opY rfl rfl rfl rfl aK1b ?_
    refine OpE.val (W := NoB) (OpV.indexAddr_1 rfl Tryz.underlying29 Tryz.sizeOf9 rfl rfl (Int.toNat_of_nonneg (by omega)).symm (by omega)) rfl ?_
    refine VO.opY rfl rfl rfl rfl aK1b ?_
    refine OpE.val (W := NoB) (OpV.load_at rfl hB OutW.no Tryz.isAgg9 rfl rfl) rfl ?_
    refine VO.opY rfl rfl rfl rfl aK1b ?_
    refine OpE.val (W := NoB) (OpV.sneq rfl rfl rfl) rfl ?_
    refine VO.val rfl rfl (OpV.pickF rfl rfl rfl rfl aK1b) ?_
    refine VO.nil ?_
    refine VC.cond rfl (fun aH2b => ?_) (fun aH2b => ?_)
    ·have aH2 := aH2b
     try simp only [qqT, qqF, qqN, qqM, qqL, qqE] at aH2
     have hno : okPi 0 s = false := okP0_n (.inr (.inr (by unfold w8; rw [hws]; exact not_true_false (by assumption))))
     refine VC.sr ?_
     refine VO.ma rfl rfl rfl rfl ?_
     refine VO.nil ?_
     refine VC.ret ?_
     exact Exists.intro _ (And.intro (RetV.one Tryz.results101 (ResV.tmp rfl)) (⟨u, p, by rw [hno], rfl, (fun e => by rw [hno] at e; (cases e)), Nat.le_succ _⟩))
    ·have aH2 := aH2b
     try simp only [qqT, qqF, qqN, qqM, qqL, qqE] at aH2
     have hl4 : ws.length = 4 := by omega
     have hok : okPi 0 s = numsB (ws.drop 2) := by
      rw [okPi_0, okP0_y (by rw [hwb, hwt]) (by rw [hws]; exact hl4) (by unfold w8; rw [hws]; exact not_false_true (by assumption)), hws]
     obtain ⟨wd, hwd⟩ : ∃ wd, ws.drop 2 = wd := ⟨_, rfl⟩
     have hd2 : wd.length = 2 := by rw [← hwd, List.length_drop]; omega
     have hdz : ∀ i, (wd.getD i ByteArray.empty).size ≤ s.size := fun i => by
      rw [← hwd, List.getD_eq_getElem?_getD, List.getElem?_drop, ← List.getD_eq_getElem?_getD]; exact hwz _
     rw [hwd] at hok
     refine VC.skip ?_
     refine VC.sr ?_
     refine VO.mv rfl rfl rfl rfl ?_
     refine VO.val rfl rfl (OpV.slice_strs (l := 2) rfl Tryz.underlying29 Tryz.sizeOf9 rfl ⟨_, _, rfl, rfl⟩ rfl (by omega) (by omega)) ?_
     refine VO.le _ (Le.recast (t := 32) (y := avStrs wd) rfl (fun w Z u h => by rw [← hwd]; first | exact h | (simp only [List.take_length] at h; exact h))) ?_
     refine VO.op rfl (OpE.call rfl hB rfl Tryz.call147 rfl (SpecN.spec (kit_Numbers (l := wd) (by omega) (fun i => Nat.le_trans (hdz i) (by omega)))) ?_)
     rintro _ rfl
     obtain ⟨nb, hnb⟩ : ∃ nb, numsB wd = nb := ⟨_, rfl⟩
     obtain ⟨ns, hns⟩ : ∃ ns, numsR wd = ns := ⟨_, rfl⟩
     have hnl : nb = true → ns.length = 2 := fun e => by rw [← hns, numsR_len (by rw [hnb, e]), hd2]
     rw [hnb, hns]
     rw [hnb] at hok
     refine VO.mv rfl rfl rfl rfl ?_
     refine VO.val rfl rfl (OpV.extract rfl rfl rfl) ?_
     refine VO.val rfl rfl (OpV.extract rfl rfl rfl) ?_
     refine VO.ma rfl rfl rfl rfl ?_
     refine VO.ma rfl rfl rfl rfl ?_
     refine VO.nil ?_
     refine VC.seq ?_
     refine VC.sr ?_
     refine VO.mv rfl rfl rfl rfl ?_
     refine VO.val rfl rfl (OpV.not rfl rfl) ?_
     refine VO.nil ?_
     refine VC.cond rfl (fun h3b => ?_) (fun h3b => ?_)
     ·have h3 := h3b
      try simp only [qqT, qqF, qqN, qqM, qqL, qqE] at h3
      have hno : okPi 0 s = false := by rw [hok]; simp_all
      refine VC.sr ?_
      refine VO.ma rfl rfl rfl rfl ?_
      refine VO.nil ?_
      refine VC.ret ?_
      exact Exists.intro _ (And.intro (RetV.one Tryz.results101 (ResV.tmp rfl)) (⟨u, p, by rw [hno], rfl, (fun e => by rw [hno] at e; (cases e)), Nat.le_succ _⟩))
     ·have h3 := h3b
      try simp only [qqT, qqF, qqN, qqM, qqL, qqE] at h3
      have hnbt : nb = true := by simp_all
      have hn2 := hnl hnbt
      refine VC.skip ?_
      refine VC.seq ?_
      refine VC.draw (fun j b => (j = 14 ∧ b = g) ∨ (j = 17 ∧ b = g) ∨ (j = 20 ∧ b = g)) hB (by kernel_rfl) ?_
      refine VA.take (i := 0) rfl (by kernel_rfl) (by kernel_rfl) (by kernel_rfl) rfl rfl (OpV.move (.inl rfl) rfl) ?_
      refine VA.take (i := 1) rfl (by kernel_rfl) (by kernel_rfl) (by kernel_rfl) rfl rfl (OpV.move (.inl rfl) rfl) ?_
      refine VA.take (i := 2) rfl (by kernel_rfl) (by kernel_rfl) (by kernel_rfl) rfl rfl (OpV.move (.inl rfl) rfl) ?_
      refine VA.take (i := 3) rfl (by kernel_rfl) (by kernel_rfl) (by kernel_rfl) rfl rfl (OpV.move (.inl rfl) rfl) ?_
      refine VA.take (i := 4) rfl (by kernel_rfl) (by kernel_rfl) (by kernel_rfl) rfl rfl (OpV.indexAddr_1 rfl Tryz.underlying29 Tryz.sizeOf9 rfl rfl (Int.toNat_of_nonneg (by omega)).symm (by omega)) ?_
      refine VA.take (i := 5) rfl (by kernel_rfl) (by kernel_rfl) (by kernel_rfl) rfl rfl (OpV.load_at rfl hB (OutW.wi (by rintro j b (⟨-, rfl⟩ | ⟨-, rfl⟩ | ⟨-, rfl⟩) <;> exact ⟨_, List.mem_of_getElem? (i := 0) rfl, rfl⟩)) Tryz.isAgg9 rfl rfl) ?_
      refine VA.take (i := 6) rfl (by kernel_rfl) (by kernel_rfl) (by kernel_rfl) rfl rfl (OpV.move (.inl rfl) rfl) ?_
      refine VA.take (i := 7) rfl (by kernel_rfl) (by kernel_rfl) (by kernel_rfl) rfl rfl (OpV.indexAddr_1 rfl Tryz.underlying22 Tryz.sizeOf3 rfl rfl (Int.toNat_of_nonneg (by omega)).symm (by omega)) ?_
      refine VA.take (i := 8) rfl (by kernel_rfl) (by kernel_rfl) (by kernel_rfl) rfl rfl (OpV.load_at rfl hB (OutW.wi (by rintro j b (⟨-, rfl⟩ | ⟨-, rfl⟩ | ⟨-, rfl⟩) <;> exact ⟨_, List.mem_of_getElem? (i := 0) rfl, rfl⟩)) Tryz.isAgg3 rfl rfl) ?_
      refine VA.take (i := 9) rfl (by kernel_rfl) (by kernel_rfl) (by kernel_rfl) rfl rfl (OpV.move (.inl rfl) rfl) ?_
      refine VA.take (i := 10) rfl (by kernel_rfl) (by kernel_rfl) (by kernel_rfl) rfl rfl (OpV.indexAddr_1 rfl Tryz.underlying22 Tryz.sizeOf3 rfl rfl (Int.toNat_of_nonneg (by omega)).symm (by omega)) ?_
      refine VA.take (i := 11) rfl (by kernel_rfl) (by kernel_rfl) (by kernel_rfl) rfl rfl (OpV.load_at rfl hB (OutW.wi (by rintro j b (⟨-, rfl⟩ | ⟨-, rfl⟩ | ⟨-, rfl⟩) <;> exact ⟨_, List.mem_of_getElem? (i := 0) rfl, rfl⟩)) Tryz.isAgg3 rfl rfl) ?_
      refine VA.take (i := 12) rfl (by kernel_rfl) (by kernel_rfl) (by kernel_rfl) rfl rfl (OpV.nilCheck rfl rfl) ?_
      refine VA.take (i := 13) rfl (by kernel_rfl) (by kernel_rfl) (by kernel_rfl) rfl rfl (OpV.fieldAddrO 0 rfl Tryz.underlying65 rfl rfl Tryz.sizeOf9 rfl) ?_
      refine VA.all (rs := [14]) (by kernel_rfl) (by decide) ?_
      refine ⟨⟨_, rfl, .inl rfl, ?_⟩, trivial⟩
      refine OpE.store (i := 0) rfl hB rfl Tryz.sizeOf9 rfl rfl rfl rfl rfl rfl (Nle rfl) (by first | exact .inl ⟨rfl, rfl⟩ | exact .inr (.inl ⟨rfl, rfl⟩) | exact .inr (.inr ⟨rfl, rfl⟩)) ?_
      refine VA.take (i := 15) rfl (by kernel_rfl) (by kernel_rfl) (by kernel_rfl) rfl rfl (OpV.nilCheck rfl rfl) ?_
      refine VA.take (i := 16) rfl (by kernel_rfl) (by kernel_rfl) (by kernel_rfl) rfl rfl (OpV.fieldAddrO 1 rfl Tryz.underlying65 rfl rfl Tryz.sizeOf3 rfl) ?_
      refine VA.all (rs := [17]) (by kernel_rfl) (by decide) ?_
      refine ⟨⟨_, rfl, .inl rfl, ?_⟩, trivial⟩
      refine OpE.store (i := 0) rfl hB rfl Tryz.sizeOf3 rfl rfl rfl rfl rfl rfl (Nle rfl) (by first | exact .inl ⟨rfl, rfl⟩ | exact .inr (.inl ⟨rfl, rfl⟩) | exact .inr (.inr ⟨rfl, rfl⟩)) ?_
      refine VA.take (i := 18) rfl (by kernel_rfl) (by kernel_rfl) (by kernel_rfl) rfl rfl (OpV.nilCheck rfl rfl) ?_
      refine VA.take (i := 19) rfl (by kernel_rfl) (by kernel_rfl) (by kernel_rfl) rfl rfl (OpV.fieldAddrO 2 rfl Tryz.underlying65 rfl rfl Tryz.sizeOf3 rfl) ?_
      refine VA.all (rs := [20]) (by kernel_rfl) (by decide) ?_
      refine ⟨⟨_, rfl, .inl rfl, ?_⟩, trivial⟩
      refine OpE.store (i := 0) rfl hB rfl Tryz.sizeOf3 rfl rfl rfl rfl rfl rfl (Nle rfl) (by first | exact .inl ⟨rfl, rfl⟩ | exact .inr (.inl ⟨rfl, rfl⟩) | exact .inr (.inr ⟨rfl, rfl⟩)) ?_
      refine VA.done (by kernel_rfl) ?_
      refine VC.sr ?_
      refine VO.ma rfl rfl rfl rfl ?_
      refine VO.nil ?_
      refine VC.ret ?_
      exact Exists.intro _ (And.intro (RetV.one Tryz.results101 (ResV.tmp rfl)) (⟨u, ⟨ws.getD 1 ByteArray.empty, ns.getD 0 0, ns.getD 1 0, p.places⟩, by rw [hok, hnbt], rfl, fun _ => by rw [stepP_0]; unfold w8 n2p; rw [hws, hwd, hns], Nat.le_succ _⟩))
   ·replace aK1b : _ = true := aK1b
    have aK1 := aK1b
    try simp only [qqT, qqF, qqN, qqM, qqL, qqE] at aK1
    refine VO.opX rfl rfl rfl rfl aK1b ?_
    refine VO.opX rfl rfl rfl rfl aK1b ?_
    refine VO.opX rfl rfl rfl rfl aK1b ?_
    refine VO.val rfl rfl (OpV.pickT rfl rfl rfl rfl aK1b) ?_
    refine VO.nil ?_
    refine VC.condT rfl rfl ?_
    have hno : okPi 0 s = false := okP0_n (.inr (.inl (by rw [hws]; omega)))
    refine VC.sr ?_
    refine VO.ma rfl rfl rfl rfl ?_
    refine VO.nil ?_
    refine VC.ret ?_
    exact Exists.intro _ (And.intro (RetV.one Tryz.results101 (ResV.tmp rfl)) (⟨u, p, by rw [hno], rfl, (fun e => by rw [hno] at e; (cases e)), Nat.le_succ _⟩))
  ·have h1 := h1b
   try simp only [qqT, qqF, qqN, qqM, qqL, qqE] at h1
   refine VC.skip ?_
   refine VC.seq ?_
   refine VC.sr ?_
   refine VO.mv rfl rfl rfl rfl ?_
   refine VO.val rfl rfl (OpV.len_im rfl Tryz.underlying29 rfl) ?_
   refine VO.val rfl rfl (OpV.neq rfl rfl rfl) ?_
   refine VO.mv rfl rfl rfl rfl ?_
   refine VO.opG rfl rfl rfl rfl (fun aK3b => ?_) (fun aK3b => ?_)
   ·replace aK3b : _ = false := aK3b
    have aK3 := aK3b
    try simp only [qqT, qqF, qqN, qqM, qqL, qqE] at aK3
    refine OpE.val (W := NoB) (OpV.move (.inl rfl) rfl) rfl ?_
    refine VO.opY rfl rfl rfl rfl aK3b ?_
    refine OpE.val (W := NoB) (OpV.indexAddr_1 rfl Tryz.underlying29 Tryz.sizeOf9 rfl rfl (Int.toNat_of_nonneg (by omega)).symm (by omega)) rfl ?_
    refine VO.opY rfl rfl rfl rfl aK3b ?_
    refine OpE.val (W := NoB) (OpV.load_at rfl hB OutW.no Tryz.isAgg9 rfl rfl) rfl ?_
    refine VO.opY rfl rfl rfl rfl aK3b ?_
    refine OpE.val (W := NoB) (OpV.sneq rfl rfl rfl) rfl ?_
    refine VO.val rfl rfl (OpV.pickF rfl rfl rfl rfl aK3b) ?_
    refine VO.nil ?_
    refine VC.cond rfl (fun aH4b => ?_) (fun aH4b => ?_)
    ·have aH4 := aH4b
     try simp only [qqT, qqF, qqN, qqM, qqL, qqE] at aH4
     have hno : okPi i s = false := by rw [okPi_1 (by omega)]; exact okP1_n (.inr (.inr (by unfold w8; rw [hws]; exact not_true_false (by assumption))))
     refine VC.sr ?_
     refine VO.ma rfl rfl rfl rfl ?_
     refine VO.nil ?_
     refine VC.ret ?_
     exact Exists.intro _ (And.intro (RetV.one Tryz.results101 (ResV.tmp rfl)) (⟨u, p, by rw [hno], rfl, (fun e => by rw [hno] at e; (cases e)), Nat.le_succ _⟩))
    ·have aH4 := aH4b
     try simp only [qqT, qqF, qqN, qqM, qqL, qqE] at aH4
     have hi0 : i ≠ 0 := by omega
     have hl6 : ws.length = 6 := by omega
     have hok : okPi i s = numsB (ws.drop 3) := by
      rw [okPi_1 hi0, okP1_y (by rw [hwb, hwt]) (by rw [hws]; exact hl6) (by unfold w8; rw [hws]; exact not_false_true (by assumption)), hws]
     obtain ⟨wd, hwd⟩ : ∃ wd, ws.drop 3 = wd := ⟨_, rfl⟩
     have hd3 : wd.length = 3 := by rw [← hwd, List.length_drop]; omega
     have hdz : ∀ i, (wd.getD i ByteArray.empty).size ≤ s.size := fun i => by
      rw [← hwd, List.getD_eq_getElem?_getD, List.getElem?_drop, ← List.getD_eq_getElem?_getD]; exact hwz _
     rw [hwd] at hok
     refine VC.skip ?_
     refine VC.sr ?_
     refine VO.mv rfl rfl rfl rfl ?_
     refine VO.val rfl rfl (OpV.slice_strs (l := 3) rfl Tryz.underlying29 Tryz.sizeOf9 rfl ⟨_, _, rfl, rfl⟩ rfl (by omega) (by omega)) ?_
     refine VO.le _ (Le.recast (t := 67) (y := avStrs wd) rfl (fun w Z u h => by rw [← hwd]; first | exact h | (simp only [List.take_length] at h; exact h))) ?_
     refine VO.op rfl (OpE.call rfl hB rfl Tryz.call147 rfl (SpecN.spec (kit_Numbers (l := wd) (by omega) (fun i => Nat.le_trans (hdz i) (by omega)))) ?_)
     rintro _ rfl
     obtain ⟨nb, hnb⟩ : ∃ nb, numsB wd = nb := ⟨_, rfl⟩
     obtain ⟨ns, hns⟩ : ∃ ns, numsR wd = ns := ⟨_, rfl⟩
     have hnl : nb = true → ns.length = 3 := fun e => by rw [← hns, numsR_len (by rw [hnb, e]), hd3]
     rw [hnb, hns]
     rw [hnb] at hok
     refine VO.mv rfl rfl rfl rfl ?_
     refine VO.val rfl rfl (OpV.extract rfl rfl rfl) ?_
     refine VO.val rfl rfl (OpV.extract rfl rfl rfl) ?_
     refine VO.ma rfl rfl rfl rfl ?_
     refine VO.ma rfl rfl rfl rfl ?_
     refine VO.nil ?_
     refine VC.seq ?_
     refine VC.sr ?_
     refine VO.mv rfl rfl rfl rfl ?_
     refine VO.val rfl rfl (OpV.not rfl rfl) ?_
     refine VO.nil ?_
     refine VC.cond rfl (fun h5b => ?_) (fun h5b => ?_)
     ·have h5 := h5b
      try simp only [qqT, qqF, qqN, qqM, qqL, qqE] at h5
      have hno : okPi i s = false := by rw [hok]; simp_all
      refine VC.sr ?_
      refine VO.ma rfl rfl rfl rfl ?_
      refine VO.nil ?_
      refine VC.ret ?_
      exact Exists.intro _ (And.intro (RetV.one Tryz.results101 (ResV.tmp rfl)) (⟨u, p, by rw [hno], rfl, (fun e => by rw [hno] at e; (cases e)), Nat.le_succ _⟩))
     ·have h5 := h5b
      try simp only [qqT, qqF, qqN, qqM, qqL, qqE] at h5
      have hnbt : nb = true := by simp_all
      have hn3 := hnl hnbt
      refine VC.skip ?_
      refine VC.seq ?_
      obtain ⟨x, hx⟩ : ∃ x : PlaceS, x = ⟨ws.getD 1 ByteArray.empty, ws.getD 2 ByteArray.empty, ns.getD 0 0, ns.getD 1 0, ns.getD 2 0⟩ := ⟨_, rfl⟩
      have hxo : x = plOf s := by
       rw [hx]
       unfold plOf w8 n3p
       rw [hws, hwd, hns]
      refine VC.draw (fun j b => (j = 22 ∧ u.ownBlock = some b) ∨ (j = 25 ∧ b = g)) hB (by kernel_rfl) ?_
      refine VA.take (i := 0) rfl (by kernel_rfl) (by kernel_rfl) (by kernel_rfl) rfl rfl (OpV.move (.inl rfl) rfl) ?_
      refine VA.take (i := 1) rfl (by kernel_rfl) (by kernel_rfl) (by kernel_rfl) rfl rfl (OpV.move (.inl rfl) rfl) ?_
      refine VA.take (i := 2) rfl (by kernel_rfl) (by kernel_rfl) (by kernel_rfl) rfl rfl (OpV.nilCheck rfl rfl) ?_
      refine VA.take (i := 3) rfl (by kernel_rfl) (by kernel_rfl) (by kernel_rfl) rfl rfl (OpV.fieldAddrO 3 rfl Tryz.underlying65 rfl rfl Tryz.sizeOf63 rfl) ?_
      refine VA.takeT [4, 22, 25] (i := 4) (by kernel_rfl) (by kernel_rfl) rfl (by kernel_rfl) (by kernel_rfl) (by kernel_rfl) rfl rfl (OpV.load_own (i := 0) rfl hB Tryz.isAgg63 rfl rfl rfl (fun ⟨j, h1, h2⟩ => by rcases h2 with ⟨rfl, _⟩ | ⟨rfl, _⟩ <;> cases h1)) ?_
      refine VA.take (i := 5) rfl (by kernel_rfl) (by kernel_rfl) (by kernel_rfl) rfl rfl (OpV.move (.inl rfl) rfl) ?_
      refine VA.take (i := 6) rfl (by kernel_rfl) (by kernel_rfl) (by kernel_rfl) rfl rfl (OpV.indexAddr_1 rfl Tryz.underlying29 Tryz.sizeOf9 rfl rfl (Int.toNat_of_nonneg (by omega)).symm (by omega)) ?_
      refine VA.takeT [7, 20, 21, 22, 25] (i := 7) (by kernel_rfl) (by kernel_rfl) rfl (by kernel_rfl) (by kernel_rfl) (by kernel_rfl) rfl rfl (OpV.load_at rfl hB (fun b ⟨j, h1, h2⟩ => by rcases h2 with ⟨rfl, _⟩ | ⟨rfl, _⟩ <;> cases h1) Tryz.isAgg9 rfl rfl) ?_
      refine VA.take (i := 8) rfl (by kernel_rfl) (by kernel_rfl) (by kernel_rfl) rfl rfl (OpV.move (.inl rfl) rfl) ?_
      refine VA.take (i := 9) rfl (by kernel_rfl) (by kernel_rfl) (by kernel_rfl) rfl rfl (OpV.indexAddr_1 rfl Tryz.underlying29 Tryz.sizeOf9 rfl rfl (Int.toNat_of_nonneg (by omega)).symm (by omega)) ?_
      refine VA.takeT [10, 20, 21, 22, 25] (i := 10) (by kernel_rfl) (by kernel_rfl) rfl (by kernel_rfl) (by kernel_rfl) (by kernel_rfl) rfl rfl (OpV.load_at rfl hB (fun b ⟨j, h1, h2⟩ => by rcases h2 with ⟨rfl, _⟩ | ⟨rfl, _⟩ <;> cases h1) Tryz.isAgg9 rfl rfl) ?_
      refine VA.take (i := 11) rfl (by kernel_rfl) (by kernel_rfl) (by kernel_rfl) rfl rfl (OpV.move (.inl rfl) rfl) ?_
      refine VA.take (i := 12) rfl (by kernel_rfl) (by kernel_rfl) (by kernel_rfl) rfl rfl (OpV.indexAddr_1 rfl Tryz.underlying22 Tryz.sizeOf3 rfl rfl (Int.toNat_of_nonneg (by omega)).symm (by omega)) ?_
      refine VA.takeT [13, 20, 21, 22, 25] (i := 13) (by kernel_rfl) (by kernel_rfl) rfl (by kernel_rfl) (by kernel_rfl) (by kernel_rfl) rfl rfl (OpV.load_at rfl hB (fun b ⟨j, h1, h2⟩ => by rcases h2 with ⟨rfl, _⟩ | ⟨rfl, _⟩ <;> cases h1) Tryz.isAgg3 rfl rfl) ?_
      refine VA.take (i := 14) rfl (by kernel_rfl) (by kernel_rfl) (by kernel_rfl) rfl rfl (OpV.move (.inl rfl) rfl) ?_
      refine VA.take (i := 15) rfl (by kernel_rfl) (by kernel_rfl) (by kernel_rfl) rfl rfl (OpV.indexAddr_1 rfl Tryz.underlying22 Tryz.sizeOf3 rfl rfl (Int.toNat_of_nonneg (by omega)).symm (by omega)) ?_
      refine VA.takeT [16, 20, 21, 22, 25] (i := 16) (by kernel_rfl) (by kernel_rfl) rfl (by kernel_rfl) (by kernel_rfl) (by kernel_rfl) rfl rfl (OpV.load_at rfl hB (fun b ⟨j, h1, h2⟩ => by rcases h2 with ⟨rfl, _⟩ | ⟨rfl, _⟩ <;> cases h1) Tryz.isAgg3 rfl rfl) ?_
      refine VA.take (i := 17) rfl (by kernel_rfl) (by kernel_rfl) (by kernel_rfl) rfl rfl (OpV.move (.inl rfl) rfl) ?_
      refine VA.take (i := 18) rfl (by kernel_rfl) (by kernel_rfl) (by kernel_rfl) rfl rfl (OpV.indexAddr_1 rfl Tryz.underlying22 Tryz.sizeOf3 rfl rfl (Int.toNat_of_nonneg (by omega)).symm (by omega)) ?_
      refine VA.takeT [19, 20, 21, 22, 25] (i := 19) (by kernel_rfl) (by kernel_rfl) rfl (by kernel_rfl) (by kernel_rfl) (by kernel_rfl) rfl rfl (OpV.load_at rfl hB (fun b ⟨j, h1, h2⟩ => by rcases h2 with ⟨rfl, _⟩ | ⟨rfl, _⟩ <;> cases h1) Tryz.isAgg3 rfl rfl) ?_
      refine VA.take (i := 20) rfl (by kernel_rfl) (by kernel_rfl) (by kernel_rfl) rfl rfl (OpV.build (pls := #[(0, 1), (1, 1), (2, 1), (3, 1), (4, 1)]) rfl Tryz.zeroValue128 Tryz.underlying128 (fun w => by kernel_rfl) rfl rfl) ?_
      refine VA.le _ (Le.recast (t := 93) (y := avT x) rfl (fun w Z u h => by rw [hx]; exact h)) ?_
      refine VA.all (rs := [21]) (by kernel_rfl) (by decide) ?_
      refine ⟨⟨_, rfl, .inl rfl, ?_⟩, trivial⟩
      refine OpE.buildSlice (zc := #[.string ⟨#[]⟩, .string ⟨#[]⟩, .int .i64 0, .int .i64 0, .int .i64 0]) rfl hB rfl Tryz.underlying63 Tryz.sizeOf128 Tryz.zeroValue128 (by decide) (by decide) (by kernel_rfl) rfl rfl ?_
      refine VA.all (rs := [22]) (by kernel_rfl) (by decide) ?_
      refine ⟨⟨_, rfl, .inl rfl, ?_⟩, trivial⟩
      refine OpE.append1S (i := 1) rfl hB rfl Tryz.underlying63 (infoOf Tryz.t128 5 (by kernel_rfl) rfl rfl) rfl (by decide) (by decide) rfl rfl rfl rfl (rowL_snoc p.places x) (by omega) (fun g' hg => .inl ⟨rfl, hg⟩) ?_
      intro b95 c95
      refine VA.take (i := 23) rfl (by kernel_rfl) (by kernel_rfl) (by kernel_rfl) rfl rfl (OpV.nilCheck rfl rfl) ?_
      refine VA.take (i := 24) rfl (by kernel_rfl) (by kernel_rfl) (by kernel_rfl) rfl rfl (OpV.fieldAddrO 3 rfl Tryz.underlying65 rfl rfl Tryz.sizeOf63 rfl) ?_
      refine VA.all (rs := [25]) (by kernel_rfl) (by decide) ?_
      refine ⟨⟨_, rfl, .inl rfl, ?_⟩, trivial⟩
      refine OpE.store (i := 0) rfl hB rfl Tryz.sizeOf63 rfl rfl rfl rfl rfl rfl (Nle rfl) (.inr ⟨rfl, rfl⟩) ?_
      refine VA.done (by kernel_rfl) ?_
      refine VC.sr ?_
      refine VO.ma rfl rfl rfl rfl ?_
      refine VO.nil ?_
      refine VC.ret ?_
      exact Exists.intro _ (And.intro (RetV.one Tryz.results101 (ResV.tmp rfl)) (⟨_, ⟨p.key, p.wide, p.high, p.places ++ [x]⟩, by rw [hok, hnbt], rwPl_eq (p := ⟨p.key, p.wide, p.high, p.places ++ [x]⟩) (xs := p.places ++ [x]) (n := p.places.length + 1) (by simp), fun _ => by rw [stepP_1 hi0, hxo], by simp⟩))
   ·replace aK3b : _ = true := aK3b
    have aK3 := aK3b
    try simp only [qqT, qqF, qqN, qqM, qqL, qqE] at aK3
    refine VO.opX rfl rfl rfl rfl aK3b ?_
    refine VO.opX rfl rfl rfl rfl aK3b ?_
    refine VO.opX rfl rfl rfl rfl aK3b ?_
    refine VO.val rfl rfl (OpV.pickT rfl rfl rfl rfl aK3b) ?_
    refine VO.nil ?_
    refine VC.condT rfl rfl ?_
    have hno : okPi i s = false := by rw [okPi_1 (by omega)]; exact okP1_n (.inr (.inl (by rw [hws]; omega)))
    refine VC.sr ?_
    refine VO.ma rfl rfl rfl rfl ?_
    refine VO.nil ?_
    refine VC.ret ?_
    exact Exists.intro _ (And.intro (RetV.one Tryz.results101 (ResV.tmp rfl)) (⟨u, p, by rw [hno], rfl, (fun e => by rw [hno] at e; (cases e)), Nat.le_succ _⟩))
end Go.Proofs.YtbbgjeiefmiblaaGreatDoor
namespace Go.Proofs.YtbbgjeiefmiblaaGreatDoor
open Go.RowKit
set_option linter.unusedVariables false
set_option linter.unusedSimpArgs false
theorem prZ_out {a b : Int} {t : ProdS × Int × Int} (h : t = (prZ, a, b)) : AV.tup [avProd prZ, avI a, avI b] = AV.tup [avProd t.1, avI t.2.1, avI t.2.2] := by rw [h]
theorem nil_prZ {w : World} {Z : Nat → Prop} {u : Value} (h : Rep w Z (.agg [avS ⟨#[]⟩, avI 0, avI 0, .v (.slice none 0 0)]) u) : Rep w Z (avProd prZ) u := by
 cases h with
 | agg cs us hl hr =>
  refine .agg _ us hl fun j hj => ?_
  match j, hj with
  | 0, _ => exact hr 0 (by simp)
  | 1, _ => exact hr 1 (by simp)
  | 2, _ => exact hr 2 (by simp)
  | 3, _ =>
   have := hr 3 (by simp)
   show Rep w Z (.im 0 5 _) _
   rw [this.eq_v]; exact .nil _ _
theorem pr_out {p : ProdS} {a b : Int} {t : ProdS × Int × Int} (h : t = (p, a, b)) : AV.tup [avProd p, avI a, avI b] = AV.tup [avProd t.1, avI t.2.1, avI t.2.2] := by rw [h]
set_option maxRecDepth 100000 in
set_option maxHeartbeats 8000000 in
theorem panel_ReadP {text : ByteArray} (ht : text.size ≤ 900000) :
  Spec Tryz.prog 44 [avS text] (fun y => y = .tup [avProd (prRead text).1, avI (prRead text).2.1, avI (prRead text).2.2]) := by
 refine Spec.of_VC Tryz.func44 rfl Tryz.ntmps44 (Nle rfl) fun w A hB => ?_
 have hnew : True := trivial
 refine VC.sr ?_
 refine VO.op rfl (OpE.alloc rfl hB rfl Tryz.zeroValue65 rfl ?_)
 intro g2
 refine VO.ma rfl rfl rfl rfl ?_
 refine VO.ma rfl rfl rfl rfl ?_
 refine VO.nil ?_
 refine VC.seq ?_
 refine VC.sr ?_
 refine VO.mv rfl rfl rfl rfl ?_
 refine VO.val rfl rfl (OpV.len_s rfl Tryz.underlying9 rfl) ?_
 refine VO.val rfl rfl (OpV.gtr rfl rfl rfl) ?_
 refine VO.nil ?_
 refine VC.cond rfl (fun h0b => ?_) (fun h0b => ?_)
 ·have h0 := h0b
  try simp only [qqT, qqF, qqN, qqM, qqL, qqE] at h0
  refine VC.sr ?_
  refine VO.val rfl rfl (OpV.build (pls := #[(0, 1), (1, 1), (2, 1), (3, 1)]) rfl Tryz.zeroValue65 Tryz.underlying65 (fun w => by kernel_rfl) rfl rfl) ?_
  refine VO.le _ (Le.recast (t := 14) (y := avProd prZ) rfl (fun w Z u h => nil_prZ h)) ?_
  refine VO.op rfl (OpE.store (i := 0) rfl hB rfl Tryz.sizeOf65 rfl rfl rfl rfl rfl rfl (Nle rfl) trivial ?_)
  refine VO.ma rfl rfl rfl rfl ?_
  refine VO.ma rfl rfl rfl rfl ?_
  refine VO.nil ?_
  refine VC.ret ?_
  exact Exists.intro _ (And.intro (RetV.three Tryz.results44 ((by first | exact ResV.cellK (i := 0) Tryz.isAgg65 Tryz.sizeOf65 rfl rfl rfl)) (ResV.tmp rfl) (ResV.tmp rfl)) (prZ_out (prRead_2 (by omega))))
 ·have h0 := h0b
  try simp only [qqT, qqF, qqN, qqM, qqL, qqE] at h0
  refine VC.skip ?_
  refine VC.sr ?_
  refine VO.mv rfl rfl rfl rfl ?_
  refine VO.op rfl (OpE.call rfl hB rfl Tryz.call77 rfl (kit_Lines (by omega)) ?_)
  rintro _ rfl
  have hll := linesR_length text
  have hlg := linesR_get text
  obtain ⟨ls, hls⟩ : ∃ ls, linesR text = ls := ⟨_, rfl⟩
  obtain ⟨en, hen⟩ : ∃ en, linesE text = en := ⟨_, rfl⟩
  rw [hls] at hll hlg
  have hsm := prOf_Sm (ls := ls) (n := text.size) (by omega) (by omega) hlg
  refine VO.le _ (Le.recast (t := 17) (y := .tup [avStrs ls, avB en]) rfl (fun w Z u h => by rw [← hls, ← hen]; exact h)) ?_
  refine VO.mv rfl rfl rfl rfl ?_
  refine VO.val rfl rfl (OpV.extract rfl rfl rfl) ?_
  refine VO.val rfl rfl (OpV.extract rfl rfl rfl) ?_
  refine VO.ma rfl rfl rfl rfl ?_
  refine VO.ma rfl rfl rfl rfl ?_
  refine VO.nil ?_
  refine VC.seq ?_
  refine VC.sr ?_
  refine VO.mv rfl rfl rfl rfl ?_
  refine VO.val rfl rfl (OpV.len_im rfl Tryz.underlying29 rfl) ?_
  refine VO.val rfl rfl (OpV.eql rfl rfl rfl) ?_
  refine VO.nil ?_
  refine VC.cond rfl (fun h1b => ?_) (fun h1b => ?_)
  ·have h1 := h1b
   try simp only [qqT, qqF, qqN, qqM, qqL, qqE] at h1
   refine VC.sr ?_
   refine VO.val rfl rfl (OpV.build (pls := #[(0, 1), (1, 1), (2, 1), (3, 1)]) rfl Tryz.zeroValue65 Tryz.underlying65 (fun w => by kernel_rfl) rfl rfl) ?_
   refine VO.le _ (Le.recast (t := 23) (y := avProd prZ) rfl (fun w Z u h => nil_prZ h)) ?_
   refine VO.op rfl (OpE.store (i := 0) rfl hB rfl Tryz.sizeOf65 rfl rfl rfl rfl rfl rfl (Nle rfl) trivial ?_)
   refine VO.ma rfl rfl rfl rfl ?_
   refine VO.ma rfl rfl rfl rfl ?_
   refine VO.nil ?_
   refine VC.ret ?_
   exact Exists.intro _ (And.intro (RetV.three Tryz.results44 ((by first | exact ResV.cellK (i := 0) Tryz.isAgg65 Tryz.sizeOf65 rfl rfl rfl)) (ResV.tmp rfl) (ResV.tmp rfl)) (prZ_out (prRead_n (by omega) (by rw [hls]; omega))))
  ·have h1 := h1b
   try simp only [qqT, qqF, qqN, qqM, qqL, qqE] at h1
   refine VC.skip ?_
   refine VC.sr ?_
   refine VO.op rfl (OpE.alloc rfl hB rfl Tryz.zeroValue65 rfl ?_)
   intro g
   refine VO.nil ?_
   refine VC.seq ?_
   refine VC.sr ?_
   refine VO.mv rfl rfl rfl rfl ?_
   refine VO.val rfl rfl (OpV.len_im rfl Tryz.underlying29 rfl) ?_
   refine VO.mv rfl rfl rfl rfl ?_
   refine VO.nil ?_
   refine VC.block ?_
   refine VC.le _ (Le.nilRow 5 128) ?_
   refine VC.le _ (Le.pickH [1, 2, 0] rfl rfl) ?_
   refine VC.loopK [(2, _), (5, _), (6, _), (7, _), (24, _), (25, _)] ⟨rfl, rfl, rfl, rfl, rfl, rfl, trivial⟩ ({z : Value × Nat // z.2 ≤ ls.length ∧ ∀ j, j < z.2 → lnBad (okAt okPs ls) ls en j = false}) (fun (iZ : {z : Value × Nat // z.2 ≤ ls.length ∧ ∀ j, j < z.2 → lnBad (okAt okPs ls) ls en j = false}) => match iZ with | ⟨⟨u, q⟩, hq, hn⟩ => [(26, avI (q : Int))]) (fun (iZ : {z : Value × Nat // z.2 ≤ ls.length ∧ ∀ j, j < z.2 → lnBad (okAt okPs ls) ls en j = false}) => match iZ with | ⟨⟨u, q⟩, hq, hn⟩ => [bxPr g (prOf (ls.take q)) u, rwPl u (prOf (ls.take q)).places, bxPr g2 prZ (.slice none 0 0)]) (fun (iZ : {z : Value × Nat // z.2 ≤ ls.length ∧ ∀ j, j < z.2 → lnBad (okAt okPs ls) ls en j = false}) => match iZ with | ⟨⟨u, q⟩, hq, hn⟩ => 0) (fun (iZ : {z : Value × Nat // z.2 ≤ ls.length ∧ ∀ j, j < z.2 → lnBad (okAt okPs ls) ls en j = false}) => match iZ with | ⟨⟨u, q⟩, hq, hn⟩ => ls.length - q) ⟨(.slice none 0 0, 0), Nat.zero_le _, fun j hj => absurd hj (Nat.not_lt_zero j)⟩ (Le.mk hB [0, 1, 2] ⟨rfl, rfl, rfl, rfl, rfl, rfl, rfl, trivial⟩ rfl rfl (Nat.le_refl _)) ?_
   rintro ⟨⟨u, q⟩, hq, hn⟩
   show VC _ _ _ _ ⟨[(26, avI (q : Int))] ++ [(2, _), (5, _), (6, _), (7, _), (24, _), (25, _)], [bxPr g (prOf (ls.take q)) u, rwPl u (prOf (ls.take q)).places, bxPr g2 prZ (.slice none 0 0)], 0⟩
   simp only at hq hn
   have hpl := Nat.le_trans (prOf_len (ls.take q)) (List.length_take_le q ls)
   refine VC.sr ?_
   refine VO.val rfl rfl (OpV.lss rfl rfl rfl) ?_
   refine VO.nil ?_
   refine VC.seq ?_
   refine VC.cond rfl (fun aH1b => ?_) (fun aH1b => ?_)
   ·have aH1 := aH1b
    try simp only [qqT, qqF, qqN, qqM, qqL, qqE] at aH1
    refine VC.skip ?_
    refine VC.seq ?_
    refine VC.block ?_
    refine VC.sr ?_
    refine VO.mv rfl rfl rfl rfl ?_
    refine VO.val rfl rfl (OpV.indexAddr_1 rfl Tryz.underlying29 Tryz.sizeOf9 rfl rfl rfl (by omega)) ?_
    refine VO.val rfl rfl (OpV.load_at rfl hB OutW.no Tryz.isAgg9 rfl rfl) ?_
    refine VO.ma rfl rfl rfl rfl ?_
    refine VO.ma rfl rfl rfl rfl ?_
    refine VO.nil ?_
    refine VC.sr ?_
    refine VO.mv rfl rfl rfl rfl ?_
    refine VO.mv rfl rfl rfl rfl ?_
    refine VO.op rfl (OpE.callH (rest := [_]) rfl hB rfl Tryz.call101 rfl rfl (panel_readLine (s := ls.getD q ByteArray.empty) (i := q) (g := g) (p := prOf (ls.take q)) (u := u) (Nat.le_trans (hlg q) (by omega)) (by omega) (by omega)) (List.Perm.refl _) (fun _ _ => trivial) ?_)
    rintro _ _ ⟨u33, p33, rfl, rfl, hst, hpz⟩
    refine VO.val rfl rfl (OpV.not rfl rfl) ?_
    refine VO.mv rfl rfl rfl rfl ?_
    refine VO.opG rfl rfl rfl rfl (fun aK2b => ?_) (fun aK2b => ?_)
    ·replace aK2b : _ = false := aK2b
     have aK2 := aK2b
     try simp only [qqT, qqF, qqN, qqM, qqL, qqE] at aK2
     refine OpE.val (W := NoB) (OpV.move (.inl rfl) rfl) rfl ?_
     refine VO.opY rfl rfl rfl rfl aK2b ?_
     refine OpE.val (W := NoB) (OpV.not rfl rfl) rfl ?_
     refine VO.opY rfl rfl rfl rfl aK2b ?_
     refine OpE.val (W := NoB) (OpV.move (.inl rfl) rfl) rfl ?_
     refine VO.opG rfl rfl rfl rfl (fun aK3b => ?_) (fun aK3b => ?_)
     ·replace aK3b : _ = true := aK3b
      have aK3 := aK3b
      try simp only [qqT, qqF, qqN, qqM, qqL, qqE] at aK3
      refine OpE.val (W := NoB) (OpV.move (.inl rfl) rfl) rfl ?_
      refine VO.opY rfl rfl rfl rfl aK3b ?_
      refine OpE.val (W := NoB) (OpV.move (.inl rfl) rfl) rfl ?_
      refine VO.opY rfl rfl rfl rfl aK3b ?_
      refine OpE.val (W := NoB) (OpV.len_im rfl Tryz.underlying29 rfl) rfl ?_
      refine VO.opY rfl rfl rfl rfl aK3b ?_
      refine OpE.val (W := NoB) (OpV.sub rfl rfl rfl (by unfold fits; omega)) rfl ?_
      refine VO.opY rfl rfl rfl rfl aK3b ?_
      refine OpE.val (W := NoB) (OpV.eql rfl rfl rfl) rfl ?_
      refine VO.opY rfl rfl rfl rfl aK2b ?_
      refine OpE.val (W := NoB) (OpV.pickT rfl rfl rfl rfl aK3b) rfl ?_
      refine VO.val rfl rfl (OpV.pickF rfl rfl rfl rfl aK2b) ?_
      refine VO.nil ?_
      refine VC.cond rfl (fun h3b => ?_) (fun h3b => ?_)
      ·have h3 := h3b
       try simp only [qqT, qqF, qqN, qqM, qqL, qqE] at h3
       have hsome : prBad text = some q := by show lnF _ _ _ = _; rw [hls, hen]; exact lnF_some (by omega) (lpb2 (by omega) (not_true_false (by assumption)) (by omega)) hn
       refine VC.sr ?_
       refine VO.val rfl rfl (OpV.build (pls := #[(0, 1), (1, 1), (2, 1), (3, 1)]) rfl Tryz.zeroValue65 Tryz.underlying65 (fun w => by kernel_rfl) rfl rfl) ?_
       refine VO.le _ (Le.recast (t := 46) (y := avProd prZ) rfl (fun w Z u h => nil_prZ h)) ?_
       refine VO.mv rfl rfl rfl rfl ?_
       refine VO.op rfl (OpE.store (i := 2) rfl hB rfl Tryz.sizeOf65 rfl rfl rfl rfl rfl rfl (Nle rfl) trivial ?_)
       refine VO.ma rfl rfl rfl rfl ?_
       refine VO.ma rfl rfl rfl rfl ?_
       refine VO.nil ?_
       refine VC.ret ?_
       exact Exists.intro _ (And.intro (RetV.three Tryz.results44 ((by first | exact ResV.cellK (i := 0) Tryz.isAgg65 Tryz.sizeOf65 rfl rfl rfl | exact ResV.cellK (i := 1) Tryz.isAgg65 Tryz.sizeOf65 rfl rfl rfl | exact ResV.cellK (i := 2) Tryz.isAgg65 Tryz.sizeOf65 rfl rfl rfl)) (ResV.tmp rfl) (ResV.tmp rfl)) (prZ_out (prRead_9 (by omega) (by rw [hls]; omega) hsome)))
      ·have h3 := h3b
       try simp only [qqT, qqF, qqN, qqM, qqL, qqE] at h3
       have hnb : lnBad (okAt okPs ls) ls en q = false := lpb4 (by omega) (not_false_true (by assumption)) (by omega)
       obtain rfl := hst (not_false_true (by assumption))
       refine VC.skip ?_
       refine VC.region ?_
       refine VO.val rfl rfl (OpV.add rfl rfl rfl (by unfold fits; omega)) ?_
       refine VO.mv rfl rfl rfl rfl ?_
       refine VO.nil ?_
       exact Exists.intro (⟨(u33, q + 1), by show q + 1 ≤ _; omega, lt_succ_cases hn hnb⟩) (And.intro (Le.mk hB [0, 1, 2] ⟨rfl, rfl, rfl, rfl, rfl, rfl, rfl, trivial⟩ rfl (by dsimp only; rw [prOf_take (by omega)]; rfl) (Nat.le_refl _)) (by first | omega | (show _ < _; omega) | (simp only []; omega)))
     ·replace aK3b : _ = false := aK3b
      have aK3 := aK3b
      try simp only [qqT, qqF, qqN, qqM, qqL, qqE] at aK3
      refine VO.opX rfl rfl rfl rfl aK3b ?_
      refine VO.opX rfl rfl rfl rfl aK3b ?_
      refine VO.opX rfl rfl rfl rfl aK3b ?_
      refine VO.opX rfl rfl rfl rfl aK3b ?_
      refine VO.opY rfl rfl rfl rfl aK2b ?_
      refine OpE.val (W := NoB) (OpV.pickF rfl rfl rfl rfl aK3b) rfl ?_
      refine VO.val rfl rfl (OpV.pickF rfl rfl rfl rfl aK2b) ?_
      refine VO.nil ?_
      refine VC.condF rfl rfl ?_
      have hnb : lnBad (okAt okPs ls) ls en q = false := lpb3 (by omega) (not_false_true (by assumption)) (not_false_true (by assumption))
      obtain rfl := hst (not_false_true (by assumption))
      refine VC.skip ?_
      refine VC.region ?_
      refine VO.val rfl rfl (OpV.add rfl rfl rfl (by unfold fits; omega)) ?_
      refine VO.mv rfl rfl rfl rfl ?_
      refine VO.nil ?_
      exact Exists.intro (⟨(u33, q + 1), by show q + 1 ≤ _; omega, lt_succ_cases hn hnb⟩) (And.intro (Le.mk hB [0, 1, 2] ⟨rfl, rfl, rfl, rfl, rfl, rfl, rfl, trivial⟩ rfl (by dsimp only; rw [prOf_take (by omega)]; rfl) (Nat.le_refl _)) (by first | omega | (show _ < _; omega) | (simp only []; omega)))
    ·replace aK2b : _ = true := aK2b
     have aK2 := aK2b
     try simp only [qqT, qqF, qqN, qqM, qqL, qqE] at aK2
     refine VO.opX rfl rfl rfl rfl aK2b ?_
     refine VO.opX rfl rfl rfl rfl aK2b ?_
     refine VO.opU rfl rfl rfl rfl ?_
     refine VO.opU rfl rfl rfl rfl ?_
     refine VO.opU rfl rfl rfl rfl ?_
     refine VO.opU rfl rfl rfl rfl ?_
     refine VO.opU rfl rfl rfl rfl ?_
     refine VO.opX rfl rfl rfl rfl aK2b ?_
     refine VO.val rfl rfl (OpV.pickT rfl rfl rfl rfl aK2b) ?_
     refine VO.nil ?_
     refine VC.condT rfl rfl ?_
     have hsome : prBad text = some q := by show lnF _ _ _ = _; rw [hls, hen]; exact lnF_some (by omega) (lpb1 (by omega) (not_true_false (by assumption))) hn
     refine VC.sr ?_
     refine VO.val rfl rfl (OpV.build (pls := #[(0, 1), (1, 1), (2, 1), (3, 1)]) rfl Tryz.zeroValue65 Tryz.underlying65 (fun w => by kernel_rfl) rfl rfl) ?_
     refine VO.le _ (Le.recast (t := 46) (y := avProd prZ) rfl (fun w Z u h => nil_prZ h)) ?_
     refine VO.mv rfl rfl rfl rfl ?_
     refine VO.op rfl (OpE.store (i := 2) rfl hB rfl Tryz.sizeOf65 rfl rfl rfl rfl rfl rfl (Nle rfl) trivial ?_)
     refine VO.ma rfl rfl rfl rfl ?_
     refine VO.ma rfl rfl rfl rfl ?_
     refine VO.nil ?_
     refine VC.ret ?_
     exact Exists.intro _ (And.intro (RetV.three Tryz.results44 ((by first | exact ResV.cellK (i := 0) Tryz.isAgg65 Tryz.sizeOf65 rfl rfl rfl | exact ResV.cellK (i := 1) Tryz.isAgg65 Tryz.sizeOf65 rfl rfl rfl | exact ResV.cellK (i := 2) Tryz.isAgg65 Tryz.sizeOf65 rfl rfl rfl)) (ResV.tmp rfl) (ResV.tmp rfl)) (prZ_out (prRead_9 (by omega) (by rw [hls]; omega) hsome)))
   ·have aH1 := aH1b
    try simp only [qqT, qqF, qqN, qqM, qqL, qqE] at aH1
    obtain rfl : q = ls.length := by omega
    have hnone : prBad text = none := by show lnF _ _ _ = _; rw [hls, hen]; exact lnF_none hn
    rw [List.take_length]
    refine VC.le _ (Le.cellRow (i := 0) (k := 1) (j := 3) (y := avL (prOf ls).places) hB rfl rfl rfl (by omega) (fun w Z u h => Rep.rowL rfl h)) ?_
    refine VC.exit ?_
    refine VC.seq ?_
    refine VC.sr ?_
    refine VO.val rfl rfl (OpV.loadK_own (i := 0) rfl hB Tryz.isAgg65 Tryz.sizeOf65 rfl rfl rfl (fun h => h)) ?_
    refine VO.op rfl (OpE.call rfl hB rfl Tryz.call95 rfl (SpecN.spec (panel_CheckProduct hsm)) ?_)
    rintro _ rfl
    refine VO.ma rfl rfl rfl rfl ?_
    refine VO.nil ?_
    refine VC.sr ?_
    refine VO.mv rfl rfl rfl rfl ?_
    refine VO.val rfl rfl (OpV.neq rfl rfl rfl) ?_
    refine VO.nil ?_
    refine VC.cond rfl (fun h4b => ?_) (fun h4b => ?_)
    ·have h4 := h4b
     try simp only [qqT, qqF, qqN, qqM, qqL, qqE] at h4
     refine VC.sr ?_
     refine VO.val rfl rfl (OpV.build (pls := #[(0, 1), (1, 1), (2, 1), (3, 1)]) rfl Tryz.zeroValue65 Tryz.underlying65 (fun w => by kernel_rfl) rfl rfl) ?_
     refine VO.le _ (Le.recast (t := 53) (y := avProd prZ) rfl (fun w Z u h => nil_prZ h)) ?_
     refine VO.mv rfl rfl rfl rfl ?_
     refine VO.op rfl (OpE.store (i := 1) rfl hB rfl Tryz.sizeOf65 rfl rfl rfl rfl rfl rfl (Nle rfl) trivial ?_)
     refine VO.ma rfl rfl rfl rfl ?_
     refine VO.ma rfl rfl rfl rfl ?_
     refine VO.nil ?_
     refine VC.ret ?_
     exact Exists.intro _ (And.intro (RetV.three Tryz.results44 ((by first | exact ResV.cellK (i := 0) Tryz.isAgg65 Tryz.sizeOf65 rfl rfl rfl | exact ResV.cellK (i := 1) Tryz.isAgg65 Tryz.sizeOf65 rfl rfl rfl)) (ResV.tmp rfl) (ResV.tmp rfl)) (prZ_out (by rw [prRead_e (by omega) (by rw [hls]; omega) hnone (by rw [hls]; exact h4), hls])))
    ·have h4 := h4b
     try simp only [qqT, qqF, qqN, qqM, qqL, qqE] at h4
     refine VC.skip ?_
     refine VC.sr ?_
     refine VO.val rfl rfl (OpV.loadK_own (i := 0) rfl hB Tryz.isAgg65 Tryz.sizeOf65 rfl rfl rfl (fun h => h)) ?_
     refine VO.op rfl (OpE.store (i := 1) rfl hB rfl Tryz.sizeOf65 rfl rfl rfl rfl rfl rfl (Nle rfl) trivial ?_)
     refine VO.ma rfl rfl rfl rfl ?_
     refine VO.ma rfl rfl rfl rfl ?_
     refine VO.nil ?_
     refine VC.ret ?_
     exact Exists.intro _ (And.intro (RetV.three Tryz.results44 ((by first | exact ResV.cellK (i := 0) Tryz.isAgg65 Tryz.sizeOf65 rfl rfl rfl | exact ResV.cellK (i := 1) Tryz.isAgg65 Tryz.sizeOf65 rfl rfl rfl)) (ResV.tmp rfl) (ResV.tmp rfl)) (pr_out (by rw [prRead_0 (by omega) (by rw [hls]; omega) hnone (by rw [hls]; omega), hls])))
end Go.Proofs.YtbbgjeiefmiblaaGreatDoor
namespace Go.Proofs.YtbbgjeiefmiblaaGreatDoor
open Go.RowKit
set_option linter.unusedVariables false
set_option linter.unusedSimpArgs false
def TakesX (TX : List Ent → World → Prop) (K : List ByteArray → List Ent → Prop) (ok : List ByteArray → ByteArray → Bool) (n : Nat) (P : Program) (F : FuncId) (caps : Array Value) : Prop :=
 ∀ pre line h, K pre h → line.size ≤ n → pre.length ≤ n → SpecHX TX P F ([avS line] ++ caps.toList.map .v) h (fun y hp' => y = avB (ok pre line) ∧ K (pre ++ [line]) hp')
set_option maxRecDepth 100000 in
theorem rf_Lines {TX : List Ent → World → Prop} {text : ByteArray} {F : FuncId} {caps : Array Value} {K : List ByteArray → List Ent → Prop} {ok : List ByteArray → ByteArray → Bool} {h0 : List Ent} (hst : StabX TX) (hs : text.size ≤ 10000000) (hcall : ∀ us w, (callFunc F us).run Tryz.prog w = .ok (.enter F us) w) (hF : TakesX TX K ok text.size Tryz.prog F caps) (hk : K [] h0) :
  SpecHX TX Tryz.prog 80 [avS text, .v (.func (.func F) #[] caps)] h0 (fun y hp' => ∃ pre, K pre hp' ∧ y = lnY (lnF (okAt ok (linesR text)) (linesR text) (linesE text)) ∧ (lnF (okAt ok (linesR text)) (linesR text) (linesE text) = none → pre = linesR text)) := by
 refine SpecHX.of_VC hst Tryz.func80 rfl Tryz.ntmps80 (Nle rfl) fun w A hB hGX => ?_
 have hnew : True := trivial
 refine VC.sr ?_
 refine VO.ma rfl rfl rfl rfl ?_
 refine VO.ma rfl rfl rfl rfl ?_
 refine VO.nil ?_
 refine VC.seq ?_
 refine VC.sr ?_
 refine VO.ma rfl rfl rfl rfl ?_
 refine VO.nil ?_
 refine VC.block ?_
 refine VC.loopK [(1, _)] ⟨rfl, trivial⟩ ({t : ByteArray × List ByteArray × List Ent // LnI ok text t.2.1 t.1 ∧ K t.2.1 t.2.2}) (fun (iZ : {t : ByteArray × List ByteArray × List Ent // LnI ok text t.2.1 t.1 ∧ K t.2.1 t.2.2}) => match iZ with | ⟨⟨r, pre, hh⟩, hi, hkk⟩ => [(0, avS r), (6, avI (pre.length : Int))]) (fun (iZ : {t : ByteArray × List ByteArray × List Ent // LnI ok text t.2.1 t.1 ∧ K t.2.1 t.2.2}) => match iZ with | ⟨⟨r, pre, hh⟩, hi, hkk⟩ => hh) (fun (iZ : {t : ByteArray × List ByteArray × List Ent // LnI ok text t.2.1 t.1 ∧ K t.2.1 t.2.2}) => match iZ with | ⟨⟨r, pre, hh⟩, hi, hkk⟩ => 0) (fun (iZ : {t : ByteArray × List ByteArray × List Ent // LnI ok text t.2.1 t.1 ∧ K t.2.1 t.2.2}) => match iZ with | ⟨⟨r, pre, hh⟩, hi, hkk⟩ => r.size) ⟨(text, [], h0), LnI.start text, hk⟩ (Le.mkP hB ⟨rfl, rfl, rfl, trivial⟩ (List.Sublist.refl _) (List.Perm.refl _) (Nat.le_refl _)) ?_
 rintro ⟨⟨r, pre, hh⟩, hi, hkk⟩
 show VC _ _ _ _ ⟨[(0, avS r), (6, avI (pre.length : Int))] ++ [(1, _)], hh, 0⟩
 simp only at hi hkk
 have hsz := hi.size
 refine VC.seq ?_
 refine VC.sr ?_
 refine VO.mv rfl rfl rfl rfl ?_
 refine VO.val rfl rfl (OpV.sneq rfl rfl rfl) ?_
 refine VO.nil ?_
 refine VC.cond rfl (fun aH1b => ?_) (fun aH1b => ?_)
 ·have aH1 := aH1b
  try simp only [qqT, qqF, qqN, qqM, qqL, qqE] at aH1
  refine VC.skip ?_
  refine VC.seq ?_
  refine VC.block ?_
  refine VC.sr ?_
  refine VO.mv rfl rfl rfl rfl ?_
  refine VO.op rfl (OpE.call rfl hB rfl Tryz.call125 rfl (SpecN.spec (strings_CutB (c := 10) (by omega))) ?_)
  rintro _ rfl
  obtain ⟨ln, hln⟩ : ∃ ln, cutA 10 r = ln := ⟨_, rfl⟩
  obtain ⟨rb, hrb⟩ : ∃ rb, cutB 10 r = rb := ⟨_, rfl⟩
  obtain ⟨fd, hfd⟩ : ∃ fd, cutF 10 r = fd := ⟨_, rfl⟩
  have hls := cutA_size 10 r
  rw [hln] at hls
  refine VO.le _ (Le.recast (t := 16) (y := .tup [avS ln, avS rb, avB fd]) rfl (fun w Z u h => by rw [← hln, ← hrb, ← hfd]; exact h)) ?_
  refine VO.mv rfl rfl rfl rfl ?_
  refine VO.val rfl rfl (OpV.extract rfl rfl rfl) ?_
  refine VO.val rfl rfl (OpV.extract rfl rfl rfl) ?_
  refine VO.val rfl rfl (OpV.extract rfl rfl rfl) ?_
  refine VO.ma rfl rfl rfl rfl ?_
  refine VO.ma rfl rfl rfl rfl ?_
  refine VO.ma rfl rfl rfl rfl ?_
  refine VO.nil ?_
  refine VC.seq ?_
  refine VC.sr ?_
  refine VO.mv rfl rfl rfl rfl ?_
  refine VO.val rfl rfl (OpV.not rfl rfl) ?_
  refine VO.mv rfl rfl rfl rfl ?_
  refine VO.opG rfl rfl rfl rfl (fun aK2b => ?_) (fun aK2b => ?_)
  ·replace aK2b : _ = false := aK2b
   have aK2 := aK2b
   try simp only [qqT, qqF, qqN, qqM, qqL, qqE] at aK2
   refine OpE.val (W := NoB) (OpV.move (.inl rfl) rfl) rfl ?_
   refine VO.opY rfl rfl rfl rfl aK2b ?_
   refine OpE.val (W := NoB) (OpV.move (.inl rfl) rfl) rfl ?_
   refine VO.opY rfl rfl rfl rfl aK2b ?_
   refine OpE.callHX0 hst hGX rfl hB rfl hcall rfl rfl (hF pre ln hh hkk (by omega) (by omega)) (List.Perm.refl _) (fun _ _ => trivial) ?_
   rintro _ hh2 ⟨rfl, hk2⟩
   refine VO.opY rfl rfl rfl rfl aK2b ?_
   refine OpE.val (W := NoB) (OpV.not rfl rfl) rfl ?_
   refine VO.val rfl rfl (OpV.pickF rfl rfl rfl rfl aK2b) ?_
   refine VO.nil ?_
   refine VC.cond rfl (fun h1b => ?_) (fun h1b => ?_)
   ·have h1 := h1b
    try simp only [qqT, qqF, qqN, qqM, qqL, qqE] at h1
    refine VC.sr ?_
    refine VO.mv rfl rfl rfl rfl ?_
    refine VO.ma rfl rfl rfl rfl ?_
    refine VO.ma rfl rfl rfl rfl ?_
    refine VO.nil ?_
    refine VC.ret ?_
    exact Exists.intro _ (And.intro (RetV.two Tryz.results80 (ResV.tmp rfl) (ResV.tmp rfl)) (by first | exact ⟨pre, hkk, by rw [hi.bad1 (by simp_all) (by rw [hfd]; simp_all)]; rfl, fun e => by rw [hi.bad1 (by simp_all) (by rw [hfd]; simp_all)] at e; cases e⟩ | exact ⟨pre ++ [ln], hk2, by rw [hi.bad2 (by rw [hfd]; simp_all) (by rw [hln]; simp_all)]; rfl, fun e => by rw [hi.bad2 (by rw [hfd]; simp_all) (by rw [hln]; simp_all)] at e; cases e⟩))
   ·have h1 := h1b
    try simp only [qqT, qqF, qqN, qqM, qqL, qqE] at h1
    have hfd1 : cutF 10 r = true := by rw [hfd]; simp_all
    have hok1 : ok pre (cutA 10 r) = true := by rw [hln]; simp_all
    have hi2 : LnI ok text (pre ++ [ln]) rb := by have h := hi.step hfd1 hok1; rw [hln, hrb] at h; exact h
    have hrs : rb.size < r.size := by have h := cut_sizes hfd1; rw [hrb] at h; omega
    refine VC.skip ?_
    refine VC.region ?_
    refine VO.mv rfl rfl rfl rfl ?_
    refine VO.ma rfl rfl rfl rfl ?_
    refine VO.nil ?_
    refine VC.region ?_
    refine VO.mv rfl rfl rfl rfl ?_
    refine VO.val rfl rfl (OpV.add rfl rfl rfl (by unfold fits; omega)) ?_
    refine VO.ma rfl rfl rfl rfl ?_
    refine VO.nil ?_
    exact Exists.intro (⟨(rb, pre ++ [ln], hh2), hi2, hk2⟩) (And.intro (Le.mkP hB ⟨rfl, (by rw [List.length_append]; rfl), rfl, trivial⟩ (List.Sublist.refl _) (List.Perm.refl _) (Nat.le_refl _)) (by first | omega | (show _ < _; omega) | (simp only []; omega)))
  ·replace aK2b : _ = true := aK2b
   have aK2 := aK2b
   try simp only [qqT, qqF, qqN, qqM, qqL, qqE] at aK2
   refine VO.opX rfl rfl rfl rfl aK2b ?_
   refine VO.opX rfl rfl rfl rfl aK2b ?_
   refine VO.opX rfl rfl rfl rfl aK2b ?_
   refine VO.val rfl rfl (OpV.pickT rfl rfl rfl rfl aK2b) ?_
   refine VO.nil ?_
   refine VC.condT rfl rfl ?_
   refine VC.sr ?_
   refine VO.mv rfl rfl rfl rfl ?_
   refine VO.ma rfl rfl rfl rfl ?_
   refine VO.ma rfl rfl rfl rfl ?_
   refine VO.nil ?_
   refine VC.ret ?_
   exact Exists.intro _ (And.intro (RetV.two Tryz.results80 (ResV.tmp rfl) (ResV.tmp rfl)) (by first | exact ⟨pre, hkk, by rw [hi.bad1 (by simp_all) (by rw [hfd]; simp_all)]; rfl, fun e => by rw [hi.bad1 (by simp_all) (by rw [hfd]; simp_all)] at e; cases e⟩ | exact ⟨pre ++ [ln], hk2, by rw [hi.bad2 (by rw [hfd]; simp_all) (by rw [hln]; simp_all)]; rfl, fun e => by rw [hi.bad2 (by rw [hfd]; simp_all) (by rw [hln]; simp_all)] at e; cases e⟩))
 ·have aH1 := aH1b
  try simp only [qqT, qqF, qqN, qqM, qqL, qqE] at aH1
  refine VC.exit ?_
  refine VC.sr ?_
  refine VO.ma rfl rfl rfl rfl ?_
  refine VO.ma rfl rfl rfl rfl ?_
  refine VO.nil ?_
  refine VC.ret ?_
  exact Exists.intro _ (And.intro (RetV.two Tryz.results80 (ResV.tmp rfl) (ResV.tmp rfl)) (⟨pre, hkk, by rw [(hi.fin (by simp_all)).1]; rfl, fun _ => (hi.fin (by simp_all)).2⟩))
end Go.Proofs.YtbbgjeiefmiblaaGreatDoor
namespace Go.Proofs.YtbbgjeiefmiblaaGreatDoor
open Go.RowKit
set_option linter.unusedVariables false
set_option linter.unusedSimpArgs false
theorem tab_stab : StabX (TabX Tryz.prog) := by
 obtain ⟨g, hg⟩ := tab_named
 exact TabX.stab hg
theorem tabx_base {w : World} {A : Nat → Prop} {nt : Nat} (h : TabW Tryz.prog w) : ∀ s a w', R (B0 w A nt) s a w' → TabX Tryz.prog s.hp w' := by
 obtain ⟨g, hg⟩ := tab_named
 exact TabX.base hg h
theorem sEq_flip (a b : ByteArray) : sEq a b = sEq b a := by
 rw [Bool.eq_iff_iff, sEq_eq, sEq_eq]
 exact ⟨Eq.symm, Eq.symm⟩
theorem wordsB_any (s : ByteArray) : (!((splitS 32 s).any fun y => sEq ⟨#[]⟩ y)) = wordsB s := by
 unfold wordsB
 induction splitS 32 s with
 | nil => rfl
 | cons x l ih => rw [List.any_cons, List.all_cons, ← ih, sEq_flip x]; simp
abbrev bxLk (g : Nat) (u : Value) : Ent := .box g ⟨[.v u], 137, 1⟩
abbrev rwLk (u : Value) (xs : List LookS) : Ent := .row u xs.length 8 (rowL xs) 136
def KLk (g : Nat) (pre : List ByteArray) (h : List Ent) : Prop := ∃ u xs, h = [bxLk g u, rwLk u xs] ∧ ((∀ x ∈ pre, okLk x = true) → xs = pre.map lkOf) ∧ xs.length ≤ pre.length
theorem KLk.nil (g : Nat) : KLk g [] [bxLk g (.slice none 0 0), .row (.slice none 0 0) 0 8 [] 136] := ⟨_, [], rfl, fun _ => rfl, Nat.le_refl _⟩
end Go.Proofs.YtbbgjeiefmiblaaGreatDoor
namespace Go.Proofs.YtbbgjeiefmiblaaGreatDoor
open Go.RowKit
set_option linter.unusedVariables false
set_option linter.unusedSimpArgs false
abbrev bxOr (g : Nat) (u : Value) : Ent := .box g ⟨[.v u], 146, 1⟩
abbrev rwOr (u : Value) (xs : List OrdrS) : Ent := .row u xs.length 5 (rowL xs) 145
def KOr (g : Nat) (pre : List ByteArray) (h : List Ent) : Prop := ∃ u xs, h = [bxOr g u, rwOr u xs] ∧ ((∀ x ∈ pre, okOr x = true) → xs = pre.map orOf) ∧ xs.length ≤ pre.length
theorem KOr.nil (g : Nat) : KOr g [] [bxOr g (.slice none 0 0), .row (.slice none 0 0) 0 5 [] 145] := ⟨_, [], rfl, fun _ => rfl, Nat.le_refl _⟩
def lnIo (f : Option Nat) : Int := match f with
 | none => 0
 | some i => (i : Int)
theorem lnYo_eq (f : Option Nat) : lnY f = .tup [avI (lnIo f), avB f.isNone] := by cases f <;> rfl
end Go.Proofs.YtbbgjeiefmiblaaGreatDoor
namespace Go.Proofs.YtbbgjeiefmiblaaGreatDoor
open Go.RowKit
set_option linter.unusedVariables false
set_option linter.unusedSimpArgs false
abbrev bxCn (g : Nat) (n : Nat) : Ent := .box g ⟨[avI (n : Int)], 3, 1⟩
theorem splitS_pos (s : ByteArray) : 0 < (splitS 32 s).length := by rw [splitS_len]; exact Nat.succ_pos _
theorem okPi_at {n : Nat} {s : ByteArray} (h0 : n = 0) : okPi n s = okP0 s := by subst h0; rfl
theorem okPi_no {n : Nat} {s : ByteArray} {wb : Bool} {ws : List ByteArray} (hwb : wordsB s = wb) (hws : splitS 32 s = ws) (h0 : n = 0 → wb = false ∨ ws.length ≠ 4 ∨ sEq (ws.getD 0 ByteArray.empty) prodW = false) (h1 : n ≠ 0 → wb = false ∨ ws.length ≠ 6 ∨ sEq (ws.getD 0 ByteArray.empty) plcW = false) : okPi n s = false := by
 subst hwb; subst hws
 by_cases e : n = 0
 ·rw [okPi_at e]; exact okP0_n (h0 e)
 ·rw [okPi_1 e]; exact okP1_n (h1 e)
theorem rwPl3_eq {gn g m n : Nat} {u : Value} {p : ProdS} {xs : List PlaceS} (h : n = xs.length) : [bxCn gn m, bxPr g p u, .row u n 5 (rowL xs) 128] = [bxCn gn m, bxPr g p u, rwPl u xs] := by subst h; rfl
set_option maxRecDepth 100000 in
set_option maxHeartbeats 16000000 in
theorem rf_ProductRead1 {s : ByteArray} {n gn g : Nat} {u : Value} {p : ProdS} (hs : s.size ≤ 10000000) (hl : p.places.length ≤ 10000000) (hnl : n ≤ 10000000) :
    SpecHX (TabX Tryz.prog) Tryz.prog 102 [avS s, pt gn, pt g] [bxCn gn n, bxPr g p u, rwPl u p.places] (fun y hp' => ∃ u' p', y = avB (okPi n s) ∧ hp' = [bxCn gn (n + 1), bxPr g p' u', rwPl u' p'.places] ∧ (okPi n s = true → p' = stepP n s p) ∧ p'.places.length ≤ p.places.length + 1) := by
  refine SpecHX.of_VC tab_stab Tryz.func102 rfl Tryz.ntmps102 (Nle rfl) fun w A hB hGX => ?_
  have hG : ∀ {s a w'}, R _ s a w' → TabW Tryz.prog w' := fun hr => (hGX _ _ _ hr).1
  have hnew : True := trivial
  refine VC.sr ?_
  refine VO.ma rfl rfl rfl rfl ?_
  refine VO.nil ?_
  refine VC.seq ?_
  have hwz := splitS_get 32 s
  have hwl := splitS_length 32 s
  have hwp := splitS_pos s
  refine VC.region ?_
  refine VO.mv rfl rfl rfl rfl ?_
  refine VO.op rfl (OpE.call rfl hB rfl Tryz.call103 rfl (rf_Words (by omega)) ?_)
  rintro _ rfl
  obtain ⟨wb, hwb⟩ : ∃ wb, wordsB s = wb := ⟨_, rfl⟩
  obtain ⟨ws, hws⟩ : ∃ ws, splitS 32 s = ws := ⟨_, rfl⟩
  refine VO.le _ (Le.recast (t := 13) (y := .tup [avStrs ws, avB wb]) rfl (fun w Z u h => by rw [← hwb, ← wordsB_any, ← hws]; exact h)) ?_
  have hwz2 : ∀ i, (ws.getD i ByteArray.empty).size ≤ s.size := by rw [← hws]; exact hwz
  have hwl2 : ws.length ≤ s.size + 1 := by rw [← hws]; exact hwl
  have hwp2 : 0 < ws.length := by rw [← hws]; exact hwp
  rw [hws] at hwz hwl hwp
  refine VO.mv rfl rfl rfl rfl ?_
  refine VO.val rfl rfl (OpV.extract rfl rfl rfl) ?_
  refine VO.val rfl rfl (OpV.extract rfl rfl rfl) ?_
  refine VO.ma rfl rfl rfl rfl ?_
  refine VO.ma rfl rfl rfl rfl ?_
  refine VO.nil ?_
  refine VC.sr ?_
  refine VO.val rfl rfl (OpV.load_own (i := 0) rfl hB Tryz.isAgg3 rfl rfl rfl (fun h => h)) ?_
  refine VO.val rfl rfl (OpV.add rfl rfl rfl (by unfold fits; omega)) ?_
  refine VO.op rfl (OpE.store (i := 0) rfl hB rfl Tryz.sizeOf3 rfl rfl rfl rfl rfl rfl (Nle rfl) trivial ?_)
  refine VO.nil ?_
  refine VC.seq ?_
  refine VC.block ?_
  refine VC.sr ?_
  refine VO.mv rfl rfl rfl rfl ?_
  refine VO.mv rfl rfl rfl rfl ?_
  refine VO.opG rfl rfl rfl rfl (fun aK1b => ?_) (fun aK1b => ?_)
  · replace aK1b : _ = true := aK1b
    have aK1 := aK1b
    try simp only [qqT, qqF, qqN, qqM, qqL, qqE] at aK1
    refine OpE.val (W := NoB) (OpV.load_own (i := 0) rfl hB Tryz.isAgg3 rfl rfl rfl (fun h => h)) rfl ?_
    refine VO.opY rfl rfl rfl rfl aK1b ?_
    refine OpE.val (W := NoB) (OpV.eql rfl rfl rfl) rfl ?_
    refine VO.val rfl rfl (OpV.pickT rfl rfl rfl rfl aK1b) ?_
    refine VO.mv rfl rfl rfl rfl ?_
    refine VO.opG rfl rfl rfl rfl (fun aK2b => ?_) (fun aK2b => ?_)
    · replace aK2b : _ = true := aK2b
      have aK2 := aK2b
      try simp only [qqT, qqF, qqN, qqM, qqL, qqE] at aK2
      refine OpE.val (W := NoB) (OpV.move (.inl rfl) rfl) rfl ?_
      refine VO.opY rfl rfl rfl rfl aK2b ?_
      refine OpE.val (W := NoB) (OpV.indexAddr_1 rfl Tryz.underlying29 Tryz.sizeOf9 rfl rfl rfl (by omega)) rfl ?_
      refine VO.opY rfl rfl rfl rfl aK2b ?_
      refine OpE.val (W := NoB) (OpV.load_at rfl hB OutW.no Tryz.isAgg9 rfl rfl) rfl ?_
      refine VO.opY rfl rfl rfl rfl aK2b ?_
      refine OpE.val (W := NoB) (OpV.seql rfl rfl rfl) rfl ?_
      refine VO.val rfl rfl (OpV.pickT rfl rfl rfl rfl aK2b) ?_
      refine VO.mv rfl rfl rfl rfl ?_
      refine VO.opG rfl rfl rfl rfl (fun aK3b => ?_) (fun aK3b => ?_)
      · replace aK3b : _ = true := aK3b
        have aK3 := aK3b
        try simp only [qqT, qqF, qqN, qqM, qqL, qqE] at aK3
        refine OpE.val (W := NoB) (OpV.move (.inl rfl) rfl) rfl ?_
        refine VO.opY rfl rfl rfl rfl aK3b ?_
        refine OpE.val (W := NoB) (OpV.len_im rfl Tryz.underlying29 rfl) rfl ?_
        refine VO.opY rfl rfl rfl rfl aK3b ?_
        refine OpE.val (W := NoB) (OpV.eql rfl rfl rfl) rfl ?_
        refine VO.val rfl rfl (OpV.pickT rfl rfl rfl rfl aK3b) ?_
        refine VO.ma rfl rfl rfl rfl ?_
        refine VO.nil ?_
        refine VC.cond rfl (fun h0b => ?_) (fun h0b => ?_)
        · have h0 := h0b
          try simp only [qqT, qqF, qqN, qqM, qqL, qqE] at h0
          have hn0 : n = 0 := by omega
          have hl4 : ws.length = 4 := by omega
          obtain ⟨wd, hwd⟩ : ∃ wd, ws.drop 2 = wd := ⟨_, rfl⟩
          have hd2 : wd.length = 2 := by rw [← hwd, List.length_drop]; omega
          have hdz : ∀ i, (wd.getD i ByteArray.empty).size ≤ s.size := fun i => by
            rw [← hwd, List.getD_eq_getElem?_getD, List.getElem?_drop, ← List.getD_eq_getElem?_getD]; exact hwz2 _
          have hok : okPi n s = numsRB wd wd.length := by
            rw [okPi_at hn0]
            have h := okP0_y (s := s) (by rw [hwb]; assumption) (by rw [hws]; exact hl4) (by unfold w8; rw [hws]; assumption)
            rw [hws, hwd, nums_same] at h
            exact h
          obtain ⟨nb, hnb⟩ : ∃ nb, numsRB wd wd.length = nb := ⟨_, rfl⟩
          obtain ⟨ns, hns⟩ : ∃ ns, numsRV wd wd.length = ns := ⟨_, rfl⟩
          have hnsl : ns.length = 2 := by rw [← hns, numsRV_len (Nat.le_refl _), hd2]
          rw [hnb] at hok
          have hyl : okPi n s = true → (⟨ws.getD 1 ByteArray.empty, ns.getD 0 0, ns.getD 1 0, p.places⟩ : ProdS) = stepP n s p := fun e => by
            rw [hok] at e
            have e2 := numsV_same (l := wd) (by rw [nums_same, hnb, e])
            rw [hn0, stepP_0]
            unfold w8 n2p
            rw [hws, hwd, e2, hns]
          refine VC.sr ?_
          refine VO.mv rfl rfl rfl rfl ?_
          refine VO.val rfl rfl (OpV.slice_strs (l := 2) rfl Tryz.underlying29 Tryz.sizeOf9 rfl ⟨_, _, rfl, rfl⟩ rfl (by omega) (by omega)) ?_
          refine VO.le _ (Le.recast (t := 37) (y := avStrs wd) rfl (fun w Z u h => by rw [← hwd]; first | exact h | (simp only [List.take_length] at h; exact h))) ?_
          refine VO.op rfl (OpE.callW rfl hB rfl Tryz.call104 rfl (rf_NumbersIn (l := wd) (by omega) (fun i => Nat.le_trans (hdz i) (by omega))) hG ?_)
          rintro _ rfl
          refine VO.le _ (Le.recast (t := 38) (y := .tup [avInts ns, avB nb]) rfl (fun w Z u h => by rw [← hnb, ← hns]; exact h)) ?_
          refine VO.mv rfl rfl rfl rfl ?_
          refine VO.val rfl rfl (OpV.extract rfl rfl rfl) ?_
          refine VO.val rfl rfl (OpV.extract rfl rfl rfl) ?_
          refine VO.ma rfl rfl rfl rfl ?_
          refine VO.ma rfl rfl rfl rfl ?_
          refine VO.nil ?_
          refine VC.seq ?_
          refine VC.draw (fun j b => (j = 10 ∧ b = g) ∨ (j = 12 ∧ b = g) ∨ (j = 14 ∧ b = g)) hB (by kernel_rfl) ?_
          refine VA.take (i := 0) rfl (by kernel_rfl) (by kernel_rfl) (by kernel_rfl) rfl rfl (OpV.move (.inl rfl) rfl) ?_
          refine VA.take (i := 1) rfl (by kernel_rfl) (by kernel_rfl) (by kernel_rfl) rfl rfl (OpV.indexAddr_1 rfl Tryz.underlying29 Tryz.sizeOf9 rfl rfl (Int.toNat_of_nonneg (by omega)).symm (by omega)) ?_
          refine VA.take (i := 2) rfl (by kernel_rfl) (by kernel_rfl) (by kernel_rfl) rfl rfl (OpV.load_at rfl hB (OutW.wi (by rintro j b (⟨-, rfl⟩ | ⟨-, rfl⟩ | ⟨-, rfl⟩) <;> exact ⟨_, List.mem_of_getElem? (i := 1) rfl, rfl⟩)) Tryz.isAgg9 rfl rfl) ?_
          refine VA.take (i := 3) rfl (by kernel_rfl) (by kernel_rfl) (by kernel_rfl) rfl rfl (OpV.move (.inl rfl) rfl) ?_
          refine VA.take (i := 4) rfl (by kernel_rfl) (by kernel_rfl) (by kernel_rfl) rfl rfl (OpV.indexAddr_1 rfl Tryz.underlying22 Tryz.sizeOf3 rfl rfl (Int.toNat_of_nonneg (by omega)).symm (by omega)) ?_
          refine VA.take (i := 5) rfl (by kernel_rfl) (by kernel_rfl) (by kernel_rfl) rfl rfl (OpV.load_at rfl hB (OutW.wi (by rintro j b (⟨-, rfl⟩ | ⟨-, rfl⟩ | ⟨-, rfl⟩) <;> exact ⟨_, List.mem_of_getElem? (i := 1) rfl, rfl⟩)) Tryz.isAgg3 rfl rfl) ?_
          refine VA.take (i := 6) rfl (by kernel_rfl) (by kernel_rfl) (by kernel_rfl) rfl rfl (OpV.move (.inl rfl) rfl) ?_
          refine VA.take (i := 7) rfl (by kernel_rfl) (by kernel_rfl) (by kernel_rfl) rfl rfl (OpV.indexAddr_1 rfl Tryz.underlying22 Tryz.sizeOf3 rfl rfl (Int.toNat_of_nonneg (by omega)).symm (by omega)) ?_
          refine VA.take (i := 8) rfl (by kernel_rfl) (by kernel_rfl) (by kernel_rfl) rfl rfl (OpV.load_at rfl hB (OutW.wi (by rintro j b (⟨-, rfl⟩ | ⟨-, rfl⟩ | ⟨-, rfl⟩) <;> exact ⟨_, List.mem_of_getElem? (i := 1) rfl, rfl⟩)) Tryz.isAgg3 rfl rfl) ?_
          refine VA.take (i := 9) rfl (by kernel_rfl) (by kernel_rfl) (by kernel_rfl) rfl rfl (OpV.fieldAddrO 0 rfl Tryz.underlying65 rfl rfl Tryz.sizeOf9 rfl) ?_
          refine VA.all (rs := [10]) (by kernel_rfl) (by decide) ?_
          refine ⟨⟨_, rfl, .inl rfl, ?_⟩, trivial⟩
          refine OpE.store (i := 1) rfl hB rfl Tryz.sizeOf9 rfl rfl rfl rfl rfl rfl (Nle rfl) (by first | exact .inl ⟨rfl, rfl⟩ | exact .inr (.inl ⟨rfl, rfl⟩) | exact .inr (.inr ⟨rfl, rfl⟩)) ?_
          refine VA.take (i := 11) rfl (by kernel_rfl) (by kernel_rfl) (by kernel_rfl) rfl rfl (OpV.fieldAddrO 1 rfl Tryz.underlying65 rfl rfl Tryz.sizeOf3 rfl) ?_
          refine VA.all (rs := [12]) (by kernel_rfl) (by decide) ?_
          refine ⟨⟨_, rfl, .inl rfl, ?_⟩, trivial⟩
          refine OpE.store (i := 1) rfl hB rfl Tryz.sizeOf3 rfl rfl rfl rfl rfl rfl (Nle rfl) (by first | exact .inl ⟨rfl, rfl⟩ | exact .inr (.inl ⟨rfl, rfl⟩) | exact .inr (.inr ⟨rfl, rfl⟩)) ?_
          refine VA.take (i := 13) rfl (by kernel_rfl) (by kernel_rfl) (by kernel_rfl) rfl rfl (OpV.fieldAddrO 2 rfl Tryz.underlying65 rfl rfl Tryz.sizeOf3 rfl) ?_
          refine VA.all (rs := [14]) (by kernel_rfl) (by decide) ?_
          refine ⟨⟨_, rfl, .inl rfl, ?_⟩, trivial⟩
          refine OpE.store (i := 1) rfl hB rfl Tryz.sizeOf3 rfl rfl rfl rfl rfl rfl (Nle rfl) (by first | exact .inl ⟨rfl, rfl⟩ | exact .inr (.inl ⟨rfl, rfl⟩) | exact .inr (.inr ⟨rfl, rfl⟩)) ?_
          refine VA.done (by kernel_rfl) ?_
          refine VC.sr ?_
          refine VO.mv rfl rfl rfl rfl ?_
          refine VO.ma rfl rfl rfl rfl ?_
          refine VO.nil ?_
          refine VC.ret ?_
          exact Exists.intro _ (And.intro (RetV.one Tryz.results102 (ResV.tmp rfl)) (⟨u, ⟨ws.getD 1 ByteArray.empty, ns.getD 0 0, ns.getD 1 0, p.places⟩, by rw [hok], rfl, hyl, Nat.le_succ _⟩))
        · have h0 := h0b
          try simp only [qqT, qqF, qqN, qqM, qqL, qqE] at h0
          have hA : n = 0 → wb = false ∨ ws.length ≠ 4 ∨ sEq (ws.getD 0 ByteArray.empty) prodW = false := by
            intro e
            exact .inr (.inl (by omega))
          refine VC.sr ?_
          refine VO.mv rfl rfl rfl rfl ?_
          refine VO.mv rfl rfl rfl rfl ?_
          refine VO.opY rfl rfl rfl rfl aK1b ?_
          refine OpE.val (W := NoB) (OpV.load_own (i := 0) rfl hB Tryz.isAgg3 rfl rfl rfl (fun h => h)) rfl ?_
          refine VO.opY rfl rfl rfl rfl aK1b ?_
          refine OpE.val (W := NoB) (OpV.gtr rfl rfl rfl) rfl ?_
          refine VO.val rfl rfl (OpV.pickT rfl rfl rfl rfl aK1b) ?_
          refine VO.mv rfl rfl rfl rfl ?_
          refine VO.opG rfl rfl rfl rfl (fun aK4b => ?_) (fun aK4b => ?_)
          · replace aK4b : _ = true := aK4b
            have aK4 := aK4b
            try simp only [qqT, qqF, qqN, qqM, qqL, qqE] at aK4
            refine OpE.val (W := NoB) (OpV.move (.inl rfl) rfl) rfl ?_
            refine VO.opY rfl rfl rfl rfl aK4b ?_
            refine OpE.val (W := NoB) (OpV.indexAddr_1 rfl Tryz.underlying29 Tryz.sizeOf9 rfl rfl rfl (by omega)) rfl ?_
            refine VO.opY rfl rfl rfl rfl aK4b ?_
            refine OpE.val (W := NoB) (OpV.load_at rfl hB OutW.no Tryz.isAgg9 rfl rfl) rfl ?_
            refine VO.opY rfl rfl rfl rfl aK4b ?_
            refine OpE.val (W := NoB) (OpV.seql rfl rfl rfl) rfl ?_
            refine VO.val rfl rfl (OpV.pickT rfl rfl rfl rfl aK4b) ?_
            refine VO.mv rfl rfl rfl rfl ?_
            refine VO.opG rfl rfl rfl rfl (fun aK5b => ?_) (fun aK5b => ?_)
            · replace aK5b : _ = true := aK5b
              have aK5 := aK5b
              try simp only [qqT, qqF, qqN, qqM, qqL, qqE] at aK5
              refine OpE.val (W := NoB) (OpV.move (.inl rfl) rfl) rfl ?_
              refine VO.opY rfl rfl rfl rfl aK5b ?_
              refine OpE.val (W := NoB) (OpV.len_im rfl Tryz.underlying29 rfl) rfl ?_
              refine VO.opY rfl rfl rfl rfl aK5b ?_
              refine OpE.val (W := NoB) (OpV.eql rfl rfl rfl) rfl ?_
              refine VO.val rfl rfl (OpV.pickT rfl rfl rfl rfl aK5b) ?_
              refine VO.ma rfl rfl rfl rfl ?_
              refine VO.nil ?_
              refine VC.cond rfl (fun h1b => ?_) (fun h1b => ?_)
              · have h1 := h1b
                try simp only [qqT, qqF, qqN, qqM, qqL, qqE] at h1
                have hn0 : n ≠ 0 := by omega
                have hl6 : ws.length = 6 := by omega
                obtain ⟨wd, hwd⟩ : ∃ wd, ws.drop 3 = wd := ⟨_, rfl⟩
                have hd3 : wd.length = 3 := by rw [← hwd, List.length_drop]; omega
                have hdz : ∀ i, (wd.getD i ByteArray.empty).size ≤ s.size := fun i => by
                  rw [← hwd, List.getD_eq_getElem?_getD, List.getElem?_drop, ← List.getD_eq_getElem?_getD]; exact hwz2 _
                have hok : okPi n s = numsRB wd wd.length := by
                  rw [okPi_1 hn0]
                  have h := okP1_y (s := s) (by rw [hwb]; assumption) (by rw [hws]; exact hl6) (by unfold w8; rw [hws]; assumption)
                  rw [hws, hwd, nums_same] at h
                  exact h
                obtain ⟨nb, hnb⟩ : ∃ nb, numsRB wd wd.length = nb := ⟨_, rfl⟩
                obtain ⟨ns, hns⟩ : ∃ ns, numsRV wd wd.length = ns := ⟨_, rfl⟩
                have hnsl : ns.length = 3 := by rw [← hns, numsRV_len (Nat.le_refl _), hd3]
                rw [hnb] at hok
                obtain ⟨yy, hyy⟩ : ∃ yy : PlaceS, yy = ⟨ws.getD 1 ByteArray.empty, ws.getD 2 ByteArray.empty, ns.getD 0 0, ns.getD 1 0, ns.getD 2 0⟩ := ⟨_, rfl⟩
                have hyl : okPi n s = true → (⟨p.key, p.wide, p.high, p.places ++ [yy]⟩ : ProdS) = stepP n s p := fun e => by
                  rw [hok] at e
                  have e2 := numsV_same (l := wd) (by rw [nums_same, hnb, e])
                  rw [stepP_1 hn0, hyy]
                  unfold plOf w8 n3p
                  rw [hws, hwd, e2, hns]
                refine VC.sr ?_
                refine VO.mv rfl rfl rfl rfl ?_
                refine VO.val rfl rfl (OpV.slice_strs (l := 3) rfl Tryz.underlying29 Tryz.sizeOf9 rfl ⟨_, _, rfl, rfl⟩ rfl (by omega) (by omega)) ?_
                refine VO.le _ (Le.recast (t := 73) (y := avStrs wd) rfl (fun w Z u h => by rw [← hwd]; first | exact h | (simp only [List.take_length] at h; exact h))) ?_
                refine VO.op rfl (OpE.callW rfl hB rfl Tryz.call104 rfl (rf_NumbersIn (l := wd) (by omega) (fun i => Nat.le_trans (hdz i) (by omega))) hG ?_)
                rintro _ rfl
                refine VO.le _ (Le.recast (t := 74) (y := .tup [avInts ns, avB nb]) rfl (fun w Z u h => by rw [← hnb, ← hns]; exact h)) ?_
                refine VO.mv rfl rfl rfl rfl ?_
                refine VO.val rfl rfl (OpV.extract rfl rfl rfl) ?_
                refine VO.val rfl rfl (OpV.extract rfl rfl rfl) ?_
                refine VO.ma rfl rfl rfl rfl ?_
                refine VO.ma rfl rfl rfl rfl ?_
                refine VO.nil ?_
                refine VC.seq ?_
                refine VC.draw (fun j b => (j = 19 ∧ u.ownBlock = some b) ∨ (j = 21 ∧ b = g)) hB (by kernel_rfl) ?_
                refine VA.take (i := 0) rfl (by kernel_rfl) (by kernel_rfl) (by kernel_rfl) rfl rfl (OpV.fieldAddrO 3 rfl Tryz.underlying65 rfl rfl Tryz.sizeOf63 rfl) ?_
                refine VA.takeT [1, 19, 21] (i := 1) (by kernel_rfl) (by kernel_rfl) rfl (by kernel_rfl) (by kernel_rfl) (by kernel_rfl) rfl rfl (OpV.load_own (i := 1) rfl hB Tryz.isAgg63 rfl rfl rfl (fun ⟨j, h1, h2⟩ => by rcases h2 with ⟨rfl, _⟩ | ⟨rfl, _⟩ <;> cases h1)) ?_
                refine VA.take (i := 2) rfl (by kernel_rfl) (by kernel_rfl) (by kernel_rfl) rfl rfl (OpV.move (.inl rfl) rfl) ?_
                refine VA.take (i := 3) rfl (by kernel_rfl) (by kernel_rfl) (by kernel_rfl) rfl rfl (OpV.indexAddr_1 rfl Tryz.underlying29 Tryz.sizeOf9 rfl rfl rfl (by omega)) ?_
                refine VA.takeT [4, 17, 18, 19, 21] (i := 4) (by kernel_rfl) (by kernel_rfl) rfl (by kernel_rfl) (by kernel_rfl) (by kernel_rfl) rfl rfl (OpV.load_at rfl hB (fun b ⟨j, h1, h2⟩ => by rcases h2 with ⟨rfl, _⟩ | ⟨rfl, _⟩ <;> cases h1) Tryz.isAgg9 rfl rfl) ?_
                refine VA.take (i := 5) rfl (by kernel_rfl) (by kernel_rfl) (by kernel_rfl) rfl rfl (OpV.move (.inl rfl) rfl) ?_
                refine VA.take (i := 6) rfl (by kernel_rfl) (by kernel_rfl) (by kernel_rfl) rfl rfl (OpV.indexAddr_1 rfl Tryz.underlying29 Tryz.sizeOf9 rfl rfl rfl (by omega)) ?_
                refine VA.takeT [7, 17, 18, 19, 21] (i := 7) (by kernel_rfl) (by kernel_rfl) rfl (by kernel_rfl) (by kernel_rfl) (by kernel_rfl) rfl rfl (OpV.load_at rfl hB (fun b ⟨j, h1, h2⟩ => by rcases h2 with ⟨rfl, _⟩ | ⟨rfl, _⟩ <;> cases h1) Tryz.isAgg9 rfl rfl) ?_
                refine VA.take (i := 8) rfl (by kernel_rfl) (by kernel_rfl) (by kernel_rfl) rfl rfl (OpV.move (.inl rfl) rfl) ?_
                refine VA.take (i := 9) rfl (by kernel_rfl) (by kernel_rfl) (by kernel_rfl) rfl rfl (OpV.indexAddr_1 rfl Tryz.underlying22 Tryz.sizeOf3 rfl rfl rfl (by omega)) ?_
                refine VA.takeT [10, 17, 18, 19, 21] (i := 10) (by kernel_rfl) (by kernel_rfl) rfl (by kernel_rfl) (by kernel_rfl) (by kernel_rfl) rfl rfl (OpV.load_at rfl hB (fun b ⟨j, h1, h2⟩ => by rcases h2 with ⟨rfl, _⟩ | ⟨rfl, _⟩ <;> cases h1) Tryz.isAgg3 rfl rfl) ?_
                refine VA.take (i := 11) rfl (by kernel_rfl) (by kernel_rfl) (by kernel_rfl) rfl rfl (OpV.move (.inl rfl) rfl) ?_
                refine VA.take (i := 12) rfl (by kernel_rfl) (by kernel_rfl) (by kernel_rfl) rfl rfl (OpV.indexAddr_1 rfl Tryz.underlying22 Tryz.sizeOf3 rfl rfl rfl (by omega)) ?_
                refine VA.takeT [13, 17, 18, 19, 21] (i := 13) (by kernel_rfl) (by kernel_rfl) rfl (by kernel_rfl) (by kernel_rfl) (by kernel_rfl) rfl rfl (OpV.load_at rfl hB (fun b ⟨j, h1, h2⟩ => by rcases h2 with ⟨rfl, _⟩ | ⟨rfl, _⟩ <;> cases h1) Tryz.isAgg3 rfl rfl) ?_
                refine VA.take (i := 14) rfl (by kernel_rfl) (by kernel_rfl) (by kernel_rfl) rfl rfl (OpV.move (.inl rfl) rfl) ?_
                refine VA.take (i := 15) rfl (by kernel_rfl) (by kernel_rfl) (by kernel_rfl) rfl rfl (OpV.indexAddr_1 rfl Tryz.underlying22 Tryz.sizeOf3 rfl rfl rfl (by omega)) ?_
                refine VA.takeT [16, 17, 18, 19, 21] (i := 16) (by kernel_rfl) (by kernel_rfl) rfl (by kernel_rfl) (by kernel_rfl) (by kernel_rfl) rfl rfl (OpV.load_at rfl hB (fun b ⟨j, h1, h2⟩ => by rcases h2 with ⟨rfl, _⟩ | ⟨rfl, _⟩ <;> cases h1) Tryz.isAgg3 rfl rfl) ?_
                refine VA.take (i := 17) rfl (by kernel_rfl) (by kernel_rfl) (by kernel_rfl) rfl rfl (OpV.build (pls := #[(0, 1), (1, 1), (2, 1), (3, 1), (4, 1)]) rfl Tryz.zeroValue128 Tryz.underlying128 (fun w => by kernel_rfl) rfl rfl) ?_
                refine VA.le _ (Le.recast (t := 94) (y := avT yy) rfl (fun w Z u h => by rw [hyy]; exact h)) ?_
                refine VA.all (rs := [18]) (by kernel_rfl) (by decide) ?_
                refine ⟨⟨_, rfl, .inl rfl, ?_⟩, trivial⟩
                refine OpE.buildSlice (zc := #[.string ⟨#[]⟩, .string ⟨#[]⟩, .int .i64 0, .int .i64 0, .int .i64 0]) rfl hB rfl Tryz.underlying63 Tryz.sizeOf128 Tryz.zeroValue128 (by decide) (by decide) (by kernel_rfl) rfl rfl ?_
                refine VA.all (rs := [19]) (by kernel_rfl) (by decide) ?_
                refine ⟨⟨_, rfl, .inl rfl, ?_⟩, trivial⟩
                refine OpE.append1S (i := 2) rfl hB rfl Tryz.underlying63 (infoOf Tryz.t128 5 (by kernel_rfl) rfl rfl) rfl (by decide) (by decide) rfl rfl rfl rfl (rowL_snoc p.places yy) (by omega) (fun g' hg => .inl ⟨rfl, hg⟩) ?_
                intro b96 c96
                refine VA.take (i := 20) rfl (by kernel_rfl) (by kernel_rfl) (by kernel_rfl) rfl rfl (OpV.fieldAddrO 3 rfl Tryz.underlying65 rfl rfl Tryz.sizeOf63 rfl) ?_
                refine VA.all (rs := [21]) (by kernel_rfl) (by decide) ?_
                refine ⟨⟨_, rfl, .inl rfl, ?_⟩, trivial⟩
                refine OpE.store (i := 1) rfl hB rfl Tryz.sizeOf63 rfl rfl rfl rfl rfl rfl (Nle rfl) (.inr ⟨rfl, rfl⟩) ?_
                refine VA.done (by kernel_rfl) ?_
                refine VC.sr ?_
                refine VO.mv rfl rfl rfl rfl ?_
                refine VO.ma rfl rfl rfl rfl ?_
                refine VO.nil ?_
                refine VC.ret ?_
                exact Exists.intro _ (And.intro (RetV.one Tryz.results102 (ResV.tmp rfl)) (⟨_, ⟨p.key, p.wide, p.high, p.places ++ [yy]⟩, by rw [hok], rwPl3_eq (m := n + 1) (p := ⟨p.key, p.wide, p.high, p.places ++ [yy]⟩) (xs := p.places ++ [yy]) (n := p.places.length + 1) (by simp), hyl, by simp⟩))
              · have h1 := h1b
                try simp only [qqT, qqF, qqN, qqM, qqL, qqE] at h1
                have hC : n ≠ 0 → wb = false ∨ ws.length ≠ 6 ∨ sEq (ws.getD 0 ByteArray.empty) plcW = false := by
                  intro e
                  exact .inr (.inl (by omega))
                have hno : okPi n s = false := okPi_no hwb hws hA hC
                refine VC.skip ?_
                refine VC.sr ?_
                refine VO.ma rfl rfl rfl rfl ?_
                refine VO.nil ?_
                refine VC.ret ?_
                exact Exists.intro _ (And.intro (RetV.one Tryz.results102 (ResV.tmp rfl)) (⟨u, p, by rw [hno], rfl, (fun e => by rw [hno] at e; (cases e)), Nat.le_succ _⟩))
            · replace aK5b : _ = false := aK5b
              have aK5 := aK5b
              try simp only [qqT, qqF, qqN, qqM, qqL, qqE] at aK5
              refine VO.opX rfl rfl rfl rfl aK5b ?_
              refine VO.opX rfl rfl rfl rfl aK5b ?_
              refine VO.val rfl rfl (OpV.pickF rfl rfl rfl rfl aK5b) ?_
              refine VO.ma rfl rfl rfl rfl ?_
              refine VO.nil ?_
              refine VC.condF rfl rfl ?_
              have hC : n ≠ 0 → wb = false ∨ ws.length ≠ 6 ∨ sEq (ws.getD 0 ByteArray.empty) plcW = false := by
                intro e
                exact .inr (.inr (by assumption))
              have hno : okPi n s = false := okPi_no hwb hws hA hC
              refine VC.skip ?_
              refine VC.sr ?_
              refine VO.ma rfl rfl rfl rfl ?_
              refine VO.nil ?_
              refine VC.ret ?_
              exact Exists.intro _ (And.intro (RetV.one Tryz.results102 (ResV.tmp rfl)) (⟨u, p, by rw [hno], rfl, (fun e => by rw [hno] at e; (cases e)), Nat.le_succ _⟩))
          · replace aK4b : _ = false := aK4b
            have aK4 := aK4b
            try simp only [qqT, qqF, qqN, qqM, qqL, qqE] at aK4
            refine VO.opX rfl rfl rfl rfl aK4b ?_
            refine VO.opX rfl rfl rfl rfl aK4b ?_
            refine VO.opX rfl rfl rfl rfl aK4b ?_
            refine VO.val rfl rfl (OpV.pickF rfl rfl rfl rfl aK4b) ?_
            refine VO.mv rfl rfl rfl rfl ?_
            refine VO.opX rfl rfl rfl rfl rfl ?_
            refine VO.opX rfl rfl rfl rfl rfl ?_
            refine VO.opX rfl rfl rfl rfl rfl ?_
            refine VO.val rfl rfl (OpV.pickF rfl rfl rfl rfl rfl) ?_
            refine VO.ma rfl rfl rfl rfl ?_
            refine VO.nil ?_
            refine VC.condF rfl rfl ?_
            have hC : n ≠ 0 → wb = false ∨ ws.length ≠ 6 ∨ sEq (ws.getD 0 ByteArray.empty) plcW = false := by
              intro e
              exact .inr (.inl (by omega))
            have hno : okPi n s = false := okPi_no hwb hws hA hC
            refine VC.skip ?_
            refine VC.sr ?_
            refine VO.ma rfl rfl rfl rfl ?_
            refine VO.nil ?_
            refine VC.ret ?_
            exact Exists.intro _ (And.intro (RetV.one Tryz.results102 (ResV.tmp rfl)) (⟨u, p, by rw [hno], rfl, (fun e => by rw [hno] at e; (cases e)), Nat.le_succ _⟩))
      · replace aK3b : _ = false := aK3b
        have aK3 := aK3b
        try simp only [qqT, qqF, qqN, qqM, qqL, qqE] at aK3
        refine VO.opX rfl rfl rfl rfl aK3b ?_
        refine VO.opX rfl rfl rfl rfl aK3b ?_
        refine VO.val rfl rfl (OpV.pickF rfl rfl rfl rfl aK3b) ?_
        refine VO.ma rfl rfl rfl rfl ?_
        refine VO.nil ?_
        refine VC.condF rfl rfl ?_
        have hA : n = 0 → wb = false ∨ ws.length ≠ 4 ∨ sEq (ws.getD 0 ByteArray.empty) prodW = false := by
          intro e
          exact .inr (.inr (by assumption))
        refine VC.sr ?_
        refine VO.mv rfl rfl rfl rfl ?_
        refine VO.mv rfl rfl rfl rfl ?_
        refine VO.opY rfl rfl rfl rfl aK1b ?_
        refine OpE.val (W := NoB) (OpV.load_own (i := 0) rfl hB Tryz.isAgg3 rfl rfl rfl (fun h => h)) rfl ?_
        refine VO.opY rfl rfl rfl rfl aK1b ?_
        refine OpE.val (W := NoB) (OpV.gtr rfl rfl rfl) rfl ?_
        refine VO.val rfl rfl (OpV.pickT rfl rfl rfl rfl aK1b) ?_
        refine VO.mv rfl rfl rfl rfl ?_
        refine VO.opG rfl rfl rfl rfl (fun aK6b => ?_) (fun aK6b => ?_)
        · replace aK6b : _ = true := aK6b
          have aK6 := aK6b
          try simp only [qqT, qqF, qqN, qqM, qqL, qqE] at aK6
          refine OpE.val (W := NoB) (OpV.move (.inl rfl) rfl) rfl ?_
          refine VO.opY rfl rfl rfl rfl aK6b ?_
          refine OpE.val (W := NoB) (OpV.indexAddr_1 rfl Tryz.underlying29 Tryz.sizeOf9 rfl rfl rfl (by omega)) rfl ?_
          refine VO.opY rfl rfl rfl rfl aK6b ?_
          refine OpE.val (W := NoB) (OpV.load_at rfl hB OutW.no Tryz.isAgg9 rfl rfl) rfl ?_
          refine VO.opY rfl rfl rfl rfl aK6b ?_
          refine OpE.val (W := NoB) (OpV.seql rfl rfl rfl) rfl ?_
          refine VO.val rfl rfl (OpV.pickT rfl rfl rfl rfl aK6b) ?_
          refine VO.mv rfl rfl rfl rfl ?_
          refine VO.opG rfl rfl rfl rfl (fun aK7b => ?_) (fun aK7b => ?_)
          · replace aK7b : _ = true := aK7b
            have aK7 := aK7b
            try simp only [qqT, qqF, qqN, qqM, qqL, qqE] at aK7
            refine OpE.val (W := NoB) (OpV.move (.inl rfl) rfl) rfl ?_
            refine VO.opY rfl rfl rfl rfl aK7b ?_
            refine OpE.val (W := NoB) (OpV.len_im rfl Tryz.underlying29 rfl) rfl ?_
            refine VO.opY rfl rfl rfl rfl aK7b ?_
            refine OpE.val (W := NoB) (OpV.eql rfl rfl rfl) rfl ?_
            refine VO.val rfl rfl (OpV.pickT rfl rfl rfl rfl aK7b) ?_
            refine VO.ma rfl rfl rfl rfl ?_
            refine VO.nil ?_
            refine VC.cond rfl (fun h1b => ?_) (fun h1b => ?_)
            · have h1 := h1b
              try simp only [qqT, qqF, qqN, qqM, qqL, qqE] at h1
              have hn0 : n ≠ 0 := by omega
              have hl6 : ws.length = 6 := by omega
              obtain ⟨wd, hwd⟩ : ∃ wd, ws.drop 3 = wd := ⟨_, rfl⟩
              have hd3 : wd.length = 3 := by rw [← hwd, List.length_drop]; omega
              have hdz : ∀ i, (wd.getD i ByteArray.empty).size ≤ s.size := fun i => by
                rw [← hwd, List.getD_eq_getElem?_getD, List.getElem?_drop, ← List.getD_eq_getElem?_getD]; exact hwz2 _
              have hok : okPi n s = numsRB wd wd.length := by
                rw [okPi_1 hn0]
                have h := okP1_y (s := s) (by rw [hwb]; assumption) (by rw [hws]; exact hl6) (by unfold w8; rw [hws]; assumption)
                rw [hws, hwd, nums_same] at h
                exact h
              obtain ⟨nb, hnb⟩ : ∃ nb, numsRB wd wd.length = nb := ⟨_, rfl⟩
              obtain ⟨ns, hns⟩ : ∃ ns, numsRV wd wd.length = ns := ⟨_, rfl⟩
              have hnsl : ns.length = 3 := by rw [← hns, numsRV_len (Nat.le_refl _), hd3]
              rw [hnb] at hok
              obtain ⟨yy, hyy⟩ : ∃ yy : PlaceS, yy = ⟨ws.getD 1 ByteArray.empty, ws.getD 2 ByteArray.empty, ns.getD 0 0, ns.getD 1 0, ns.getD 2 0⟩ := ⟨_, rfl⟩
              have hyl : okPi n s = true → (⟨p.key, p.wide, p.high, p.places ++ [yy]⟩ : ProdS) = stepP n s p := fun e => by
                rw [hok] at e
                have e2 := numsV_same (l := wd) (by rw [nums_same, hnb, e])
                rw [stepP_1 hn0, hyy]
                unfold plOf w8 n3p
                rw [hws, hwd, e2, hns]
              refine VC.sr ?_
              refine VO.mv rfl rfl rfl rfl ?_
              refine VO.val rfl rfl (OpV.slice_strs (l := 3) rfl Tryz.underlying29 Tryz.sizeOf9 rfl ⟨_, _, rfl, rfl⟩ rfl (by omega) (by omega)) ?_
              refine VO.le _ (Le.recast (t := 73) (y := avStrs wd) rfl (fun w Z u h => by rw [← hwd]; first | exact h | (simp only [List.take_length] at h; exact h))) ?_
              refine VO.op rfl (OpE.callW rfl hB rfl Tryz.call104 rfl (rf_NumbersIn (l := wd) (by omega) (fun i => Nat.le_trans (hdz i) (by omega))) hG ?_)
              rintro _ rfl
              refine VO.le _ (Le.recast (t := 74) (y := .tup [avInts ns, avB nb]) rfl (fun w Z u h => by rw [← hnb, ← hns]; exact h)) ?_
              refine VO.mv rfl rfl rfl rfl ?_
              refine VO.val rfl rfl (OpV.extract rfl rfl rfl) ?_
              refine VO.val rfl rfl (OpV.extract rfl rfl rfl) ?_
              refine VO.ma rfl rfl rfl rfl ?_
              refine VO.ma rfl rfl rfl rfl ?_
              refine VO.nil ?_
              refine VC.seq ?_
              refine VC.draw (fun j b => (j = 19 ∧ u.ownBlock = some b) ∨ (j = 21 ∧ b = g)) hB (by kernel_rfl) ?_
              refine VA.take (i := 0) rfl (by kernel_rfl) (by kernel_rfl) (by kernel_rfl) rfl rfl (OpV.fieldAddrO 3 rfl Tryz.underlying65 rfl rfl Tryz.sizeOf63 rfl) ?_
              refine VA.takeT [1, 19, 21] (i := 1) (by kernel_rfl) (by kernel_rfl) rfl (by kernel_rfl) (by kernel_rfl) (by kernel_rfl) rfl rfl (OpV.load_own (i := 1) rfl hB Tryz.isAgg63 rfl rfl rfl (fun ⟨j, h1, h2⟩ => by rcases h2 with ⟨rfl, _⟩ | ⟨rfl, _⟩ <;> cases h1)) ?_
              refine VA.take (i := 2) rfl (by kernel_rfl) (by kernel_rfl) (by kernel_rfl) rfl rfl (OpV.move (.inl rfl) rfl) ?_
              refine VA.take (i := 3) rfl (by kernel_rfl) (by kernel_rfl) (by kernel_rfl) rfl rfl (OpV.indexAddr_1 rfl Tryz.underlying29 Tryz.sizeOf9 rfl rfl rfl (by omega)) ?_
              refine VA.takeT [4, 17, 18, 19, 21] (i := 4) (by kernel_rfl) (by kernel_rfl) rfl (by kernel_rfl) (by kernel_rfl) (by kernel_rfl) rfl rfl (OpV.load_at rfl hB (fun b ⟨j, h1, h2⟩ => by rcases h2 with ⟨rfl, _⟩ | ⟨rfl, _⟩ <;> cases h1) Tryz.isAgg9 rfl rfl) ?_
              refine VA.take (i := 5) rfl (by kernel_rfl) (by kernel_rfl) (by kernel_rfl) rfl rfl (OpV.move (.inl rfl) rfl) ?_
              refine VA.take (i := 6) rfl (by kernel_rfl) (by kernel_rfl) (by kernel_rfl) rfl rfl (OpV.indexAddr_1 rfl Tryz.underlying29 Tryz.sizeOf9 rfl rfl rfl (by omega)) ?_
              refine VA.takeT [7, 17, 18, 19, 21] (i := 7) (by kernel_rfl) (by kernel_rfl) rfl (by kernel_rfl) (by kernel_rfl) (by kernel_rfl) rfl rfl (OpV.load_at rfl hB (fun b ⟨j, h1, h2⟩ => by rcases h2 with ⟨rfl, _⟩ | ⟨rfl, _⟩ <;> cases h1) Tryz.isAgg9 rfl rfl) ?_
              refine VA.take (i := 8) rfl (by kernel_rfl) (by kernel_rfl) (by kernel_rfl) rfl rfl (OpV.move (.inl rfl) rfl) ?_
              refine VA.take (i := 9) rfl (by kernel_rfl) (by kernel_rfl) (by kernel_rfl) rfl rfl (OpV.indexAddr_1 rfl Tryz.underlying22 Tryz.sizeOf3 rfl rfl rfl (by omega)) ?_
              refine VA.takeT [10, 17, 18, 19, 21] (i := 10) (by kernel_rfl) (by kernel_rfl) rfl (by kernel_rfl) (by kernel_rfl) (by kernel_rfl) rfl rfl (OpV.load_at rfl hB (fun b ⟨j, h1, h2⟩ => by rcases h2 with ⟨rfl, _⟩ | ⟨rfl, _⟩ <;> cases h1) Tryz.isAgg3 rfl rfl) ?_
              refine VA.take (i := 11) rfl (by kernel_rfl) (by kernel_rfl) (by kernel_rfl) rfl rfl (OpV.move (.inl rfl) rfl) ?_
              refine VA.take (i := 12) rfl (by kernel_rfl) (by kernel_rfl) (by kernel_rfl) rfl rfl (OpV.indexAddr_1 rfl Tryz.underlying22 Tryz.sizeOf3 rfl rfl rfl (by omega)) ?_
              refine VA.takeT [13, 17, 18, 19, 21] (i := 13) (by kernel_rfl) (by kernel_rfl) rfl (by kernel_rfl) (by kernel_rfl) (by kernel_rfl) rfl rfl (OpV.load_at rfl hB (fun b ⟨j, h1, h2⟩ => by rcases h2 with ⟨rfl, _⟩ | ⟨rfl, _⟩ <;> cases h1) Tryz.isAgg3 rfl rfl) ?_
              refine VA.take (i := 14) rfl (by kernel_rfl) (by kernel_rfl) (by kernel_rfl) rfl rfl (OpV.move (.inl rfl) rfl) ?_
              refine VA.take (i := 15) rfl (by kernel_rfl) (by kernel_rfl) (by kernel_rfl) rfl rfl (OpV.indexAddr_1 rfl Tryz.underlying22 Tryz.sizeOf3 rfl rfl rfl (by omega)) ?_
              refine VA.takeT [16, 17, 18, 19, 21] (i := 16) (by kernel_rfl) (by kernel_rfl) rfl (by kernel_rfl) (by kernel_rfl) (by kernel_rfl) rfl rfl (OpV.load_at rfl hB (fun b ⟨j, h1, h2⟩ => by rcases h2 with ⟨rfl, _⟩ | ⟨rfl, _⟩ <;> cases h1) Tryz.isAgg3 rfl rfl) ?_
              refine VA.take (i := 17) rfl (by kernel_rfl) (by kernel_rfl) (by kernel_rfl) rfl rfl (OpV.build (pls := #[(0, 1), (1, 1), (2, 1), (3, 1), (4, 1)]) rfl Tryz.zeroValue128 Tryz.underlying128 (fun w => by kernel_rfl) rfl rfl) ?_
              refine VA.le _ (Le.recast (t := 94) (y := avT yy) rfl (fun w Z u h => by rw [hyy]; exact h)) ?_
              refine VA.all (rs := [18]) (by kernel_rfl) (by decide) ?_
              refine ⟨⟨_, rfl, .inl rfl, ?_⟩, trivial⟩
              refine OpE.buildSlice (zc := #[.string ⟨#[]⟩, .string ⟨#[]⟩, .int .i64 0, .int .i64 0, .int .i64 0]) rfl hB rfl Tryz.underlying63 Tryz.sizeOf128 Tryz.zeroValue128 (by decide) (by decide) (by kernel_rfl) rfl rfl ?_
              refine VA.all (rs := [19]) (by kernel_rfl) (by decide) ?_
              refine ⟨⟨_, rfl, .inl rfl, ?_⟩, trivial⟩
              refine OpE.append1S (i := 2) rfl hB rfl Tryz.underlying63 (infoOf Tryz.t128 5 (by kernel_rfl) rfl rfl) rfl (by decide) (by decide) rfl rfl rfl rfl (rowL_snoc p.places yy) (by omega) (fun g' hg => .inl ⟨rfl, hg⟩) ?_
              intro b96 c96
              refine VA.take (i := 20) rfl (by kernel_rfl) (by kernel_rfl) (by kernel_rfl) rfl rfl (OpV.fieldAddrO 3 rfl Tryz.underlying65 rfl rfl Tryz.sizeOf63 rfl) ?_
              refine VA.all (rs := [21]) (by kernel_rfl) (by decide) ?_
              refine ⟨⟨_, rfl, .inl rfl, ?_⟩, trivial⟩
              refine OpE.store (i := 1) rfl hB rfl Tryz.sizeOf63 rfl rfl rfl rfl rfl rfl (Nle rfl) (.inr ⟨rfl, rfl⟩) ?_
              refine VA.done (by kernel_rfl) ?_
              refine VC.sr ?_
              refine VO.mv rfl rfl rfl rfl ?_
              refine VO.ma rfl rfl rfl rfl ?_
              refine VO.nil ?_
              refine VC.ret ?_
              exact Exists.intro _ (And.intro (RetV.one Tryz.results102 (ResV.tmp rfl)) (⟨_, ⟨p.key, p.wide, p.high, p.places ++ [yy]⟩, by rw [hok], rwPl3_eq (m := n + 1) (p := ⟨p.key, p.wide, p.high, p.places ++ [yy]⟩) (xs := p.places ++ [yy]) (n := p.places.length + 1) (by simp), hyl, by simp⟩))
            · have h1 := h1b
              try simp only [qqT, qqF, qqN, qqM, qqL, qqE] at h1
              have hC : n ≠ 0 → wb = false ∨ ws.length ≠ 6 ∨ sEq (ws.getD 0 ByteArray.empty) plcW = false := by
                intro e
                exact .inr (.inl (by omega))
              have hno : okPi n s = false := okPi_no hwb hws hA hC
              refine VC.skip ?_
              refine VC.sr ?_
              refine VO.ma rfl rfl rfl rfl ?_
              refine VO.nil ?_
              refine VC.ret ?_
              exact Exists.intro _ (And.intro (RetV.one Tryz.results102 (ResV.tmp rfl)) (⟨u, p, by rw [hno], rfl, (fun e => by rw [hno] at e; (cases e)), Nat.le_succ _⟩))
          · replace aK7b : _ = false := aK7b
            have aK7 := aK7b
            try simp only [qqT, qqF, qqN, qqM, qqL, qqE] at aK7
            refine VO.opX rfl rfl rfl rfl aK7b ?_
            refine VO.opX rfl rfl rfl rfl aK7b ?_
            refine VO.val rfl rfl (OpV.pickF rfl rfl rfl rfl aK7b) ?_
            refine VO.ma rfl rfl rfl rfl ?_
            refine VO.nil ?_
            refine VC.condF rfl rfl ?_
            have hC : n ≠ 0 → wb = false ∨ ws.length ≠ 6 ∨ sEq (ws.getD 0 ByteArray.empty) plcW = false := by
              intro e
              exact .inr (.inr (by assumption))
            have hno : okPi n s = false := okPi_no hwb hws hA hC
            refine VC.skip ?_
            refine VC.sr ?_
            refine VO.ma rfl rfl rfl rfl ?_
            refine VO.nil ?_
            refine VC.ret ?_
            exact Exists.intro _ (And.intro (RetV.one Tryz.results102 (ResV.tmp rfl)) (⟨u, p, by rw [hno], rfl, (fun e => by rw [hno] at e; (cases e)), Nat.le_succ _⟩))
        · replace aK6b : _ = false := aK6b
          have aK6 := aK6b
          try simp only [qqT, qqF, qqN, qqM, qqL, qqE] at aK6
          refine VO.opX rfl rfl rfl rfl aK6b ?_
          refine VO.opX rfl rfl rfl rfl aK6b ?_
          refine VO.opX rfl rfl rfl rfl aK6b ?_
          refine VO.val rfl rfl (OpV.pickF rfl rfl rfl rfl aK6b) ?_
          refine VO.mv rfl rfl rfl rfl ?_
          refine VO.opX rfl rfl rfl rfl rfl ?_
          refine VO.opX rfl rfl rfl rfl rfl ?_
          refine VO.opX rfl rfl rfl rfl rfl ?_
          refine VO.val rfl rfl (OpV.pickF rfl rfl rfl rfl rfl) ?_
          refine VO.ma rfl rfl rfl rfl ?_
          refine VO.nil ?_
          refine VC.condF rfl rfl ?_
          have hC : n ≠ 0 → wb = false ∨ ws.length ≠ 6 ∨ sEq (ws.getD 0 ByteArray.empty) plcW = false := by
            intro e
            exact .inr (.inl (by omega))
          have hno : okPi n s = false := okPi_no hwb hws hA hC
          refine VC.skip ?_
          refine VC.sr ?_
          refine VO.ma rfl rfl rfl rfl ?_
          refine VO.nil ?_
          refine VC.ret ?_
          exact Exists.intro _ (And.intro (RetV.one Tryz.results102 (ResV.tmp rfl)) (⟨u, p, by rw [hno], rfl, (fun e => by rw [hno] at e; (cases e)), Nat.le_succ _⟩))
    · replace aK2b : _ = false := aK2b
      have aK2 := aK2b
      try simp only [qqT, qqF, qqN, qqM, qqL, qqE] at aK2
      refine VO.opX rfl rfl rfl rfl aK2b ?_
      refine VO.opX rfl rfl rfl rfl aK2b ?_
      refine VO.opX rfl rfl rfl rfl aK2b ?_
      refine VO.val rfl rfl (OpV.pickF rfl rfl rfl rfl aK2b) ?_
      refine VO.mv rfl rfl rfl rfl ?_
      refine VO.opX rfl rfl rfl rfl rfl ?_
      refine VO.opX rfl rfl rfl rfl rfl ?_
      refine VO.opX rfl rfl rfl rfl rfl ?_
      refine VO.val rfl rfl (OpV.pickF rfl rfl rfl rfl rfl) ?_
      refine VO.ma rfl rfl rfl rfl ?_
      refine VO.nil ?_
      refine VC.condF rfl rfl ?_
      have hA : n = 0 → wb = false ∨ ws.length ≠ 4 ∨ sEq (ws.getD 0 ByteArray.empty) prodW = false := by
        intro e
        exact .inr (.inl (by omega))
      refine VC.sr ?_
      refine VO.mv rfl rfl rfl rfl ?_
      refine VO.mv rfl rfl rfl rfl ?_
      refine VO.opY rfl rfl rfl rfl aK1b ?_
      refine OpE.val (W := NoB) (OpV.load_own (i := 0) rfl hB Tryz.isAgg3 rfl rfl rfl (fun h => h)) rfl ?_
      refine VO.opY rfl rfl rfl rfl aK1b ?_
      refine OpE.val (W := NoB) (OpV.gtr rfl rfl rfl) rfl ?_
      refine VO.val rfl rfl (OpV.pickT rfl rfl rfl rfl aK1b) ?_
      refine VO.mv rfl rfl rfl rfl ?_
      refine VO.opG rfl rfl rfl rfl (fun aK8b => ?_) (fun aK8b => ?_)
      · replace aK8b : _ = true := aK8b
        have aK8 := aK8b
        try simp only [qqT, qqF, qqN, qqM, qqL, qqE] at aK8
        refine OpE.val (W := NoB) (OpV.move (.inl rfl) rfl) rfl ?_
        refine VO.opY rfl rfl rfl rfl aK8b ?_
        refine OpE.val (W := NoB) (OpV.indexAddr_1 rfl Tryz.underlying29 Tryz.sizeOf9 rfl rfl rfl (by omega)) rfl ?_
        refine VO.opY rfl rfl rfl rfl aK8b ?_
        refine OpE.val (W := NoB) (OpV.load_at rfl hB OutW.no Tryz.isAgg9 rfl rfl) rfl ?_
        refine VO.opY rfl rfl rfl rfl aK8b ?_
        refine OpE.val (W := NoB) (OpV.seql rfl rfl rfl) rfl ?_
        refine VO.val rfl rfl (OpV.pickT rfl rfl rfl rfl aK8b) ?_
        refine VO.mv rfl rfl rfl rfl ?_
        refine VO.opG rfl rfl rfl rfl (fun aK9b => ?_) (fun aK9b => ?_)
        · replace aK9b : _ = true := aK9b
          have aK9 := aK9b
          try simp only [qqT, qqF, qqN, qqM, qqL, qqE] at aK9
          refine OpE.val (W := NoB) (OpV.move (.inl rfl) rfl) rfl ?_
          refine VO.opY rfl rfl rfl rfl aK9b ?_
          refine OpE.val (W := NoB) (OpV.len_im rfl Tryz.underlying29 rfl) rfl ?_
          refine VO.opY rfl rfl rfl rfl aK9b ?_
          refine OpE.val (W := NoB) (OpV.eql rfl rfl rfl) rfl ?_
          refine VO.val rfl rfl (OpV.pickT rfl rfl rfl rfl aK9b) ?_
          refine VO.ma rfl rfl rfl rfl ?_
          refine VO.nil ?_
          refine VC.cond rfl (fun h1b => ?_) (fun h1b => ?_)
          · have h1 := h1b
            try simp only [qqT, qqF, qqN, qqM, qqL, qqE] at h1
            have hn0 : n ≠ 0 := by omega
            have hl6 : ws.length = 6 := by omega
            obtain ⟨wd, hwd⟩ : ∃ wd, ws.drop 3 = wd := ⟨_, rfl⟩
            have hd3 : wd.length = 3 := by rw [← hwd, List.length_drop]; omega
            have hdz : ∀ i, (wd.getD i ByteArray.empty).size ≤ s.size := fun i => by
              rw [← hwd, List.getD_eq_getElem?_getD, List.getElem?_drop, ← List.getD_eq_getElem?_getD]; exact hwz2 _
            have hok : okPi n s = numsRB wd wd.length := by
              rw [okPi_1 hn0]
              have h := okP1_y (s := s) (by rw [hwb]; assumption) (by rw [hws]; exact hl6) (by unfold w8; rw [hws]; assumption)
              rw [hws, hwd, nums_same] at h
              exact h
            obtain ⟨nb, hnb⟩ : ∃ nb, numsRB wd wd.length = nb := ⟨_, rfl⟩
            obtain ⟨ns, hns⟩ : ∃ ns, numsRV wd wd.length = ns := ⟨_, rfl⟩
            have hnsl : ns.length = 3 := by rw [← hns, numsRV_len (Nat.le_refl _), hd3]
            rw [hnb] at hok
            obtain ⟨yy, hyy⟩ : ∃ yy : PlaceS, yy = ⟨ws.getD 1 ByteArray.empty, ws.getD 2 ByteArray.empty, ns.getD 0 0, ns.getD 1 0, ns.getD 2 0⟩ := ⟨_, rfl⟩
            have hyl : okPi n s = true → (⟨p.key, p.wide, p.high, p.places ++ [yy]⟩ : ProdS) = stepP n s p := fun e => by
              rw [hok] at e
              have e2 := numsV_same (l := wd) (by rw [nums_same, hnb, e])
              rw [stepP_1 hn0, hyy]
              unfold plOf w8 n3p
              rw [hws, hwd, e2, hns]
            refine VC.sr ?_
            refine VO.mv rfl rfl rfl rfl ?_
            refine VO.val rfl rfl (OpV.slice_strs (l := 3) rfl Tryz.underlying29 Tryz.sizeOf9 rfl ⟨_, _, rfl, rfl⟩ rfl (by omega) (by omega)) ?_
            refine VO.le _ (Le.recast (t := 73) (y := avStrs wd) rfl (fun w Z u h => by rw [← hwd]; first | exact h | (simp only [List.take_length] at h; exact h))) ?_
            refine VO.op rfl (OpE.callW rfl hB rfl Tryz.call104 rfl (rf_NumbersIn (l := wd) (by omega) (fun i => Nat.le_trans (hdz i) (by omega))) hG ?_)
            rintro _ rfl
            refine VO.le _ (Le.recast (t := 74) (y := .tup [avInts ns, avB nb]) rfl (fun w Z u h => by rw [← hnb, ← hns]; exact h)) ?_
            refine VO.mv rfl rfl rfl rfl ?_
            refine VO.val rfl rfl (OpV.extract rfl rfl rfl) ?_
            refine VO.val rfl rfl (OpV.extract rfl rfl rfl) ?_
            refine VO.ma rfl rfl rfl rfl ?_
            refine VO.ma rfl rfl rfl rfl ?_
            refine VO.nil ?_
            refine VC.seq ?_
            refine VC.draw (fun j b => (j = 19 ∧ u.ownBlock = some b) ∨ (j = 21 ∧ b = g)) hB (by kernel_rfl) ?_
            refine VA.take (i := 0) rfl (by kernel_rfl) (by kernel_rfl) (by kernel_rfl) rfl rfl (OpV.fieldAddrO 3 rfl Tryz.underlying65 rfl rfl Tryz.sizeOf63 rfl) ?_
            refine VA.takeT [1, 19, 21] (i := 1) (by kernel_rfl) (by kernel_rfl) rfl (by kernel_rfl) (by kernel_rfl) (by kernel_rfl) rfl rfl (OpV.load_own (i := 1) rfl hB Tryz.isAgg63 rfl rfl rfl (fun ⟨j, h1, h2⟩ => by rcases h2 with ⟨rfl, _⟩ | ⟨rfl, _⟩ <;> cases h1)) ?_
            refine VA.take (i := 2) rfl (by kernel_rfl) (by kernel_rfl) (by kernel_rfl) rfl rfl (OpV.move (.inl rfl) rfl) ?_
            refine VA.take (i := 3) rfl (by kernel_rfl) (by kernel_rfl) (by kernel_rfl) rfl rfl (OpV.indexAddr_1 rfl Tryz.underlying29 Tryz.sizeOf9 rfl rfl (Int.toNat_of_nonneg (by omega)).symm (by omega)) ?_
            refine VA.takeT [4, 17, 18, 19, 21] (i := 4) (by kernel_rfl) (by kernel_rfl) rfl (by kernel_rfl) (by kernel_rfl) (by kernel_rfl) rfl rfl (OpV.load_at rfl hB (fun b ⟨j, h1, h2⟩ => by rcases h2 with ⟨rfl, _⟩ | ⟨rfl, _⟩ <;> cases h1) Tryz.isAgg9 rfl rfl) ?_
            refine VA.take (i := 5) rfl (by kernel_rfl) (by kernel_rfl) (by kernel_rfl) rfl rfl (OpV.move (.inl rfl) rfl) ?_
            refine VA.take (i := 6) rfl (by kernel_rfl) (by kernel_rfl) (by kernel_rfl) rfl rfl (OpV.indexAddr_1 rfl Tryz.underlying29 Tryz.sizeOf9 rfl rfl (Int.toNat_of_nonneg (by omega)).symm (by omega)) ?_
            refine VA.takeT [7, 17, 18, 19, 21] (i := 7) (by kernel_rfl) (by kernel_rfl) rfl (by kernel_rfl) (by kernel_rfl) (by kernel_rfl) rfl rfl (OpV.load_at rfl hB (fun b ⟨j, h1, h2⟩ => by rcases h2 with ⟨rfl, _⟩ | ⟨rfl, _⟩ <;> cases h1) Tryz.isAgg9 rfl rfl) ?_
            refine VA.take (i := 8) rfl (by kernel_rfl) (by kernel_rfl) (by kernel_rfl) rfl rfl (OpV.move (.inl rfl) rfl) ?_
            refine VA.take (i := 9) rfl (by kernel_rfl) (by kernel_rfl) (by kernel_rfl) rfl rfl (OpV.indexAddr_1 rfl Tryz.underlying22 Tryz.sizeOf3 rfl rfl (Int.toNat_of_nonneg (by omega)).symm (by omega)) ?_
            refine VA.takeT [10, 17, 18, 19, 21] (i := 10) (by kernel_rfl) (by kernel_rfl) rfl (by kernel_rfl) (by kernel_rfl) (by kernel_rfl) rfl rfl (OpV.load_at rfl hB (fun b ⟨j, h1, h2⟩ => by rcases h2 with ⟨rfl, _⟩ | ⟨rfl, _⟩ <;> cases h1) Tryz.isAgg3 rfl rfl) ?_
            refine VA.take (i := 11) rfl (by kernel_rfl) (by kernel_rfl) (by kernel_rfl) rfl rfl (OpV.move (.inl rfl) rfl) ?_
            refine VA.take (i := 12) rfl (by kernel_rfl) (by kernel_rfl) (by kernel_rfl) rfl rfl (OpV.indexAddr_1 rfl Tryz.underlying22 Tryz.sizeOf3 rfl rfl (Int.toNat_of_nonneg (by omega)).symm (by omega)) ?_
            refine VA.takeT [13, 17, 18, 19, 21] (i := 13) (by kernel_rfl) (by kernel_rfl) rfl (by kernel_rfl) (by kernel_rfl) (by kernel_rfl) rfl rfl (OpV.load_at rfl hB (fun b ⟨j, h1, h2⟩ => by rcases h2 with ⟨rfl, _⟩ | ⟨rfl, _⟩ <;> cases h1) Tryz.isAgg3 rfl rfl) ?_
            refine VA.take (i := 14) rfl (by kernel_rfl) (by kernel_rfl) (by kernel_rfl) rfl rfl (OpV.move (.inl rfl) rfl) ?_
            refine VA.take (i := 15) rfl (by kernel_rfl) (by kernel_rfl) (by kernel_rfl) rfl rfl (OpV.indexAddr_1 rfl Tryz.underlying22 Tryz.sizeOf3 rfl rfl (Int.toNat_of_nonneg (by omega)).symm (by omega)) ?_
            refine VA.takeT [16, 17, 18, 19, 21] (i := 16) (by kernel_rfl) (by kernel_rfl) rfl (by kernel_rfl) (by kernel_rfl) (by kernel_rfl) rfl rfl (OpV.load_at rfl hB (fun b ⟨j, h1, h2⟩ => by rcases h2 with ⟨rfl, _⟩ | ⟨rfl, _⟩ <;> cases h1) Tryz.isAgg3 rfl rfl) ?_
            refine VA.take (i := 17) rfl (by kernel_rfl) (by kernel_rfl) (by kernel_rfl) rfl rfl (OpV.build (pls := #[(0, 1), (1, 1), (2, 1), (3, 1), (4, 1)]) rfl Tryz.zeroValue128 Tryz.underlying128 (fun w => by kernel_rfl) rfl rfl) ?_
            refine VA.le _ (Le.recast (t := 94) (y := avT yy) rfl (fun w Z u h => by rw [hyy]; exact h)) ?_
            refine VA.all (rs := [18]) (by kernel_rfl) (by decide) ?_
            refine ⟨⟨_, rfl, .inl rfl, ?_⟩, trivial⟩
            refine OpE.buildSlice (zc := #[.string ⟨#[]⟩, .string ⟨#[]⟩, .int .i64 0, .int .i64 0, .int .i64 0]) rfl hB rfl Tryz.underlying63 Tryz.sizeOf128 Tryz.zeroValue128 (by decide) (by decide) (by kernel_rfl) rfl rfl ?_
            refine VA.all (rs := [19]) (by kernel_rfl) (by decide) ?_
            refine ⟨⟨_, rfl, .inl rfl, ?_⟩, trivial⟩
            refine OpE.append1S (i := 2) rfl hB rfl Tryz.underlying63 (infoOf Tryz.t128 5 (by kernel_rfl) rfl rfl) rfl (by decide) (by decide) rfl rfl rfl rfl (rowL_snoc p.places yy) (by omega) (fun g' hg => .inl ⟨rfl, hg⟩) ?_
            intro b96 c96
            refine VA.take (i := 20) rfl (by kernel_rfl) (by kernel_rfl) (by kernel_rfl) rfl rfl (OpV.fieldAddrO 3 rfl Tryz.underlying65 rfl rfl Tryz.sizeOf63 rfl) ?_
            refine VA.all (rs := [21]) (by kernel_rfl) (by decide) ?_
            refine ⟨⟨_, rfl, .inl rfl, ?_⟩, trivial⟩
            refine OpE.store (i := 1) rfl hB rfl Tryz.sizeOf63 rfl rfl rfl rfl rfl rfl (Nle rfl) (.inr ⟨rfl, rfl⟩) ?_
            refine VA.done (by kernel_rfl) ?_
            refine VC.sr ?_
            refine VO.mv rfl rfl rfl rfl ?_
            refine VO.ma rfl rfl rfl rfl ?_
            refine VO.nil ?_
            refine VC.ret ?_
            exact Exists.intro _ (And.intro (RetV.one Tryz.results102 (ResV.tmp rfl)) (⟨_, ⟨p.key, p.wide, p.high, p.places ++ [yy]⟩, by rw [hok], rwPl3_eq (m := n + 1) (p := ⟨p.key, p.wide, p.high, p.places ++ [yy]⟩) (xs := p.places ++ [yy]) (n := p.places.length + 1) (by simp), hyl, by simp⟩))
          · have h1 := h1b
            try simp only [qqT, qqF, qqN, qqM, qqL, qqE] at h1
            have hC : n ≠ 0 → wb = false ∨ ws.length ≠ 6 ∨ sEq (ws.getD 0 ByteArray.empty) plcW = false := by
              intro e
              exact .inr (.inl (by omega))
            have hno : okPi n s = false := okPi_no hwb hws hA hC
            refine VC.skip ?_
            refine VC.sr ?_
            refine VO.ma rfl rfl rfl rfl ?_
            refine VO.nil ?_
            refine VC.ret ?_
            exact Exists.intro _ (And.intro (RetV.one Tryz.results102 (ResV.tmp rfl)) (⟨u, p, by rw [hno], rfl, (fun e => by rw [hno] at e; (cases e)), Nat.le_succ _⟩))
        · replace aK9b : _ = false := aK9b
          have aK9 := aK9b
          try simp only [qqT, qqF, qqN, qqM, qqL, qqE] at aK9
          refine VO.opX rfl rfl rfl rfl aK9b ?_
          refine VO.opX rfl rfl rfl rfl aK9b ?_
          refine VO.val rfl rfl (OpV.pickF rfl rfl rfl rfl aK9b) ?_
          refine VO.ma rfl rfl rfl rfl ?_
          refine VO.nil ?_
          refine VC.condF rfl rfl ?_
          have hC : n ≠ 0 → wb = false ∨ ws.length ≠ 6 ∨ sEq (ws.getD 0 ByteArray.empty) plcW = false := by
            intro e
            exact .inr (.inr (by assumption))
          have hno : okPi n s = false := okPi_no hwb hws hA hC
          refine VC.skip ?_
          refine VC.sr ?_
          refine VO.ma rfl rfl rfl rfl ?_
          refine VO.nil ?_
          refine VC.ret ?_
          exact Exists.intro _ (And.intro (RetV.one Tryz.results102 (ResV.tmp rfl)) (⟨u, p, by rw [hno], rfl, (fun e => by rw [hno] at e; (cases e)), Nat.le_succ _⟩))
      · replace aK8b : _ = false := aK8b
        have aK8 := aK8b
        try simp only [qqT, qqF, qqN, qqM, qqL, qqE] at aK8
        refine VO.opX rfl rfl rfl rfl aK8b ?_
        refine VO.opX rfl rfl rfl rfl aK8b ?_
        refine VO.opX rfl rfl rfl rfl aK8b ?_
        refine VO.val rfl rfl (OpV.pickF rfl rfl rfl rfl aK8b) ?_
        refine VO.mv rfl rfl rfl rfl ?_
        refine VO.opX rfl rfl rfl rfl rfl ?_
        refine VO.opX rfl rfl rfl rfl rfl ?_
        refine VO.opX rfl rfl rfl rfl rfl ?_
        refine VO.val rfl rfl (OpV.pickF rfl rfl rfl rfl rfl) ?_
        refine VO.ma rfl rfl rfl rfl ?_
        refine VO.nil ?_
        refine VC.condF rfl rfl ?_
        have hC : n ≠ 0 → wb = false ∨ ws.length ≠ 6 ∨ sEq (ws.getD 0 ByteArray.empty) plcW = false := by
          intro e
          exact .inr (.inl (by omega))
        have hno : okPi n s = false := okPi_no hwb hws hA hC
        refine VC.skip ?_
        refine VC.sr ?_
        refine VO.ma rfl rfl rfl rfl ?_
        refine VO.nil ?_
        refine VC.ret ?_
        exact Exists.intro _ (And.intro (RetV.one Tryz.results102 (ResV.tmp rfl)) (⟨u, p, by rw [hno], rfl, (fun e => by rw [hno] at e; (cases e)), Nat.le_succ _⟩))
  · replace aK1b : _ = false := aK1b
    have aK1 := aK1b
    try simp only [qqT, qqF, qqN, qqM, qqL, qqE] at aK1
    refine VO.opX rfl rfl rfl rfl aK1b ?_
    refine VO.val rfl rfl (OpV.pickF rfl rfl rfl rfl aK1b) ?_
    refine VO.mv rfl rfl rfl rfl ?_
    refine VO.opX rfl rfl rfl rfl rfl ?_
    refine VO.opX rfl rfl rfl rfl rfl ?_
    refine VO.opX rfl rfl rfl rfl rfl ?_
    refine VO.opX rfl rfl rfl rfl rfl ?_
    refine VO.val rfl rfl (OpV.pickF rfl rfl rfl rfl rfl) ?_
    refine VO.mv rfl rfl rfl rfl ?_
    refine VO.opX rfl rfl rfl rfl rfl ?_
    refine VO.opX rfl rfl rfl rfl rfl ?_
    refine VO.opX rfl rfl rfl rfl rfl ?_
    refine VO.val rfl rfl (OpV.pickF rfl rfl rfl rfl rfl) ?_
    refine VO.ma rfl rfl rfl rfl ?_
    refine VO.nil ?_
    refine VC.condF rfl rfl ?_
    have hA : n = 0 → wb = false ∨ ws.length ≠ 4 ∨ sEq (ws.getD 0 ByteArray.empty) prodW = false := by
      intro e
      exact .inl (by assumption)
    refine VC.sr ?_
    refine VO.mv rfl rfl rfl rfl ?_
    refine VO.mv rfl rfl rfl rfl ?_
    refine VO.opX rfl rfl rfl rfl aK1b ?_
    refine VO.opX rfl rfl rfl rfl aK1b ?_
    refine VO.val rfl rfl (OpV.pickF rfl rfl rfl rfl aK1b) ?_
    refine VO.mv rfl rfl rfl rfl ?_
    refine VO.opX rfl rfl rfl rfl rfl ?_
    refine VO.opX rfl rfl rfl rfl rfl ?_
    refine VO.opX rfl rfl rfl rfl rfl ?_
    refine VO.opX rfl rfl rfl rfl rfl ?_
    refine VO.val rfl rfl (OpV.pickF rfl rfl rfl rfl rfl) ?_
    refine VO.mv rfl rfl rfl rfl ?_
    refine VO.opX rfl rfl rfl rfl rfl ?_
    refine VO.opX rfl rfl rfl rfl rfl ?_
    refine VO.opX rfl rfl rfl rfl rfl ?_
    refine VO.val rfl rfl (OpV.pickF rfl rfl rfl rfl rfl) ?_
    refine VO.ma rfl rfl rfl rfl ?_
    refine VO.nil ?_
    refine VC.condF rfl rfl ?_
    have hC : n ≠ 0 → wb = false ∨ ws.length ≠ 6 ∨ sEq (ws.getD 0 ByteArray.empty) plcW = false := by
      intro e
      exact .inl (by assumption)
    have hno : okPi n s = false := okPi_no hwb hws hA hC
    refine VC.skip ?_
    refine VC.sr ?_
    refine VO.ma rfl rfl rfl rfl ?_
    refine VO.nil ?_
    refine VC.ret ?_
    exact Exists.intro _ (And.intro (RetV.one Tryz.results102 (ResV.tmp rfl)) (⟨u, p, by rw [hno], rfl, (fun e => by rw [hno] at e; (cases e)), Nat.le_succ _⟩))
def goodPr (pre : List ByteArray) : Prop := ∀ j, j < pre.length → okPi j (pre.getD j ByteArray.empty) = true
def KPr (gn g : Nat) (pre : List ByteArray) (h : List Ent) : Prop := ∃ u p, h = [bxCn gn pre.length, bxPr g p u, rwPl u p.places] ∧ (goodPr pre → p = prOf pre) ∧ p.places.length ≤ pre.length
theorem KPr.nil (gn g : Nat) : KPr gn g [] [bxCn gn 0, bxPr g prZ (.slice none 0 0), .row (.slice none 0 0) 0 5 [] 128] := ⟨_, prZ, rfl, fun _ => rfl, Nat.le_refl _⟩
theorem good_snoc {pre : List ByteArray} {x : ByteArray} (h : goodPr (pre ++ [x])) : goodPr pre ∧ okPi pre.length x = true := by
 refine ⟨fun j hj => ?_, ?_⟩
 ·have := h j (by rw [List.length_append]; omega)
  rwa [List.getD_eq_getElem?_getD, List.getElem?_append_left hj, ← List.getD_eq_getElem?_getD] at this
 ·have := h pre.length (by simp)
  rwa [List.getD_eq_getElem?_getD, List.getElem?_append_right (Nat.le_refl _), Nat.sub_self] at this
theorem pr_takes {gn g n : Nat} (hn : n ≤ 1000000) : TakesX (TabX Tryz.prog) (KPr gn g) okPs n Tryz.prog 102 #[ptv gn, ptv g] := fun pre line h ⟨u, p, e, h1, h2⟩ hl hp w A us hx ha hap hA hE => by
 subst e
 refine (rf_ProductRead1 (s := line) (n := pre.length) (gn := gn) (g := g) (u := u) (p := p) (by omega) (by omega) (by omega) w A us hx ha hap hA hE).mono fun e w' ⟨y, v, hp', ⟨u', p', k1, k2, k3, k4⟩, k5⟩ => ⟨y, v, hp', ⟨k1, u', p', ?_, fun hall => ?_, ?_⟩, k5⟩
 ·rw [k2, List.length_append]; rfl
 ·obtain ⟨g1, g2⟩ := good_snoc hall
  rw [k3 g2, h1 g1, prOf_step]
 ·rw [List.length_append]; show p'.places.length ≤ pre.length + 1; omega
theorem pr_all {text : ByteArray} (h : prBad text = none) : goodPr (linesR text) := fun j hj => by
 have := lnF_zero h j hj
 unfold okAt okPs at this
 rwa [List.length_take, Nat.min_eq_left (by omega)] at this
theorem lnF_lt {ok : Nat → ByteArray → Bool} {ls : List ByteArray} {e : Bool} {i : Nat} (h : lnF ok ls e = some i) : i < ls.length := List.mem_range.1 (List.mem_of_find?_eq_some h)
set_option maxRecDepth 100000 in
set_option maxHeartbeats 8000000 in
theorem rf_ProductRead {text : ByteArray} (ht : text.size ≤ 900000) :
  SpecW (TabW Tryz.prog) Tryz.prog 45 [avS text] (fun y => y = .tup [avProd (prRead text).1, avI (prRead text).2.1, avI (prRead text).2.2]) := by
 refine SpecW.of_VC Tryz.func45 rfl Tryz.ntmps45 (Nle rfl) fun w A hgw hB => ?_
 have hG : ∀ {s a w'}, R (B0 w A 35) s a w' → TabW Tryz.prog w' :=  tab_base hgw
 have hnew : True := trivial
 refine VC.sr ?_
 refine VO.op rfl (OpE.alloc rfl hB rfl Tryz.zeroValue65 rfl ?_)
 intro g2
 refine VO.ma rfl rfl rfl rfl ?_
 refine VO.ma rfl rfl rfl rfl ?_
 refine VO.nil ?_
 refine VC.seq ?_
 refine VC.sr ?_
 refine VO.mv rfl rfl rfl rfl ?_
 refine VO.val rfl rfl (OpV.len_s rfl Tryz.underlying9 rfl) ?_
 refine VO.val rfl rfl (OpV.gtr rfl rfl rfl) ?_
 refine VO.nil ?_
 refine VC.cond rfl (fun h0b => ?_) (fun h0b => ?_)
 ·have h0 := h0b
  try simp only [qqT, qqF, qqN, qqM, qqL, qqE] at h0
  refine VC.sr ?_
  refine VO.val rfl rfl (OpV.build (pls := #[(0, 1), (1, 1), (2, 1), (3, 1)]) rfl Tryz.zeroValue65 Tryz.underlying65 (fun w => by kernel_rfl) rfl rfl) ?_
  refine VO.le _ (Le.recast (t := 13) (y := avProd prZ) rfl (fun w Z u h => nil_prZ h)) ?_
  refine VO.op rfl (OpE.store (i := 0) rfl hB rfl Tryz.sizeOf65 rfl rfl rfl rfl rfl rfl (Nle rfl) trivial ?_)
  refine VO.ma rfl rfl rfl rfl ?_
  refine VO.ma rfl rfl rfl rfl ?_
  refine VO.nil ?_
  refine VC.ret ?_
  exact Exists.intro _ (And.intro (RetV.three Tryz.results45 ((by first | exact ResV.cellK (i := 0) Tryz.isAgg65 Tryz.sizeOf65 rfl rfl rfl)) (ResV.tmp rfl) (ResV.tmp rfl)) (prZ_out (prRead_2 (by omega))))
 ·have h0 := h0b
  try simp only [qqT, qqF, qqN, qqM, qqL, qqE] at h0
  refine VC.skip ?_
  refine VC.sr ?_
  refine VO.op rfl (OpE.alloc rfl hB rfl Tryz.zeroValue65 rfl ?_)
  intro g
  refine VO.nil ?_
  refine VC.sr ?_
  refine VO.op rfl (OpE.alloc rfl hB rfl Tryz.zeroValue3 rfl ?_)
  intro gn
  refine VO.op rfl (OpE.store (i := 2) rfl hB rfl Tryz.sizeOf3 rfl rfl rfl rfl rfl rfl (Nle rfl) trivial ?_)
  refine VO.nil ?_
  refine VC.seq ?_
  have hGX := tabx_base (A := A) (nt := 35) hgw
  have hll := linesR_length text
  have hlg := linesR_get text
  refine VC.le _ (Le.nilRow 5 128) ?_
  refine VC.le _ (Le.pickH [2, 1, 3, 0] rfl rfl) ?_
  refine VC.region ?_
  refine VO.mv rfl rfl rfl rfl ?_
  refine VO.val rfl rfl (OpV.makeFunc2 rfl rfl rfl) ?_
  refine VO.op rfl (OpE.callHX (rest := [_]) tab_stab hGX rfl hB rfl Tryz.call80 rfl rfl (rf_Lines (K := KPr gn g) (ok := okPs) tab_stab (by omega) Tryz.call102 (pr_takes (by omega)) (KPr.nil gn g)) (List.Perm.refl _) (fun _ _ => trivial) ?_)
  rintro _ _ ⟨pre, ⟨u, p, rfl, hps, hpl⟩, rfl, hpre⟩
  obtain ⟨f, hf⟩ : ∃ f, prBad text = f := ⟨_, rfl⟩
  refine VO.le _ (Le.recast (t := 17) (y := .tup [avI (lnIo f), avB f.isNone]) rfl (fun w Z u h => by rw [← lnYo_eq, ← hf]; exact h)) ?_
  refine VO.mv rfl rfl rfl rfl ?_
  refine VO.val rfl rfl (OpV.extract rfl rfl rfl) ?_
  refine VO.val rfl rfl (OpV.extract rfl rfl rfl) ?_
  refine VO.ma rfl rfl rfl rfl ?_
  refine VO.ma rfl rfl rfl rfl ?_
  refine VO.nil ?_
  refine VC.seq ?_
  refine VC.sr ?_
  refine VO.mv rfl rfl rfl rfl ?_
  refine VO.val rfl rfl (OpV.not rfl rfl) ?_
  refine VO.mv rfl rfl rfl rfl ?_
  refine VO.opG rfl rfl rfl rfl (fun aK1b => ?_) (fun aK1b => ?_)
  ·replace aK1b : _ = false := aK1b
   have aK1 := aK1b
   try simp only [qqT, qqF, qqN, qqM, qqL, qqE] at aK1
   refine OpE.val (W := NoB) (OpV.load_own (i := 0) rfl hB Tryz.isAgg3 rfl rfl rfl (fun h => h)) rfl ?_
   refine VO.opY rfl rfl rfl rfl aK1b ?_
   refine OpE.val (W := NoB) (OpV.eql rfl rfl rfl) rfl ?_
   refine VO.val rfl rfl (OpV.pickF rfl rfl rfl rfl aK1b) ?_
   refine VO.nil ?_
   refine VC.cond rfl (fun h1b => ?_) (fun h1b => ?_)
   ·have h1 := h1b
    try simp only [qqT, qqF, qqN, qqM, qqL, qqE] at h1
    obtain rfl : f = none := by
     cases f with
     | none => rfl
     | some i => exfalso; simp_all
    obtain rfl := hpre hf
    have hz : (linesR text).length = 0 := by omega
    refine VC.sr ?_
    refine VO.val rfl rfl (OpV.build (pls := #[(0, 1), (1, 1), (2, 1), (3, 1)]) rfl Tryz.zeroValue65 Tryz.underlying65 (fun w => by kernel_rfl) rfl rfl) ?_
    refine VO.le _ (Le.recast (t := 26) (y := avProd prZ) rfl (fun w Z u h => nil_prZ h)) ?_
    refine VO.mv rfl rfl rfl rfl ?_
    refine VO.op rfl (OpE.store (i := 3) rfl hB rfl Tryz.sizeOf65 rfl rfl rfl rfl rfl rfl (Nle rfl) trivial ?_)
    refine VO.ma rfl rfl rfl rfl ?_
    refine VO.ma rfl rfl rfl rfl ?_
    refine VO.nil ?_
    refine VC.ret ?_
    exact Exists.intro _ (And.intro (RetV.three Tryz.results45 ((by first | exact ResV.cellK (i := 0) Tryz.isAgg65 Tryz.sizeOf65 rfl rfl rfl | exact ResV.cellK (i := 1) Tryz.isAgg65 Tryz.sizeOf65 rfl rfl rfl | exact ResV.cellK (i := 2) Tryz.isAgg65 Tryz.sizeOf65 rfl rfl rfl | exact ResV.cellK (i := 3) Tryz.isAgg65 Tryz.sizeOf65 rfl rfl rfl)) (ResV.tmp rfl) (ResV.tmp rfl)) (by first | exact prZ_out (prRead_9 (by omega) (by omega) hf) | exact prZ_out (prRead_n (by omega) hz)))
   ·have h1 := h1b
    try simp only [qqT, qqF, qqN, qqM, qqL, qqE] at h1
    obtain rfl : f = none := by
     cases f with
     | none => rfl
     | some i => exfalso; simp_all
    obtain rfl := hpre hf
    have hz : (linesR text).length ≠ 0 := by omega
    obtain rfl := hps (pr_all hf)
    have hsm := prOf_Sm (ls := linesR text) (n := text.size) (by omega) (by omega) hlg
    refine VC.le _ (Le.cellRow (i := 1) (k := 2) (j := 3) (y := avL (prOf (linesR text)).places) hB rfl rfl rfl (by omega) (fun w Z u h => Rep.rowL rfl h)) ?_
    refine VC.skip ?_
    refine VC.seq ?_
    refine VC.sr ?_
    refine VO.val rfl rfl (OpV.loadK_own (i := 1) rfl hB Tryz.isAgg65 Tryz.sizeOf65 rfl rfl rfl (fun h => h)) ?_
    refine VO.op rfl (OpE.call rfl hB rfl Tryz.call41 rfl (SpecN.spec (rf_ProductFault hsm)) ?_)
    rintro _ rfl
    refine VO.ma rfl rfl rfl rfl ?_
    refine VO.nil ?_
    refine VC.sr ?_
    refine VO.mv rfl rfl rfl rfl ?_
    refine VO.val rfl rfl (OpV.neq rfl rfl rfl) ?_
    refine VO.nil ?_
    refine VC.cond rfl (fun h2b => ?_) (fun h2b => ?_)
    ·have h2 := h2b
     try simp only [qqT, qqF, qqN, qqM, qqL, qqE] at h2
     refine VC.sr ?_
     refine VO.val rfl rfl (OpV.build (pls := #[(0, 1), (1, 1), (2, 1), (3, 1)]) rfl Tryz.zeroValue65 Tryz.underlying65 (fun w => by kernel_rfl) rfl rfl) ?_
     refine VO.le _ (Le.recast (t := 32) (y := avProd prZ) rfl (fun w Z u h => nil_prZ h)) ?_
     refine VO.mv rfl rfl rfl rfl ?_
     refine VO.op rfl (OpE.store (i := 2) rfl hB rfl Tryz.sizeOf65 rfl rfl rfl rfl rfl rfl (Nle rfl) trivial ?_)
     refine VO.ma rfl rfl rfl rfl ?_
     refine VO.ma rfl rfl rfl rfl ?_
     refine VO.nil ?_
     refine VC.ret ?_
     exact Exists.intro _ (And.intro (RetV.three Tryz.results45 ((by first | exact ResV.cellK (i := 0) Tryz.isAgg65 Tryz.sizeOf65 rfl rfl rfl | exact ResV.cellK (i := 1) Tryz.isAgg65 Tryz.sizeOf65 rfl rfl rfl | exact ResV.cellK (i := 2) Tryz.isAgg65 Tryz.sizeOf65 rfl rfl rfl)) (ResV.tmp rfl) (ResV.tmp rfl)) (prZ_out (prRead_e (by omega) hz hf h2)))
    ·have h2 := h2b
     try simp only [qqT, qqF, qqN, qqM, qqL, qqE] at h2
     refine VC.skip ?_
     refine VC.sr ?_
     refine VO.val rfl rfl (OpV.loadK_own (i := 1) rfl hB Tryz.isAgg65 Tryz.sizeOf65 rfl rfl rfl (fun h => h)) ?_
     refine VO.op rfl (OpE.store (i := 2) rfl hB rfl Tryz.sizeOf65 rfl rfl rfl rfl rfl rfl (Nle rfl) trivial ?_)
     refine VO.ma rfl rfl rfl rfl ?_
     refine VO.ma rfl rfl rfl rfl ?_
     refine VO.nil ?_
     refine VC.ret ?_
     exact Exists.intro _ (And.intro (RetV.three Tryz.results45 ((by first | exact ResV.cellK (i := 0) Tryz.isAgg65 Tryz.sizeOf65 rfl rfl rfl | exact ResV.cellK (i := 1) Tryz.isAgg65 Tryz.sizeOf65 rfl rfl rfl | exact ResV.cellK (i := 2) Tryz.isAgg65 Tryz.sizeOf65 rfl rfl rfl)) (ResV.tmp rfl) (ResV.tmp rfl)) (pr_out (prRead_0 (by omega) hz hf (by omega))))
  ·replace aK1b : _ = true := aK1b
   have aK1 := aK1b
   try simp only [qqT, qqF, qqN, qqM, qqL, qqE] at aK1
   refine VO.opX rfl rfl rfl rfl aK1b ?_
   refine VO.val rfl rfl (OpV.pickT rfl rfl rfl rfl aK1b) ?_
   refine VO.nil ?_
   refine VC.condT rfl rfl ?_
   obtain ⟨i, rfl⟩ : ∃ i, f = some i := by
    cases f with
    | none => exfalso; simp_all
    | some i => exact ⟨i, rfl⟩
   have hlt := lnF_lt hf
   refine VC.sr ?_
   refine VO.val rfl rfl (OpV.build (pls := #[(0, 1), (1, 1), (2, 1), (3, 1)]) rfl Tryz.zeroValue65 Tryz.underlying65 (fun w => by kernel_rfl) rfl rfl) ?_
   refine VO.le _ (Le.recast (t := 26) (y := avProd prZ) rfl (fun w Z u h => nil_prZ h)) ?_
   refine VO.mv rfl rfl rfl rfl ?_
   refine VO.op rfl (OpE.store (i := 3) rfl hB rfl Tryz.sizeOf65 rfl rfl rfl rfl rfl rfl (Nle rfl) trivial ?_)
   refine VO.ma rfl rfl rfl rfl ?_
   refine VO.ma rfl rfl rfl rfl ?_
   refine VO.nil ?_
   refine VC.ret ?_
   exact Exists.intro _ (And.intro (RetV.three Tryz.results45 ((by first | exact ResV.cellK (i := 0) Tryz.isAgg65 Tryz.sizeOf65 rfl rfl rfl | exact ResV.cellK (i := 1) Tryz.isAgg65 Tryz.sizeOf65 rfl rfl rfl | exact ResV.cellK (i := 2) Tryz.isAgg65 Tryz.sizeOf65 rfl rfl rfl | exact ResV.cellK (i := 3) Tryz.isAgg65 Tryz.sizeOf65 rfl rfl rfl)) (ResV.tmp rfl) (ResV.tmp rfl)) (by first | exact prZ_out (prRead_9 (by omega) (by omega) hf) | exact prZ_out (prRead_n (by omega) hz)))
end Go.Proofs.YtbbgjeiefmiblaaGreatDoor
namespace Go.Proofs.YtbbgjeiefmiblaaGreatDoor
open Go.RowKit
set_option linter.unusedVariables false
set_option linter.unusedSimpArgs false
abbrev avPl (x : PlaceS) : AV := .agg [avS x.name, avS x.part, avI x.x, avI x.y, avI x.quarter]
def hasN (p : ProdS) (k : ByteArray) : Bool := p.places.any fun x => sEq x.name k
def placeO (p : ProdS) (k : ByteArray) : PlaceS := (p.places.find? fun x => sEq x.name k).getD default
theorem placeE_name {p : ProdS} {i : Nat} (h : placeE p i = 0) (hi : 0 < i) : sLe (p.places.getD i default).name (p.places.getD (i - 1) default).name = false := by
 unfold placeE at h
 split at h
 ·cases h
 ·split at h
  ·cases h
  ·rename_i h2
   rw [decide_eq_true hi, Bool.true_and] at h2
   simpa using h2
theorem places_rise {p : ProdS} (h : prodF p = 0) : RiseK PlaceS.name p.places := fun j h0 hj => placeE_name ((prodOk h).all j hj) h0
end Go.Proofs.YtbbgjeiefmiblaaGreatDoor
namespace Go.Proofs.YtbbgjeiefmiblaaGreatDoor
open Go.RowKit
set_option linter.unusedVariables false
set_option linter.unusedSimpArgs false
set_option maxRecDepth 100000 in
theorem panel_placementAt1 {x : PlaceS} {k : ByteArray}  :
  SpecN Tryz.prog 141 [avT x, avS k] (fun y => y = avI (cmpB x.name k)) := by
 refine SpecN.of_VCN Tryz.func141 rfl Tryz.ntmps141 (Nle rfl) fun w A hB => ?_
 have hnew : True := trivial
 refine VC.sr ?_
 refine VO.op rfl (OpE.box rfl hB rfl rfl rfl ?_)
 intro g2
 refine VO.ma rfl rfl rfl rfl ?_
 refine VO.nil ?_
 refine VC.sr ?_
 refine VO.val rfl rfl (OpV.fieldAddrO 0 rfl Tryz.underlying128 rfl rfl Tryz.sizeOf9 rfl) ?_
 refine VO.val rfl rfl (OpV.load_own (i := 0) rfl hB Tryz.isAgg9 rfl rfl rfl (fun h => h)) ?_
 refine VO.mv rfl rfl rfl rfl ?_
 refine VO.op rfl (OpE.call rfl hB rfl Tryz.call142 rfl (SpecN.spec (strings_Compare_S)) ?_)
 rintro _ rfl
 refine VO.ma rfl rfl rfl rfl ?_
 refine VO.nil ?_
 refine VC.ret ?_
 exact Exists.intro _ (And.intro (RetN.one Tryz.results141 (ResN.v rfl)) (rfl))
set_option maxRecDepth 100000 in
theorem bsf_place {xs : List PlaceS} {t : ByteArray} {F : FuncId} {cs : List AV} {c : PlaceS → Int} {s0 : Nat} (hl : xs.length ≤ 1000000) (hcall : ∀ us w, (callFunc F us).run Tryz.prog w = .ok (.enter F us) w) (hF : ∀ x, Spec Tryz.prog F ([avT x, avS t] ++ cs) (fun y => y = avI (c x))) (hs : s0 ≤ xs.length) (hlo : ∀ j, j < s0 → c (xs.getD j default) < 0) (hhi : ∀ j, s0 ≤ j → j < xs.length → 0 ≤ c (xs.getD j default)) :
  SpecN Tryz.prog 140 [avL xs, avS t, .fn F cs] (fun y => y = .tup [avI (s0 : Int), avB (decide (s0 < xs.length) && decide (c (xs.getD s0 default) = 0))]) := by
 refine SpecN.of_VCN Tryz.func140 rfl Tryz.ntmps140 (Nle rfl) fun w A hB => ?_
 have hnew : True := trivial
 refine VC.sr ?_
 refine VO.ma rfl rfl rfl rfl ?_
 refine VO.ma rfl rfl rfl rfl ?_
 refine VO.nil ?_
 refine VC.sr ?_
 refine VO.mv rfl rfl rfl rfl ?_
 refine VO.val rfl rfl (OpV.len_im rfl Tryz.underlying63 rfl) ?_
 refine VO.ma rfl rfl rfl rfl ?_
 refine VO.nil ?_
 refine VC.sr ?_
 refine VO.mv rfl rfl rfl rfl ?_
 refine VO.ma rfl rfl rfl rfl ?_
 refine VO.ma rfl rfl rfl rfl ?_
 refine VO.nil ?_
 refine VC.seq ?_
 refine VC.block ?_
 refine VC.loopK [(0, _), (1, _), (2, _), (8, _)] ⟨rfl, rfl, rfl, rfl, trivial⟩ ({z : Nat × Nat // z.1 ≤ s0 ∧ s0 ≤ z.2 ∧ z.2 ≤ xs.length}) (fun (iZ : {z : Nat × Nat // z.1 ≤ s0 ∧ s0 ≤ z.2 ∧ z.2 ≤ xs.length}) => match iZ with | ⟨⟨i, j⟩, h1, h2, h3⟩ => [(9, avI (i : Int)), (10, avI (j : Int))]) (fun (iZ : {z : Nat × Nat // z.1 ≤ s0 ∧ s0 ≤ z.2 ∧ z.2 ≤ xs.length}) => match iZ with | ⟨⟨i, j⟩, h1, h2, h3⟩ => []) (fun (iZ : {z : Nat × Nat // z.1 ≤ s0 ∧ s0 ≤ z.2 ∧ z.2 ≤ xs.length}) => match iZ with | ⟨⟨i, j⟩, h1, h2, h3⟩ => 0) (fun (iZ : {z : Nat × Nat // z.1 ≤ s0 ∧ s0 ≤ z.2 ∧ z.2 ≤ xs.length}) => match iZ with | ⟨⟨i, j⟩, h1, h2, h3⟩ => j - i) ⟨(0, xs.length), Nat.zero_le _, hs, Nat.le_refl _⟩ (Le.mk hB [] ⟨rfl, rfl, rfl, rfl, rfl, rfl, trivial⟩ rfl rfl (Nat.le_refl _)) ?_
 rintro ⟨⟨i, j⟩, h1, h2, h3⟩
 show VC _ _ _ _ ⟨[(9, avI (i : Int)), (10, avI (j : Int))] ++ [(0, _), (1, _), (2, _), (8, _)], [], 0⟩
 simp only at h1 h2 h3
 refine VC.seq ?_
 refine VC.sr ?_
 refine VO.mv rfl rfl rfl rfl ?_
 refine VO.mv rfl rfl rfl rfl ?_
 refine VO.val rfl rfl (OpV.lss rfl rfl rfl) ?_
 refine VO.nil ?_
 refine VC.cond rfl (fun aH1b => ?_) (fun aH1b => ?_)
 ·have aH1 := aH1b
  try simp only [qqT, qqF, qqN, qqM, qqL, qqE] at aH1
  refine VC.skip ?_
  refine VC.block ?_
  refine VC.sr ?_
  refine VO.mv rfl rfl rfl rfl ?_
  refine VO.mv rfl rfl rfl rfl ?_
  refine VO.val rfl rfl (OpV.add rfl rfl rfl (by unfold fits; omega)) ?_
  refine VO.val rfl rfl (OpV.conv rfl Tryz.underlying3 Tryz.underlying90 rfl (IntWalk.u64_in _ (by omega))) ?_
  refine VO.val rfl rfl (OpV.shr1 rfl rfl rfl rfl (by omega)) ?_
  refine VO.val rfl rfl (OpV.conv rfl Tryz.underlying90 Tryz.underlying3 rfl (IntWalk.i64_in _ (by omega))) ?_
  refine VO.ma rfl rfl rfl rfl ?_
  refine VO.nil ?_
  refine VC.sr ?_
  refine VO.mv rfl rfl rfl rfl ?_
  refine VO.mv rfl rfl rfl rfl ?_
  refine VO.mv rfl rfl rfl rfl ?_
  refine VO.val rfl rfl (OpV.indexAddr_E rfl Tryz.underlying63 Tryz.sizeOf128 rfl rfl (Int.toNat_of_nonneg (by omega)).symm (by omega)) ?_
  refine VO.val rfl rfl (OpV.loadK_at rfl hB OutW.no Tryz.isAgg128 Tryz.sizeOf128 rfl rfl) ?_
  refine VO.mv rfl rfl rfl rfl ?_
  refine VO.op rfl (OpE.callF rfl hB rfl hcall rfl rfl (hF _) ?_)
  rintro _ rfl
  refine VO.val rfl rfl (OpV.lss rfl rfl rfl) ?_
  refine VO.nil ?_
  refine VC.cond rfl (fun hcb => ?_) (fun hcb => ?_)
  ·have hc := hcb
   try simp only [qqT, qqF, qqN, qqM, qqL, qqE] at hc
   refine VC.region ?_
   refine VO.mv rfl rfl rfl rfl ?_
   refine VO.val rfl rfl (OpV.add rfl rfl rfl (by unfold fits; omega)) ?_
   refine VO.ma rfl rfl rfl rfl ?_
   refine VO.nil ?_
   exact Exists.intro (⟨((((i : Int) + j) / 2).toNat + 1, j), bsf_lo hhi (by omega) hc, h2, h3⟩) (And.intro (Le.mk hB [] ⟨(by first | rfl | exact congrArg (fun z => some (avI z)) (by omega)), (by first | rfl | exact congrArg (fun z => some (avI z)) (by omega)), rfl, rfl, rfl, rfl, trivial⟩ rfl rfl (Nat.le_refl _)) (by first | omega | (show _ < _; omega) | (simp only []; omega)))
  ·have hc := hcb
   try simp only [qqT, qqF, qqN, qqM, qqL, qqE] at hc
   refine VC.region ?_
   refine VO.mv rfl rfl rfl rfl ?_
   refine VO.ma rfl rfl rfl rfl ?_
   refine VO.nil ?_
   exact Exists.intro (⟨(i, (((i : Int) + j) / 2).toNat), h1, bsf_hi (h := (((i : Int) + j) / 2).toNat) hlo hc, by show _ ≤ xs.length; omega⟩) (And.intro (Le.mk hB [] ⟨(by first | rfl | exact congrArg (fun z => some (avI z)) (by omega)), (by first | rfl | exact congrArg (fun z => some (avI z)) (by omega)), rfl, rfl, rfl, rfl, trivial⟩ rfl rfl (Nat.le_refl _)) (by first | omega | (show _ < _; omega) | (simp only []; omega)))
 ·have aH1 := aH1b
  try simp only [qqT, qqF, qqN, qqM, qqL, qqE] at aH1
  obtain rfl : i = s0 := by omega
  refine VC.exit ?_
  refine VC.sr ?_
  refine VO.mv rfl rfl rfl rfl ?_
  refine VO.mv rfl rfl rfl rfl ?_
  refine VO.mv rfl rfl rfl rfl ?_
  refine VO.val rfl rfl (OpV.lss rfl rfl rfl) ?_
  refine VO.mv rfl rfl rfl rfl ?_
  refine VO.opG rfl rfl rfl rfl (fun aK2b => ?_) (fun aK2b => ?_)
  ·replace aK2b : _ = true := aK2b
   have aK2 := aK2b
   try simp only [qqT, qqF, qqN, qqM, qqL, qqE] at aK2
   refine OpE.val (W := NoB) (OpV.move (.inl rfl) rfl) rfl ?_
   refine VO.opY rfl rfl rfl rfl aK2b ?_
   refine OpE.val (W := NoB) (OpV.move (.inl rfl) rfl) rfl ?_
   refine VO.opY rfl rfl rfl rfl aK2b ?_
   refine OpE.val (W := NoB) (OpV.move (.inl rfl) rfl) rfl ?_
   refine VO.opY rfl rfl rfl rfl aK2b ?_
   refine OpE.val (W := NoB) (OpV.indexAddr_E rfl Tryz.underlying63 Tryz.sizeOf128 rfl rfl rfl (by omega)) rfl ?_
   refine VO.opY rfl rfl rfl rfl aK2b ?_
   refine OpE.val (W := NoB) (OpV.loadK_at rfl hB OutW.no Tryz.isAgg128 Tryz.sizeOf128 rfl rfl) rfl ?_
   refine VO.opY rfl rfl rfl rfl aK2b ?_
   refine OpE.val (W := NoB) (OpV.move (.inl rfl) rfl) rfl ?_
   refine VO.opY rfl rfl rfl rfl aK2b ?_
   refine OpE.callF rfl hB rfl hcall rfl rfl (hF _) ?_
   rintro _ rfl
   refine VO.opY rfl rfl rfl rfl aK2b ?_
   refine OpE.val (W := NoB) (OpV.eql rfl rfl rfl) rfl ?_
   refine VO.val rfl rfl (OpV.pickT rfl rfl rfl rfl aK2b) ?_
   refine VO.ma rfl rfl rfl rfl ?_
   refine VO.ma rfl rfl rfl rfl ?_
   refine VO.nil ?_
   refine VC.ret ?_
   exact Exists.intro _ (And.intro (RetN.two Tryz.results140 (ResN.v rfl) (ResN.v rfl)) (by first | (rw [decide_eq_true (show i < xs.length by omega)]; rfl) | (rw [decide_eq_false (show ¬ i < xs.length by omega)]; rfl)))
  ·replace aK2b : _ = false := aK2b
   have aK2 := aK2b
   try simp only [qqT, qqF, qqN, qqM, qqL, qqE] at aK2
   refine VO.opX rfl rfl rfl rfl aK2b ?_
   refine VO.opX rfl rfl rfl rfl aK2b ?_
   refine VO.opX rfl rfl rfl rfl aK2b ?_
   refine VO.opX rfl rfl rfl rfl aK2b ?_
   refine VO.opX rfl rfl rfl rfl aK2b ?_
   refine VO.opX rfl rfl rfl rfl aK2b ?_
   refine VO.opX rfl rfl rfl rfl aK2b ?_
   refine VO.val rfl rfl (OpV.pickF rfl rfl rfl rfl aK2b) ?_
   refine VO.ma rfl rfl rfl rfl ?_
   refine VO.ma rfl rfl rfl rfl ?_
   refine VO.nil ?_
   refine VC.ret ?_
   exact Exists.intro _ (And.intro (RetN.two Tryz.results140 (ResN.v rfl) (ResN.v rfl)) (by first | (rw [decide_eq_true (show i < xs.length by omega)]; rfl) | (rw [decide_eq_false (show ¬ i < xs.length by omega)]; rfl)))
set_option maxRecDepth 100000 in
theorem panel_placementAt {l : List PlaceS} {k : ByteArray} (hl : l.length ≤ 1000000) (hr : RiseK PlaceS.name l) :
  SpecN Tryz.prog 96 [avL l, avS k] (fun y => y = .tup [avI (lowK PlaceS.name l k : Int), avB (l.any fun x => sEq x.name k)]) := by
 refine SpecN.of_VCN Tryz.func96 rfl Tryz.ntmps96 (Nle rfl) fun w A hB => ?_
 have hnew : True := trivial
 refine VC.sr ?_
 refine VO.ma rfl rfl rfl rfl ?_
 refine VO.ma rfl rfl rfl rfl ?_
 refine VO.nil ?_
 refine VC.sr ?_
 refine VO.mv rfl rfl rfl rfl ?_
 refine VO.mv rfl rfl rfl rfl ?_
 refine VO.op rfl (OpE.callL rfl hB rfl Tryz.call140 (bsf_place (c := fun x => cmpB x.name k) (s0 := lowK PlaceS.name l k) hl Tryz.call141 (fun x => panel_placementAt1.spec) lowK_le (lowK_cmp hr).1 (lowK_cmp hr).2) (ArgsP.cons (ArgP.ev rfl) (ArgsP.cons (ArgP.ev rfl) (ArgsP.cons (ArgP.fn0 rfl) (ArgsP.nil)))) ?_)
 rintro _ rfl
 refine VO.val rfl rfl (OpV.extract rfl rfl rfl) ?_
 refine VO.val rfl rfl (OpV.extract rfl rfl rfl) ?_
 refine VO.ma rfl rfl rfl rfl ?_
 refine VO.ma rfl rfl rfl rfl ?_
 refine VO.nil ?_
 refine VC.ret ?_
 exact Exists.intro _ (And.intro (RetN.two Tryz.results96 (ResN.v rfl) (ResN.v rfl)) (by rw [← lowK_any hr, ← cmp_zero]))



end Go.Proofs.YtbbgjeiefmiblaaGreatDoor
namespace Go.Proofs.YtbbgjeiefmiblaaGreatDoor
open Go.RowKit
set_option linter.unusedVariables false
set_option linter.unusedSimpArgs false
def zeroPl : PlaceS := ⟨⟨#[]⟩, ⟨#[]⟩, 0, 0, 0⟩
def atPl (p : ProdS) (k : ByteArray) : PlaceS := if hasN p k = true then placeO p k else zeroPl
theorem hasN_found {p : ProdS} {k : ByteArray} {q : Nat} (hq : q < p.places.length) (h : sEq (p.places.getD q default).name k = true) (hn : ∀ j, j < q → sEq (p.places.getD j default).name k = false) : atPl p k = p.places.getD q default ∧ hasN p k = true := by
 have h1 : hasN p k = true := by
  unfold hasN
  rw [List.any_eq_true]
  refine ⟨p.places[q], List.getElem_mem hq, ?_⟩
  rw [List.getD_eq_getElem?_getD, List.getElem?_eq_getElem hq] at h
  exact h
 refine ⟨?_, h1⟩
 rw [atPl, if_pos h1, placeO]
 have : p.places.find? (fun x => sEq x.name k) = some p.places[q] := by
  rw [List.find?_eq_some_iff_getElem]
  rw [List.getD_eq_getElem?_getD, List.getElem?_eq_getElem hq] at h
  refine ⟨h, q, hq, rfl, fun j hj => ?_⟩
  have := hn j hj
  rw [List.getD_eq_getElem?_getD, List.getElem?_eq_getElem (by omega)] at this
  simp at this ⊢
  exact this
 rw [this, List.getD_eq_getElem?_getD, List.getElem?_eq_getElem hq]
theorem hasN_none {p : ProdS} {k : ByteArray} (hn : ∀ j, j < p.places.length → sEq (p.places.getD j default).name k = false) : atPl p k = zeroPl ∧ hasN p k = false := by
 have h1 : hasN p k = false := by
  unfold hasN
  rw [List.any_eq_false]
  intro x hx
  obtain ⟨j, hj, rfl⟩ := List.getElem_of_mem hx
  have := hn j hj
  rw [List.getD_eq_getElem?_getD, List.getElem?_eq_getElem hj] at this
  simpa using this
 exact ⟨by rw [atPl, if_neg (by rw [h1]; simp)], h1⟩


set_option maxRecDepth 100000 in
theorem rf_PlacementAt1 {x : PlaceS} {k : ByteArray}  :
  SpecN Tryz.prog 145 [avT x, .at_ 1 (fun _ => avS k)] (fun y => y = avB (sEq x.name k)) := by
 refine SpecN.of_VCN Tryz.func145 rfl Tryz.ntmps145 (Nle rfl) fun w A hB => ?_
 have hnew : True := trivial
 refine VC.sr ?_
 refine VO.op rfl (OpE.box rfl hB rfl rfl rfl ?_)
 intro g2
 refine VO.ma rfl rfl rfl rfl ?_
 refine VO.nil ?_
 refine VC.sr ?_
 refine VO.val rfl rfl (OpV.fieldAddrO 0 rfl Tryz.underlying128 rfl rfl Tryz.sizeOf9 rfl) ?_
 refine VO.val rfl rfl (OpV.load_own (i := 0) rfl hB Tryz.isAgg9 rfl rfl rfl (fun h => h)) ?_
 refine VO.val rfl rfl (OpV.load_at rfl hB OutW.no Tryz.isAgg9 rfl rfl) ?_
 refine VO.val rfl rfl (OpV.seql rfl rfl rfl) ?_
 refine VO.ma rfl rfl rfl rfl ?_
 refine VO.nil ?_
 refine VC.ret ?_
 exact Exists.intro _ (And.intro (RetN.one Tryz.results145 (ResN.v rfl)) (rfl))
set_option maxRecDepth 100000 in
theorem slices_IndexFunc_place {xs : List PlaceS} {F : FuncId} {cs : List AV} {p : PlaceS → Bool} (hl : xs.length ≤ 1000000000) (hcall : ∀ us w, (callFunc F us).run Tryz.prog w = .ok (.enter F us) w) (hF : ∀ x, Spec Tryz.prog F ([avT x] ++ cs) (fun y => y = avB (p x))) :
  SpecN Tryz.prog 144 [avL xs, .fn F cs] (fun y => ∃ q : Int, ((q = -1 ∧ ∀ j, j < xs.length → p (xs.getD j default) = false) ∨ ∃ m : Nat, q = (m : Int) ∧ m < xs.length ∧ p (xs.getD m default) = true ∧ ∀ j, j < m → p (xs.getD j default) = false) ∧ y = avI q) := by
 refine SpecN.of_VCN Tryz.func144 rfl Tryz.ntmps144 (Nle rfl) fun w A hB => ?_
 have hnew : True := trivial
 refine VC.sr ?_
 refine VO.ma rfl rfl rfl rfl ?_
 refine VO.nil ?_
 refine VC.seq ?_
 refine VC.sr ?_
 refine VO.mv rfl rfl rfl rfl ?_
 refine VO.val rfl rfl (OpV.len_im rfl Tryz.underlying63 rfl) ?_
 refine VO.mv rfl rfl rfl rfl ?_
 refine VO.nil ?_
 refine VC.block ?_
 refine VC.loopK [(0, _), (1, _), (7, _)] ⟨rfl, rfl, rfl, trivial⟩ ({q : Nat // q ≤ xs.length ∧ ∀ j, j < q → p (xs.getD j default) = false}) (fun (iZ : {q : Nat // q ≤ xs.length ∧ ∀ j, j < q → p (xs.getD j default) = false}) => match iZ with | ⟨q, hq, hn⟩ => [(8, avI (q : Int))]) (fun (iZ : {q : Nat // q ≤ xs.length ∧ ∀ j, j < q → p (xs.getD j default) = false}) => match iZ with | ⟨q, hq, hn⟩ => []) (fun (iZ : {q : Nat // q ≤ xs.length ∧ ∀ j, j < q → p (xs.getD j default) = false}) => match iZ with | ⟨q, hq, hn⟩ => 0) (fun (iZ : {q : Nat // q ≤ xs.length ∧ ∀ j, j < q → p (xs.getD j default) = false}) => match iZ with | ⟨q, hq, hn⟩ => xs.length - q) ⟨0, Nat.zero_le _, fun j hj => absurd hj (Nat.not_lt_zero j)⟩ (Le.mk hB [] ⟨rfl, rfl, rfl, rfl, trivial⟩ rfl rfl (Nat.le_refl _)) ?_
 rintro ⟨q, hq, hn⟩
 show VC _ _ _ _ ⟨[(8, avI (q : Int))] ++ [(0, _), (1, _), (7, _)], [], 0⟩
 refine VC.sr ?_
 refine VO.val rfl rfl (OpV.lss rfl rfl rfl) ?_
 refine VO.nil ?_
 refine VC.seq ?_
 refine VC.cond rfl (fun aH1b => ?_) (fun aH1b => ?_)
 ·have aH1 := aH1b
  try simp only [qqT, qqF, qqN, qqM, qqL, qqE] at aH1
  refine VC.skip ?_
  refine VC.seq ?_
  refine VC.block ?_
  refine VC.sr ?_
  refine VO.mv rfl rfl rfl rfl ?_
  refine VO.ma rfl rfl rfl rfl ?_
  refine VO.nil ?_
  refine VC.sr ?_
  refine VO.mv rfl rfl rfl rfl ?_
  refine VO.mv rfl rfl rfl rfl ?_
  refine VO.mv rfl rfl rfl rfl ?_
  refine VO.val rfl rfl (OpV.indexAddr_E rfl Tryz.underlying63 Tryz.sizeOf128 rfl rfl rfl (by omega)) ?_
  refine VO.val rfl rfl (OpV.loadK_at rfl hB OutW.no Tryz.isAgg128 Tryz.sizeOf128 rfl rfl) ?_
  refine VO.op rfl (OpE.callF rfl hB rfl hcall rfl rfl (hF _) ?_)
  rintro _ rfl
  refine VO.nil ?_
  refine VC.cond rfl (fun aH2b => ?_) (fun aH2b => ?_)
  ·have aH2 := aH2b
   try simp only [qqT, qqF, qqN, qqM, qqL, qqE] at aH2
   refine VC.sr ?_
   refine VO.mv rfl rfl rfl rfl ?_
   refine VO.ma rfl rfl rfl rfl ?_
   refine VO.nil ?_
   refine VC.ret ?_
   exact Exists.intro _ (And.intro (RetN.one Tryz.results144 (ResN.v rfl)) (by first | exact ⟨_, .inr ⟨q, rfl, by omega, by assumption, hn⟩, rfl⟩ | exact ⟨_, .inl ⟨rfl, fun j hj => hn j (by omega)⟩, rfl⟩))
  ·have aH2 := aH2b
   try simp only [qqT, qqF, qqN, qqM, qqL, qqE] at aH2
   refine VC.skip ?_
   refine VC.region ?_
   refine VO.val rfl rfl (OpV.add rfl rfl rfl (by unfold fits; omega)) ?_
   refine VO.mv rfl rfl rfl rfl ?_
   refine VO.nil ?_
   exact Exists.intro (⟨q + 1, by omega, lt_succ_cases hn ((by assumption))⟩) (And.intro (Le.mk hB [] ⟨rfl, rfl, rfl, rfl, trivial⟩ rfl rfl (Nat.le_refl _)) (by first | omega | (show _ < _; omega) | (simp only []; omega)))
 ·have aH1 := aH1b
  try simp only [qqT, qqF, qqN, qqM, qqL, qqE] at aH1
  refine VC.exit ?_
  refine VC.sr ?_
  refine VO.ma rfl rfl rfl rfl ?_
  refine VO.nil ?_
  refine VC.ret ?_
  exact Exists.intro _ (And.intro (RetN.one Tryz.results144 (ResN.v rfl)) (by first | exact ⟨_, .inr ⟨q, rfl, by omega, by assumption, hn⟩, rfl⟩ | exact ⟨_, .inl ⟨rfl, fun j hj => hn j (by omega)⟩, rfl⟩))
set_option maxRecDepth 100000 in
theorem rf_PlacementAt {p : ProdS} {k : ByteArray} (hl : p.places.length ≤ 1000000) :
  SpecN Tryz.prog 99 [avProd p, avS k] (fun y => y = .tup [avPl (atPl p k), avB (hasN p k)]) := by
 refine SpecN.of_VCN Tryz.func99 rfl Tryz.ntmps99 (Nle rfl) fun w A hB => ?_
 have hnew : True := trivial
 refine VC.sr ?_
 refine VO.op rfl (OpE.box rfl hB rfl rfl rfl ?_)
 intro g2
 refine VO.op rfl (OpE.box rfl hB rfl rfl rfl ?_)
 intro g3
 refine VO.op rfl (OpE.alloc rfl hB rfl Tryz.zeroValue128 rfl ?_)
 intro g4
 refine VO.ma rfl rfl rfl rfl ?_
 refine VO.nil ?_
 refine VC.sr ?_
 refine VO.val rfl rfl (OpV.fieldAddrO 3 rfl Tryz.underlying65 rfl rfl Tryz.sizeOf63 rfl) ?_
 refine VO.val rfl rfl (OpV.load_own (i := 0) rfl hB Tryz.isAgg63 rfl rfl rfl (fun h => h)) ?_
 refine VO.val rfl rfl (OpV.makeFunc1 rfl rfl) ?_
 refine VO.op rfl (OpE.callL rfl hB rfl Tryz.call144 (slices_IndexFunc_place (xs := p.places) (p := fun x => sEq x.name k) (by omega) Tryz.call145 (fun x => rf_PlacementAt1.spec)) (ArgsP.cons (ArgP.ev rfl) (ArgsP.cons (ArgP.fn1 (i := 1) (m := 1) (f := fun _ => avS k) rfl rfl (Nle rfl) (lt1 rfl)) (ArgsP.nil))) ?_)
 rintro _ ⟨i, hi, rfl⟩
 refine VO.ma rfl rfl rfl rfl ?_
 refine VO.nil ?_
 refine VC.seq ?_
 refine VC.sr ?_
 refine VO.mv rfl rfl rfl rfl ?_
 refine VO.val rfl rfl (OpV.lss rfl rfl rfl) ?_
 refine VO.nil ?_
 refine VC.cond rfl (fun h0b => ?_) (fun h0b => ?_)
 ·have h0 := h0b
  try simp only [qqT, qqF, qqN, qqM, qqL, qqE] at h0
  have hno := hi.elim (fun h => h.2) (fun ⟨m, h1, _⟩ => by omega)
  obtain ⟨e1, e2⟩ := hasN_none hno
  refine VC.sr ?_
  refine VO.val rfl rfl (OpV.build (pls := #[(0, 1), (1, 1), (2, 1), (3, 1), (4, 1)]) rfl Tryz.zeroValue128 Tryz.underlying128 (fun w => by kernel_rfl) rfl rfl) ?_
  refine VO.op rfl (OpE.store (i := 2) rfl hB rfl Tryz.sizeOf128 rfl rfl rfl rfl rfl rfl (Nle rfl) trivial ?_)
  refine VO.ma rfl rfl rfl rfl ?_
  refine VO.nil ?_
  refine VC.ret ?_
  exact Exists.intro _ (And.intro (RetN.two Tryz.results99 ((by first | exact ResN.cellF (i := 0) Tryz.isAgg128 Tryz.sizeOf128 rfl rfl rfl (flat_ofB rfl) | exact ResN.cellF (i := 1) Tryz.isAgg128 Tryz.sizeOf128 rfl rfl rfl (flat_ofB rfl) | exact ResN.cellF (i := 2) Tryz.isAgg128 Tryz.sizeOf128 rfl rfl rfl (flat_ofB rfl))) (ResN.v rfl)) (by rw [e1, e2]; rfl))
 ·have h0 := h0b
  try simp only [qqT, qqF, qqN, qqM, qqL, qqE] at h0
  obtain ⟨m, rfl, hm, hf, hn⟩ := hi.elim (fun h => by omega) id
  obtain ⟨e1, e2⟩ := hasN_found hm hf hn
  refine VC.skip ?_
  refine VC.sr ?_
  refine VO.val rfl rfl (OpV.fieldAddrO 3 rfl Tryz.underlying65 rfl rfl Tryz.sizeOf63 rfl) ?_
  refine VO.val rfl rfl (OpV.load_own (i := 0) rfl hB Tryz.isAgg63 rfl rfl rfl (fun h => h)) ?_
  refine VO.mv rfl rfl rfl rfl ?_
  refine VO.val rfl rfl (OpV.indexAddr_E rfl Tryz.underlying63 Tryz.sizeOf128 rfl rfl rfl (by omega)) ?_
  refine VO.val rfl rfl (OpV.loadK_at rfl hB OutW.no Tryz.isAgg128 Tryz.sizeOf128 rfl rfl) ?_
  refine VO.op rfl (OpE.store (i := 2) rfl hB rfl Tryz.sizeOf128 rfl rfl rfl rfl rfl rfl (Nle rfl) trivial ?_)
  refine VO.ma rfl rfl rfl rfl ?_
  refine VO.nil ?_
  refine VC.ret ?_
  exact Exists.intro _ (And.intro (RetN.two Tryz.results99 ((by first | exact ResN.cellF (i := 0) Tryz.isAgg128 Tryz.sizeOf128 rfl rfl rfl (flat_ofB rfl) | exact ResN.cellF (i := 1) Tryz.isAgg128 Tryz.sizeOf128 rfl rfl rfl (flat_ofB rfl) | exact ResN.cellF (i := 2) Tryz.isAgg128 Tryz.sizeOf128 rfl rfl rfl (flat_ofB rfl))) (ResN.v rfl)) (by rw [e1, e2]; rfl))





end Go.Proofs.YtbbgjeiefmiblaaGreatDoor
namespace Go.Proofs.YtbbgjeiefmiblaaGreatDoor
open Go.RowKit
set_option linter.unusedVariables false
set_option linter.unusedSimpArgs false
def eqPl (x y : PlaceS) : Bool := sEq x.name y.name && (sEq x.part y.part && (decide (x.x = y.x) && (decide (x.y = y.y) && (decide (x.quarter = y.quarter) && true))))
theorem eqPl_self (x : PlaceS) : eqPl x x = true := by simp [eqPl, sEq_refl]
def selC (f : PlaceS → Bool) (l : List PlaceS) : List ByteArray := (l.filter f).map (·.name)
section
variable {f : PlaceS → Bool} {l : List PlaceS} {q : Nat}
theorem selC_y (hq : q < l.length) (h : f (l.getD q default) = true) : selC f (l.take (q + 1)) = selC f (l.take q) ++ [(l.getD q default).name] := by
 rw [take_snocD hq default, selC, selC, List.filter_append, List.map_append, List.filter_cons_of_pos h]; rfl
theorem selC_n (hq : q < l.length) (h : f (l.getD q default) = false) : selC f (l.take (q + 1)) = selC f (l.take q) := by
 rw [take_snocD hq default, selC, selC, List.filter_append, List.filter_cons_of_neg (by rw [h]; simp)]; simp
theorem selC_len : (selC f (l.take q)).length ≤ l.length := by
 unfold selC
 rw [List.length_map]
 have := List.length_filter_le f (l.take q)
 rw [List.length_take] at this
 omega
theorem selC_lenA : (selC f l).length ≤ l.length := by
 unfold selC
 rw [List.length_map]
 exact List.length_filter_le f l
end
def newC (y : ProdS) (a : PlaceS) : Bool := !hasN y a.name
def othC (y : ProdS) (a : PlaceS) : Bool := hasN y a.name && !eqPl a (atPl y a.name)
def chgF (x y : ProdS) : Int := if prodF x ≠ 0 then prodF x else prodF y
def chg1 (x y : ProdS) : List ByteArray := if chgF x y = 0 then selC (newC y) x.places else []
def chg2 (x y : ProdS) : List ByteArray := if chgF x y = 0 then selC (newC x) y.places else []
def chg3 (x y : ProdS) : List ByteArray := if chgF x y = 0 then selC (othC y) x.places else []
theorem chgF_1 {x y : ProdS} (h : prodF x ≠ 0) : chgF x y = prodF x := if_pos h
theorem chgF_2 {x y : ProdS} (h : prodF x = 0) : chgF x y = prodF y := if_neg (by omega)
theorem chg_no {x y : ProdS} (h : chgF x y ≠ 0) : chg1 x y = [] ∧ chg2 x y = [] ∧ chg3 x y = [] := ⟨if_neg h, if_neg h, if_neg h⟩
theorem chg_ok {x y : ProdS} (h : chgF x y = 0) : chg1 x y = selC (newC y) x.places ∧ chg2 x y = selC (newC x) y.places ∧ chg3 x y = selC (othC y) x.places := ⟨if_pos h, if_pos h, if_pos h⟩
theorem chg_len (x y : ProdS) : (chg1 x y).length ≤ x.places.length ∧ (chg2 x y).length ≤ y.places.length ∧ (chg3 x y).length ≤ x.places.length := by
 by_cases h : chgF x y = 0
 ·obtain ⟨h1, h2, h3⟩ := chg_ok h
  rw [h1, h2, h3]
  exact ⟨selC_lenA, selC_lenA, selC_lenA⟩
 ·obtain ⟨h1, h2, h3⟩ := chg_no h
  rw [h1, h2, h3]
  exact ⟨Nat.zero_le _, Nat.zero_le _, Nat.zero_le _⟩
theorem atPl_y {p : ProdS} {k : ByteArray} (h : hasN p k = true) : atPl p k = placeO p k := if_pos h
theorem newC_n {y : ProdS} {a : PlaceS} (h : hasN y a.name = true) : newC y a = false := by unfold newC; rw [h]; rfl
theorem newC_y {y : ProdS} {a : PlaceS} (h : hasN y a.name = false) : newC y a = true := by unfold newC; rw [h]; rfl
theorem othC_0 {y : ProdS} {a : PlaceS} (h : hasN y a.name = false) : othC y a = false := by unfold othC; rw [h]; rfl
theorem othC_1 {y : ProdS} {a b : PlaceS} (h : hasN y a.name = true) (hb : atPl y a.name = b) : othC y a = !eqPl a b := by unfold othC; rw [h, hb]; rfl
end Go.Proofs.YtbbgjeiefmiblaaGreatDoor
namespace Go.Proofs.YtbbgjeiefmiblaaGreatDoor
open Go.RowKit
set_option linter.unusedVariables false
set_option linter.unusedSimpArgs false
instance : Sxc ProdS where
 k := 4
 pos := by decide
 cell p j := match j with
  | 0 => avS p.key
  | 1 => avI p.wide
  | 2 => avI p.high
  | _ => avL p.places
section
variable {px py : ProdS} {q : Nat}
theorem two_sm (hx : SmP px) (hy : SmP py) (h : q < 2) : SmP ([px, py].getD q default) := by
 match q, h with
 | 0, _ => exact hx
 | 1, _ => exact hy
theorem chgF_at (hq : q < 2) (hn : ∀ j, j < q → prodF ([px, py].getD j default) = 0) (h : prodF ([px, py].getD q default) ≠ 0) : chgF px py = prodF ([px, py].getD q default) := by
 match q, hq, hn, h with
 | 0, _, _, h => exact chgF_1 h
 | 1, _, hn, h => exact chgF_2 (hn 0 (by decide))
theorem two_0 (hn : ∀ j, j < 2 → prodF ([px, py].getD j default) = 0) : prodF px = 0 ∧ prodF py = 0 := ⟨hn 0 (by decide), hn 1 (by decide)⟩
theorem lowK_has {p : ProdS} {k : ByteArray} (h : prodF p = 0) (hh : hasN p k = true) : lowK PlaceS.name p.places k < p.places.length ∧ p.places.getD (lowK PlaceS.name p.places k) default = atPl p k := by
 have h1 := (lowK_any (places_rise h) (k := k)).trans (show (p.places.any fun x => sEq x.name k) = true from hh)
 rw [Bool.and_eq_true, decide_eq_true_eq] at h1
 refine ⟨h1.1, ?_⟩
 rw [atPl_y hh]
 exact (lowK_find (places_rise h) h1.1 h1.2).symm
theorem chg_out0 {e : Int} (h : chgF px py ≠ 0) (he : chgF px py = e) : AV.tup [avStrs [], avStrs [], avStrs [], avI e] = AV.tup [avStrs (chg1 px py), avStrs (chg2 px py), avStrs (chg3 px py), avI (chgF px py)] := by
 obtain ⟨h1, h2, h3⟩ := chg_no h
 rw [h1, h2, h3, he]
theorem chg_out1 (h : chgF px py = 0) : AV.tup [avStrs (selC (newC py) px.places), avStrs (selC (newC px) py.places), avStrs (selC (othC py) px.places), avI 0] = AV.tup [avStrs (chg1 px py), avStrs (chg2 px py), avStrs (chg3 px py), avI (chgF px py)] := by
 obtain ⟨h1, h2, h3⟩ := chg_ok h
 rw [h1, h2, h3, h]
end
theorem nilStrs {w : World} {Z : Nat → Prop} {u : Value} (h : Rep w Z (.v (.slice none 0 0)) u) : Rep w Z (avStrs ([] : List ByteArray)) u := by rw [h.eq_v]; exact .nil _ _
abbrev rwS (u : Value) (l : List ByteArray) : Ent := .row u l.length 1 (strsL l) 9
set_option maxRecDepth 100000 in
set_option maxHeartbeats 16000000 in
theorem panel_Changed {px py : ProdS} (hx : SmP px) (hy : SmP py) :
  Spec Tryz.prog 38 [avProd px, avProd py] (fun y => y = .tup [avStrs (chg1 px py), avStrs (chg2 px py), avStrs (chg3 px py), avI (chgF px py)]) := by
 refine Spec.of_VC Tryz.func38 rfl Tryz.ntmps38 (Nle rfl) fun w A hB => ?_
 have hnew : True := trivial
 refine VC.sr ?_
 refine VO.op rfl (OpE.box rfl hB rfl rfl rfl ?_)
 intro gx
 refine VO.op rfl (OpE.box rfl hB rfl rfl rfl ?_)
 intro gy
 refine VO.ma rfl rfl rfl rfl ?_
 refine VO.ma rfl rfl rfl rfl ?_
 refine VO.ma rfl rfl rfl rfl ?_
 refine VO.ma rfl rfl rfl rfl ?_
 refine VO.nil ?_
 refine VC.seq ?_
 refine VC.seq ?_
 have hlx := hx.len
 have hly := hy.len
 have hll2 : ([px, py] : List ProdS).length = 2 := rfl
 refine VC.region ?_
 refine VO.val rfl rfl (OpV.loadK_own (i := 0) rfl hB Tryz.isAgg65 Tryz.sizeOf65 rfl rfl rfl (fun h => h)) ?_
 refine VO.val rfl rfl (OpV.loadK_own (i := 1) rfl hB Tryz.isAgg65 Tryz.sizeOf65 rfl rfl rfl (fun h => h)) ?_
 refine VO.op rfl (OpE.buildSlice (zc := #[.string ⟨#[]⟩, .int .i64 0, .int .i64 0, .slice none 0 0, .string ⟨#[]⟩, .int .i64 0, .int .i64 0, .slice none 0 0]) rfl hB rfl Tryz.underlying150 Tryz.sizeOf65 Tryz.zeroValue65 (by decide) (by decide) (by kernel_rfl) rfl rfl ?_)
 refine VO.le _ (Le.recast (t := 21) (y := avL [px, py]) rfl (fun w Z u h => Rep.rowL (xs := [px, py]) rfl h)) ?_
 refine VO.val rfl rfl (OpV.len_im rfl Tryz.underlying150 rfl) ?_
 refine VO.mv rfl rfl rfl rfl ?_
 refine VO.nil ?_
 refine VC.block ?_
 refine VC.loopK [(2, _), (3, _), (21, _), (22, _)] ⟨rfl, rfl, rfl, rfl, trivial⟩ ({q : Nat // q ≤ 2 ∧ ∀ j, j < q → prodF ([px, py].getD j default) = 0}) (fun (iZ : {q : Nat // q ≤ 2 ∧ ∀ j, j < q → prodF ([px, py].getD j default) = 0}) => match iZ with | ⟨q, hq, hn⟩ => [(4, .v (.slice none 0 0)), (5, .v (.slice none 0 0)), (6, .v (.slice none 0 0)), (23, avI (q : Int))]) (fun (iZ : {q : Nat // q ≤ 2 ∧ ∀ j, j < q → prodF ([px, py].getD j default) = 0}) => match iZ with | ⟨q, hq, hn⟩ => [boxProd gx px 65, boxProd gy py 65]) (fun (iZ : {q : Nat // q ≤ 2 ∧ ∀ j, j < q → prodF ([px, py].getD j default) = 0}) => match iZ with | ⟨q, hq, hn⟩ => 0) (fun (iZ : {q : Nat // q ≤ 2 ∧ ∀ j, j < q → prodF ([px, py].getD j default) = 0}) => match iZ with | ⟨q, hq, hn⟩ => 2 - q) ⟨0, Nat.zero_le _, fun j hj => absurd hj (Nat.not_lt_zero j)⟩ (Le.mk hB [0, 1] ⟨rfl, rfl, rfl, rfl, rfl, rfl, rfl, rfl, trivial⟩ rfl rfl (Nat.le_refl _)) ?_
 rintro ⟨q, hq, hn⟩
 show VC _ _ _ _ ⟨[(4, .v (.slice none 0 0)), (5, .v (.slice none 0 0)), (6, .v (.slice none 0 0)), (23, avI (q : Int))] ++ [(2, _), (3, _), (21, _), (22, _)], [boxProd gx px 65, boxProd gy py 65], 0⟩
 refine VC.sr ?_
 refine VO.val rfl rfl (OpV.lss rfl rfl rfl) ?_
 refine VO.nil ?_
 refine VC.seq ?_
 refine VC.cond rfl (fun aH1b => ?_) (fun aH1b => ?_)
 ·have aH1 := aH1b
  try simp only [qqT, qqF, qqN, qqM, qqL, qqE] at aH1
  refine VC.skip ?_
  refine VC.seq ?_
  refine VC.block ?_
  refine VC.sr ?_
  refine VO.val rfl rfl (OpV.indexAddr_E rfl Tryz.underlying150 Tryz.sizeOf65 rfl rfl rfl (by omega)) ?_
  refine VO.val rfl rfl (OpV.loadK_at rfl hB OutW.no Tryz.isAgg65 Tryz.sizeOf65 rfl rfl) ?_
  refine VO.op rfl (OpE.alloc rfl hB rfl Tryz.zeroValue65 rfl ?_)
  intro g9
  refine VO.op rfl (OpE.store (i := 2) rfl hB rfl Tryz.sizeOf65 rfl rfl rfl rfl rfl rfl (Nle rfl) trivial ?_)
  refine VO.nil ?_
  refine VC.sr ?_
  refine VO.val rfl rfl (OpV.loadK_own (i := 2) rfl hB Tryz.isAgg65 Tryz.sizeOf65 rfl rfl rfl (fun h => h)) ?_
  refine VO.op rfl (OpE.call rfl hB rfl Tryz.call95 rfl (SpecN.spec (panel_CheckProduct (two_sm hx hy (show q < 2 by omega)))) ?_)
  rintro _ rfl
  refine VO.ma rfl rfl rfl rfl ?_
  refine VO.nil ?_
  refine VC.sr ?_
  refine VO.mv rfl rfl rfl rfl ?_
  refine VO.val rfl rfl (OpV.neq rfl rfl rfl) ?_
  refine VO.nil ?_
  refine VC.cond rfl (fun h1b => ?_) (fun h1b => ?_)
  ·have h1 := h1b
   try simp only [qqT, qqF, qqN, qqM, qqL, qqE] at h1
   refine VC.sr ?_
   refine VO.mv rfl rfl rfl rfl ?_
   refine VO.ma rfl rfl rfl rfl ?_
   refine VO.ma rfl rfl rfl rfl ?_
   refine VO.ma rfl rfl rfl rfl ?_
   refine VO.ma rfl rfl rfl rfl ?_
   refine VO.nil ?_
   refine VC.le _ (Le.recast (t := 4) (y := avStrs []) rfl (fun w Z u h => nilStrs h)) ?_
   refine VC.le _ (Le.recast (t := 5) (y := avStrs []) rfl (fun w Z u h => nilStrs h)) ?_
   refine VC.le _ (Le.recast (t := 6) (y := avStrs []) rfl (fun w Z u h => nilStrs h)) ?_
   refine VC.ret ?_
   exact Exists.intro _ (And.intro (RetV.four Tryz.results38 (ResV.tmp rfl) (ResV.tmp rfl) (ResV.tmp rfl) (ResV.tmp rfl)) (chg_out0 (by rw [chgF_at (by omega) hn h1]; exact h1) (chgF_at (by omega) hn h1)))
  ·have h1 := h1b
   try simp only [qqT, qqF, qqN, qqM, qqL, qqE] at h1
   refine VC.skip ?_
   refine VC.region ?_
   refine VO.val rfl rfl (OpV.add rfl rfl rfl (by unfold fits; omega)) ?_
   refine VO.mv rfl rfl rfl rfl ?_
   refine VO.nil ?_
   exact Exists.intro (⟨q + 1, by omega, lt_succ_cases hn (by omega)⟩) (And.intro (Le.mk hB [0, 1] ⟨rfl, rfl, rfl, rfl, rfl, rfl, rfl, rfl, trivial⟩ rfl rfl (Nat.le_refl _)) (by first | omega | (show _ < _; omega) | (simp only []; omega)))
 ·have aH1 := aH1b
  try simp only [qqT, qqF, qqN, qqM, qqL, qqE] at aH1
  obtain rfl : q = 2 := by omega
  obtain ⟨hpx, hpy⟩ := two_0 hn
  have hc0 : chgF px py = 0 := by rw [chgF_2 hpx]; exact hpy
  refine VC.exit ?_
  refine VC.seq ?_
  refine VC.sr ?_
  refine VO.val rfl rfl (OpV.fieldAddrO 3 rfl Tryz.underlying65 rfl rfl Tryz.sizeOf63 rfl) ?_
  refine VO.val rfl rfl (OpV.load_own (i := 0) rfl hB Tryz.isAgg63 rfl rfl rfl (fun h => h)) ?_
  refine VO.val rfl rfl (OpV.len_im rfl Tryz.underlying63 rfl) ?_
  refine VO.mv rfl rfl rfl rfl ?_
  refine VO.nil ?_
  refine VC.block ?_
  refine VC.le _ (Le.nilRow 1 9) ?_
  refine VC.le _ (Le.nilRow 1 9) ?_
  refine VC.loopK [(2, _), (3, _), (5, _), (34, _), (35, _)] ⟨rfl, rfl, rfl, rfl, rfl, trivial⟩ ({z : (Value × Value) × Nat // z.2 ≤ px.places.length}) (fun (iZ : {z : (Value × Value) × Nat // z.2 ≤ px.places.length}) => match iZ with | ⟨⟨⟨u, v⟩, q⟩, hq⟩ => [(4, .v u), (6, .v v), (36, avI (q : Int))]) (fun (iZ : {z : (Value × Value) × Nat // z.2 ≤ px.places.length}) => match iZ with | ⟨⟨⟨u, v⟩, q⟩, hq⟩ => [boxProd gx px 65, boxProd gy py 65, rwS u (selC (newC py) (px.places.take q)), rwS v (selC (othC py) (px.places.take q))]) (fun (iZ : {z : (Value × Value) × Nat // z.2 ≤ px.places.length}) => match iZ with | ⟨⟨⟨u, v⟩, q⟩, hq⟩ => 0) (fun (iZ : {z : (Value × Value) × Nat // z.2 ≤ px.places.length}) => match iZ with | ⟨⟨⟨u, v⟩, q⟩, hq⟩ => px.places.length - q) ⟨((.slice none 0 0, .slice none 0 0), 0), Nat.zero_le _⟩ (Le.mk hB [0, 1, 2, 3] ⟨rfl, rfl, rfl, rfl, rfl, rfl, rfl, rfl, trivial⟩ rfl rfl (Nat.le_refl _)) ?_
  rintro ⟨⟨⟨u, v⟩, q⟩, hq⟩
  show VC _ _ _ _ ⟨[(4, .v u), (6, .v v), (36, avI (q : Int))] ++ [(2, _), (3, _), (5, _), (34, _), (35, _)], [boxProd gx px 65, boxProd gy py 65, rwS u (selC (newC py) (px.places.take q)), rwS v (selC (othC py) (px.places.take q))], 0⟩
  simp only at hq
  have hl1 := selC_len (f := newC py) (l := px.places) (q := q)
  have hl2 := selC_len (f := othC py) (l := px.places) (q := q)
  refine VC.sr ?_
  refine VO.val rfl rfl (OpV.lss rfl rfl rfl) ?_
  refine VO.nil ?_
  refine VC.seq ?_
  refine VC.cond rfl (fun aH2b => ?_) (fun aH2b => ?_)
  ·have aH2 := aH2b
   try simp only [qqT, qqF, qqN, qqM, qqL, qqE] at aH2
   refine VC.skip ?_
   refine VC.seq ?_
   refine VC.block ?_
   refine VC.sr ?_
   refine VO.val rfl rfl (OpV.indexAddr_E rfl Tryz.underlying63 Tryz.sizeOf128 rfl rfl rfl (by omega)) ?_
   refine VO.val rfl rfl (OpV.loadK_at rfl hB OutW.no Tryz.isAgg128 Tryz.sizeOf128 rfl rfl) ?_
   refine VO.op rfl (OpE.alloc rfl hB rfl Tryz.zeroValue128 rfl ?_)
   intro g12
   refine VO.op rfl (OpE.store (i := 4) rfl hB rfl Tryz.sizeOf128 rfl rfl rfl rfl rfl rfl (Nle rfl) trivial ?_)
   refine VO.nil ?_
   refine VC.sr ?_
   refine VO.val rfl rfl (OpV.fieldAddrO 3 rfl Tryz.underlying65 rfl rfl Tryz.sizeOf63 rfl) ?_
   refine VO.val rfl rfl (OpV.load_own (i := 1) rfl hB Tryz.isAgg63 rfl rfl rfl (fun h => h)) ?_
   refine VO.val rfl rfl (OpV.fieldAddrO 0 rfl Tryz.underlying128 rfl rfl Tryz.sizeOf9 rfl) ?_
   refine VO.val rfl rfl (OpV.load_own (i := 4) rfl hB Tryz.isAgg9 rfl rfl rfl (fun h => h)) ?_
   refine VO.op rfl (OpE.call rfl hB rfl Tryz.call96 rfl (SpecN.spec (panel_placementAt (l := py.places) (k := (px.places.getD q default).name) (by omega) (places_rise hpy))) ?_)
   rintro _ rfl
   refine VO.le _ (Le.recast (t := 45) (y := .tup [avI (lowK PlaceS.name py.places (px.places.getD q default).name : Int), avB (hasN py (px.places.getD q default).name)]) rfl (fun w Z u h => h)) ?_
   refine VO.mv rfl rfl rfl rfl ?_
   refine VO.val rfl rfl (OpV.extract rfl rfl rfl) ?_
   refine VO.val rfl rfl (OpV.extract rfl rfl rfl) ?_
   refine VO.ma rfl rfl rfl rfl ?_
   refine VO.ma rfl rfl rfl rfl ?_
   refine VO.nil ?_
   refine VC.sr ?_
   refine VO.mv rfl rfl rfl rfl ?_
   refine VO.val rfl rfl (OpV.not rfl rfl) ?_
   refine VO.nil ?_
   refine VC.cond rfl (fun h3b => ?_) (fun h3b => ?_)
   ·have h3 := h3b
    try simp only [qqT, qqF, qqN, qqM, qqL, qqE] at h3
    have hh : hasN py (px.places.getD q default).name = false := by simp_all
    have hf1 := newC_y hh
    have ho0 := othC_0 hh
    refine VC.region ?_
    refine VO.mv rfl rfl rfl rfl ?_
    refine VO.val rfl rfl (OpV.fieldAddrO 0 rfl Tryz.underlying128 rfl rfl Tryz.sizeOf9 rfl) ?_
    refine VO.val rfl rfl (OpV.load_own (i := 4) rfl hB Tryz.isAgg9 rfl rfl rfl (fun h => h)) ?_
    refine VO.op rfl (OpE.buildSlice (zc := #[.string ⟨#[]⟩]) rfl hB rfl Tryz.underlying29 Tryz.sizeOf9 Tryz.zeroValue9 (by decide) (by decide) (by kernel_rfl) rfl rfl ?_)
    refine VO.op rfl (OpE.append1 (i := 2) rfl hB rfl Tryz.underlying29 (infoOf Tryz.t9 1 (by kernel_rfl) rfl rfl) rfl (by decide) (by decide) rfl rfl rfl rfl (strsL_snoc _ _) (by omega) (fun _ _ => trivial) ?_)
    intro u54
    refine VO.ma rfl rfl rfl rfl ?_
    refine VO.nil ?_
    refine VC.region ?_
    refine VO.val rfl rfl (OpV.add rfl rfl rfl (by unfold fits; omega)) ?_
    refine VO.mv rfl rfl rfl rfl ?_
    refine VO.nil ?_
    exact Exists.intro (⟨((u54, v), q + 1), by show q + 1 ≤ _; omega⟩) (And.intro (Le.mk hB [0, 1, 2, 3] ⟨rfl, rfl, rfl, rfl, rfl, rfl, rfl, rfl, trivial⟩ rfl (by dsimp only [rwS]; first | (rw [selC_y (by omega) hf1, selC_n (by omega) ho0, List.length_append]; rfl) | (rw [selC_n (by omega) hf0, selC_y (by omega) ho1, List.length_append]; rfl) | (rw [selC_n (by omega) hf0, selC_n (by omega) ho0]; rfl)) (Nat.le_refl _)) (by first | omega | (show _ < _; omega) | (simp only []; omega)))
   ·have h3 := h3b
    try simp only [qqT, qqF, qqN, qqM, qqL, qqE] at h3
    have hh : hasN py (px.places.getD q default).name = true := by simp_all
    have hf0 := newC_n hh
    obtain ⟨hb1, hb2⟩ := lowK_has hpy hh
    refine VC.seq ?_
    refine VC.draw (fun _ => NoB) hB (by kernel_rfl) ?_
    refine VA.take (i := 0) rfl (by kernel_rfl) (by kernel_rfl) (by kernel_rfl) rfl rfl (OpV.loadK_own (i := 4) rfl hB Tryz.isAgg128 Tryz.sizeOf128 rfl rfl rfl Wi.not0) ?_
    refine VA.take (i := 1) rfl (by kernel_rfl) (by kernel_rfl) (by kernel_rfl) rfl rfl (OpV.fieldAddrO 3 rfl Tryz.underlying65 rfl rfl Tryz.sizeOf63 rfl) ?_
    refine VA.take (i := 2) rfl (by kernel_rfl) (by kernel_rfl) (by kernel_rfl) rfl rfl (OpV.load_own (i := 1) rfl hB Tryz.isAgg63 rfl rfl rfl Wi.not0) ?_
    refine VA.take (i := 3) rfl (by kernel_rfl) (by kernel_rfl) (by kernel_rfl) rfl rfl (OpV.move (.inl rfl) rfl) ?_
    refine VA.take (i := 4) rfl (by kernel_rfl) (by kernel_rfl) (by kernel_rfl) rfl rfl (OpV.indexAddr_E rfl Tryz.underlying63 Tryz.sizeOf128 rfl rfl rfl (by omega)) ?_
    refine VA.take (i := 5) rfl (by kernel_rfl) (by kernel_rfl) (by kernel_rfl) rfl rfl (OpV.loadK_at rfl hB OutW.wi0 Tryz.isAgg128 Tryz.sizeOf128 rfl rfl) ?_
    refine VA.take (i := 6) rfl (by kernel_rfl) (by kernel_rfl) (by kernel_rfl) rfl rfl (OpV.aneq rfl Tryz.underlying128 (by kernel_rfl) (by kernel_rfl) rfl rfl (EqFs.str Tryz.underlying9 Tryz.isAgg9 rfl (by decide) (EqFs.str Tryz.underlying9 Tryz.isAgg9 rfl (by decide) (EqFs.int Tryz.underlying3 Tryz.isAgg3 rfl (by decide) (EqFs.int Tryz.underlying3 Tryz.isAgg3 rfl (by decide) (EqFs.int Tryz.underlying3 Tryz.isAgg3 rfl (by decide) (EqFs.nil _))))))) ?_
    refine VA.done (by kernel_rfl) ?_
    refine VC.cond rfl (fun h4b => ?_) (fun h4b => ?_)
    ·have h4 := h4b
     try simp only [qqT, qqF, qqN, qqM, qqL, qqE] at h4
     have ho1 : othC py (px.places.getD q default) = true := by rw [othC_1 hh hb2.symm]; exact h4b
     refine VC.region ?_
     refine VO.mv rfl rfl rfl rfl ?_
     refine VO.val rfl rfl (OpV.fieldAddrO 0 rfl Tryz.underlying128 rfl rfl Tryz.sizeOf9 rfl) ?_
     refine VO.val rfl rfl (OpV.load_own (i := 4) rfl hB Tryz.isAgg9 rfl rfl rfl (fun h => h)) ?_
     refine VO.op rfl (OpE.buildSlice (zc := #[.string ⟨#[]⟩]) rfl hB rfl Tryz.underlying29 Tryz.sizeOf9 Tryz.zeroValue9 (by decide) (by decide) (by kernel_rfl) rfl rfl ?_)
     refine VO.op rfl (OpE.append1 (i := 3) rfl hB rfl Tryz.underlying29 (infoOf Tryz.t9 1 (by kernel_rfl) rfl rfl) rfl (by decide) (by decide) rfl rfl rfl rfl (strsL_snoc _ _) (by omega) (fun _ _ => trivial) ?_)
     intro v66
     refine VO.ma rfl rfl rfl rfl ?_
     refine VO.nil ?_
     refine VC.region ?_
     refine VO.val rfl rfl (OpV.add rfl rfl rfl (by unfold fits; omega)) ?_
     refine VO.mv rfl rfl rfl rfl ?_
     refine VO.nil ?_
     exact Exists.intro (⟨((u, v66), q + 1), by show q + 1 ≤ _; omega⟩) (And.intro (Le.mk hB [0, 1, 2, 3] ⟨rfl, rfl, rfl, rfl, rfl, rfl, rfl, rfl, trivial⟩ rfl (by dsimp only [rwS]; first | (rw [selC_y (by omega) hf1, selC_n (by omega) ho0, List.length_append]; rfl) | (rw [selC_n (by omega) hf0, selC_y (by omega) ho1, List.length_append]; rfl) | (rw [selC_n (by omega) hf0, selC_n (by omega) ho0]; rfl)) (Nat.le_refl _)) (by first | omega | (show _ < _; omega) | (simp only []; omega)))
    ·have h4 := h4b
     try simp only [qqT, qqF, qqN, qqM, qqL, qqE] at h4
     have ho0 : othC py (px.places.getD q default) = false := by rw [othC_1 hh hb2.symm]; exact h4b
     refine VC.skip ?_
     refine VC.region ?_
     refine VO.val rfl rfl (OpV.add rfl rfl rfl (by unfold fits; omega)) ?_
     refine VO.mv rfl rfl rfl rfl ?_
     refine VO.nil ?_
     exact Exists.intro (⟨((u, v), q + 1), by show q + 1 ≤ _; omega⟩) (And.intro (Le.mk hB [0, 1, 2, 3] ⟨rfl, rfl, rfl, rfl, rfl, rfl, rfl, rfl, trivial⟩ rfl (by dsimp only [rwS]; first | (rw [selC_y (by omega) hf1, selC_n (by omega) ho0, List.length_append]; rfl) | (rw [selC_n (by omega) hf0, selC_y (by omega) ho1, List.length_append]; rfl) | (rw [selC_n (by omega) hf0, selC_n (by omega) ho0]; rfl)) (Nat.le_refl _)) (by first | omega | (show _ < _; omega) | (simp only []; omega)))
  ·have aH2 := aH2b
   try simp only [qqT, qqF, qqN, qqM, qqL, qqE] at aH2
   obtain rfl : q = px.places.length := by omega
   rw [List.take_length]
   refine VC.exit ?_
   refine VC.seq ?_
   refine VC.sr ?_
   refine VO.val rfl rfl (OpV.fieldAddrO 3 rfl Tryz.underlying65 rfl rfl Tryz.sizeOf63 rfl) ?_
   refine VO.val rfl rfl (OpV.load_own (i := 1) rfl hB Tryz.isAgg63 rfl rfl rfl (fun h => h)) ?_
   refine VO.val rfl rfl (OpV.len_im rfl Tryz.underlying63 rfl) ?_
   refine VO.mv rfl rfl rfl rfl ?_
   refine VO.nil ?_
   refine VC.block ?_
   refine VC.le _ (Le.nilRow 1 9) ?_
   refine VC.le _ (Le.pickH [0, 2, 3, 4] rfl rfl) ?_
   refine VC.loopK [(2, _), (4, _), (6, _), (69, _), (70, _)] ⟨rfl, rfl, rfl, rfl, rfl, trivial⟩ ({z : Value × Nat // z.2 ≤ py.places.length}) (fun (iZ : {z : Value × Nat // z.2 ≤ py.places.length}) => match iZ with | ⟨⟨u5, r⟩, hr⟩ => [(5, .v u5), (71, avI (r : Int))]) (fun (iZ : {z : Value × Nat // z.2 ≤ py.places.length}) => match iZ with | ⟨⟨u5, r⟩, hr⟩ => [boxProd gx px 65, rwS u (selC (newC py) px.places), rwS v (selC (othC py) px.places), rwS u5 (selC (newC px) (py.places.take r))]) (fun (iZ : {z : Value × Nat // z.2 ≤ py.places.length}) => match iZ with | ⟨⟨u5, r⟩, hr⟩ => 0) (fun (iZ : {z : Value × Nat // z.2 ≤ py.places.length}) => match iZ with | ⟨⟨u5, r⟩, hr⟩ => py.places.length - r) ⟨(.slice none 0 0, 0), Nat.zero_le _⟩ (Le.mk hB [0, 1, 2, 3] ⟨rfl, rfl, rfl, rfl, rfl, rfl, rfl, trivial⟩ rfl rfl (Nat.le_refl _)) ?_
   rintro ⟨⟨u5, r⟩, hr⟩
   show VC _ _ _ _ ⟨[(5, .v u5), (71, avI (r : Int))] ++ [(2, _), (4, _), (6, _), (69, _), (70, _)], [boxProd gx px 65, rwS u (selC (newC py) px.places), rwS v (selC (othC py) px.places), rwS u5 (selC (newC px) (py.places.take r))], 0⟩
   simp only at hr
   have hl3 := selC_len (f := newC px) (l := py.places) (q := r)
   refine VC.sr ?_
   refine VO.val rfl rfl (OpV.lss rfl rfl rfl) ?_
   refine VO.nil ?_
   refine VC.seq ?_
   refine VC.cond rfl (fun aH3b => ?_) (fun aH3b => ?_)
   ·have aH3 := aH3b
    try simp only [qqT, qqF, qqN, qqM, qqL, qqE] at aH3
    refine VC.skip ?_
    refine VC.seq ?_
    refine VC.block ?_
    refine VC.sr ?_
    refine VO.val rfl rfl (OpV.indexAddr_E rfl Tryz.underlying63 Tryz.sizeOf128 rfl rfl rfl (by omega)) ?_
    refine VO.val rfl rfl (OpV.loadK_at rfl hB OutW.no Tryz.isAgg128 Tryz.sizeOf128 rfl rfl) ?_
    refine VO.op rfl (OpE.alloc rfl hB rfl Tryz.zeroValue128 rfl ?_)
    intro g16
    refine VO.op rfl (OpE.store (i := 4) rfl hB rfl Tryz.sizeOf128 rfl rfl rfl rfl rfl rfl (Nle rfl) trivial ?_)
    refine VO.nil ?_
    refine VC.sr ?_
    refine VO.val rfl rfl (OpV.fieldAddrO 3 rfl Tryz.underlying65 rfl rfl Tryz.sizeOf63 rfl) ?_
    refine VO.val rfl rfl (OpV.load_own (i := 0) rfl hB Tryz.isAgg63 rfl rfl rfl (fun h => h)) ?_
    refine VO.val rfl rfl (OpV.fieldAddrO 0 rfl Tryz.underlying128 rfl rfl Tryz.sizeOf9 rfl) ?_
    refine VO.val rfl rfl (OpV.load_own (i := 4) rfl hB Tryz.isAgg9 rfl rfl rfl (fun h => h)) ?_
    refine VO.op rfl (OpE.call rfl hB rfl Tryz.call96 rfl (SpecN.spec (panel_placementAt (l := px.places) (k := (py.places.getD r default).name) (by omega) (places_rise hpx))) ?_)
    rintro _ rfl
    refine VO.le _ (Le.recast (t := 80) (y := .tup [avI (lowK PlaceS.name px.places (py.places.getD r default).name : Int), avB (hasN px (py.places.getD r default).name)]) rfl (fun w Z u h => h)) ?_
    refine VO.mv rfl rfl rfl rfl ?_
    refine VO.val rfl rfl (OpV.extract rfl rfl rfl) ?_
    refine VO.val rfl rfl (OpV.extract rfl rfl rfl) ?_
    refine VO.ma rfl rfl rfl rfl ?_
    refine VO.ma rfl rfl rfl rfl ?_
    refine VO.nil ?_
    refine VC.sr ?_
    refine VO.mv rfl rfl rfl rfl ?_
    refine VO.val rfl rfl (OpV.not rfl rfl) ?_
    refine VO.nil ?_
    refine VC.cond rfl (fun h6b => ?_) (fun h6b => ?_)
    ·have h6 := h6b
     try simp only [qqT, qqF, qqN, qqM, qqL, qqE] at h6
     have hh : hasN px (py.places.getD r default).name = false := by simp_all
     have hf1 := newC_y hh
     refine VC.region ?_
     refine VO.mv rfl rfl rfl rfl ?_
     refine VO.val rfl rfl (OpV.fieldAddrO 0 rfl Tryz.underlying128 rfl rfl Tryz.sizeOf9 rfl) ?_
     refine VO.val rfl rfl (OpV.load_own (i := 4) rfl hB Tryz.isAgg9 rfl rfl rfl (fun h => h)) ?_
     refine VO.op rfl (OpE.buildSlice (zc := #[.string ⟨#[]⟩]) rfl hB rfl Tryz.underlying29 Tryz.sizeOf9 Tryz.zeroValue9 (by decide) (by decide) (by kernel_rfl) rfl rfl ?_)
     refine VO.op rfl (OpE.append1 (i := 3) rfl hB rfl Tryz.underlying29 (infoOf Tryz.t9 1 (by kernel_rfl) rfl rfl) rfl (by decide) (by decide) rfl rfl rfl rfl (strsL_snoc _ _) (by omega) (fun _ _ => trivial) ?_)
     intro u89
     refine VO.ma rfl rfl rfl rfl ?_
     refine VO.nil ?_
     refine VC.region ?_
     refine VO.val rfl rfl (OpV.add rfl rfl rfl (by unfold fits; omega)) ?_
     refine VO.mv rfl rfl rfl rfl ?_
     refine VO.nil ?_
     exact Exists.intro (⟨(u89, r + 1), by show r + 1 ≤ _; omega⟩) (And.intro (Le.mk hB [0, 1, 2, 3] ⟨rfl, rfl, rfl, rfl, rfl, rfl, rfl, trivial⟩ rfl (by dsimp only [rwS]; first | (rw [selC_y (by omega) hf1, List.length_append]; rfl) | (rw [selC_n (by omega) hf0]; rfl)) (Nat.le_refl _)) (by first | omega | (show _ < _; omega) | (simp only []; omega)))
    ·have h6 := h6b
     try simp only [qqT, qqF, qqN, qqM, qqL, qqE] at h6
     have hh : hasN px (py.places.getD r default).name = true := by simp_all
     have hf0 := newC_n hh
     refine VC.skip ?_
     refine VC.region ?_
     refine VO.val rfl rfl (OpV.add rfl rfl rfl (by unfold fits; omega)) ?_
     refine VO.mv rfl rfl rfl rfl ?_
     refine VO.nil ?_
     exact Exists.intro (⟨(u5, r + 1), by show r + 1 ≤ _; omega⟩) (And.intro (Le.mk hB [0, 1, 2, 3] ⟨rfl, rfl, rfl, rfl, rfl, rfl, rfl, trivial⟩ rfl (by dsimp only [rwS]; first | (rw [selC_y (by omega) hf1, List.length_append]; rfl) | (rw [selC_n (by omega) hf0]; rfl)) (Nat.le_refl _)) (by first | omega | (show _ < _; omega) | (simp only []; omega)))
   ·have aH3 := aH3b
    try simp only [qqT, qqF, qqN, qqM, qqL, qqE] at aH3
    obtain rfl : r = py.places.length := by omega
    rw [List.take_length]
    refine VC.exit ?_
    refine VC.sr ?_
    refine VO.mv rfl rfl rfl rfl ?_
    refine VO.mv rfl rfl rfl rfl ?_
    refine VO.mv rfl rfl rfl rfl ?_
    refine VO.ma rfl rfl rfl rfl ?_
    refine VO.ma rfl rfl rfl rfl ?_
    refine VO.ma rfl rfl rfl rfl ?_
    refine VO.ma rfl rfl rfl rfl ?_
    refine VO.nil ?_
    refine VC.le _ (Le.rowS (t := 4) (i := 1) (xs := selC (newC py) px.places) hB hnew rfl rfl rfl) ?_
    refine VC.le _ (Le.rowS (t := 5) (i := 2) (xs := selC (newC px) py.places) hB hnew rfl rfl rfl) ?_
    refine VC.le _ (Le.rowS (t := 6) (i := 1) (xs := selC (othC py) px.places) hB hnew rfl rfl rfl) ?_
    refine VC.ret ?_
    exact Exists.intro _ (And.intro (RetV.four Tryz.results38 (ResV.tmp rfl) (ResV.tmp rfl) (ResV.tmp rfl) (ResV.tmp rfl)) (chg_out1 hc0))
end Go.Proofs.YtbbgjeiefmiblaaGreatDoor
namespace Go.Proofs.YtbbgjeiefmiblaaGreatDoor
open Go.RowKit
set_option linter.unusedVariables false
set_option linter.unusedSimpArgs false
set_option maxRecDepth 100000 in
set_option maxHeartbeats 16000000 in
theorem rf_ChangedPlacements {px py : ProdS} (hlx : px.places.length ≤ 1000000) (hly : py.places.length ≤ 1000000) :
  Spec Tryz.prog 42 [avProd px, avProd py] (fun y => y = .tup [avStrs (selC (newC py) px.places), avStrs (selC (newC px) py.places), avStrs (selC (othC py) px.places)]) := by
 refine Spec.of_VC Tryz.func42 rfl Tryz.ntmps42 (Nle rfl) fun w A hB => ?_
 have hnew : True := trivial
 refine VC.sr ?_
 refine VO.op rfl (OpE.box rfl hB rfl rfl rfl ?_)
 intro gx
 refine VO.op rfl (OpE.box rfl hB rfl rfl rfl ?_)
 intro gy
 refine VO.ma rfl rfl rfl rfl ?_
 refine VO.ma rfl rfl rfl rfl ?_
 refine VO.ma rfl rfl rfl rfl ?_
 refine VO.nil ?_
 refine VC.sr ?_
 refine VO.ma rfl rfl rfl rfl ?_
 refine VO.ma rfl rfl rfl rfl ?_
 refine VO.ma rfl rfl rfl rfl ?_
 refine VO.nil ?_
 refine VC.seq ?_
 refine VC.sr ?_
 refine VO.val rfl rfl (OpV.fieldAddrO 3 rfl Tryz.underlying65 rfl rfl Tryz.sizeOf63 rfl) ?_
 refine VO.val rfl rfl (OpV.load_own (i := 0) rfl hB Tryz.isAgg63 rfl rfl rfl (fun h => h)) ?_
 refine VO.val rfl rfl (OpV.len_im rfl Tryz.underlying63 rfl) ?_
 refine VO.mv rfl rfl rfl rfl ?_
 refine VO.nil ?_
 refine VC.block ?_
 refine VC.le _ (Le.nilRow 1 9) ?_
 refine VC.le _ (Le.nilRow 1 9) ?_
 refine VC.loopK [(2, _), (3, _), (8, _), (19, _), (20, _)] ⟨rfl, rfl, rfl, rfl, rfl, trivial⟩ ({z : (Value × Value) × Nat // z.2 ≤ px.places.length}) (fun (iZ : {z : (Value × Value) × Nat // z.2 ≤ px.places.length}) => match iZ with | ⟨⟨⟨u, v⟩, q⟩, hq⟩ => [(7, .v u), (9, .v v), (21, avI (q : Int))]) (fun (iZ : {z : (Value × Value) × Nat // z.2 ≤ px.places.length}) => match iZ with | ⟨⟨⟨u, v⟩, q⟩, hq⟩ => [boxProd gx px 65, boxProd gy py 65, rwS u (selC (newC py) (px.places.take q)), rwS v (selC (othC py) (px.places.take q))]) (fun (iZ : {z : (Value × Value) × Nat // z.2 ≤ px.places.length}) => match iZ with | ⟨⟨⟨u, v⟩, q⟩, hq⟩ => 0) (fun (iZ : {z : (Value × Value) × Nat // z.2 ≤ px.places.length}) => match iZ with | ⟨⟨⟨u, v⟩, q⟩, hq⟩ => px.places.length - q) ⟨((.slice none 0 0, .slice none 0 0), 0), Nat.zero_le _⟩ (Le.mk hB [0, 1, 2, 3] ⟨rfl, rfl, rfl, rfl, rfl, rfl, rfl, rfl, trivial⟩ rfl rfl (Nat.le_refl _)) ?_
 rintro ⟨⟨⟨u, v⟩, q⟩, hq⟩
 show VC _ _ _ _ ⟨[(7, .v u), (9, .v v), (21, avI (q : Int))] ++ [(2, _), (3, _), (8, _), (19, _), (20, _)], [boxProd gx px 65, boxProd gy py 65, rwS u (selC (newC py) (px.places.take q)), rwS v (selC (othC py) (px.places.take q))], 0⟩
 simp only at hq
 have hl1 := selC_len (f := newC py) (l := px.places) (q := q)
 have hl2 := selC_len (f := othC py) (l := px.places) (q := q)
 refine VC.sr ?_
 refine VO.val rfl rfl (OpV.lss rfl rfl rfl) ?_
 refine VO.nil ?_
 refine VC.seq ?_
 refine VC.cond rfl (fun aH1b => ?_) (fun aH1b => ?_)
 ·have aH1 := aH1b
  try simp only [qqT, qqF, qqN, qqM, qqL, qqE] at aH1
  refine VC.skip ?_
  refine VC.seq ?_
  refine VC.block ?_
  refine VC.sr ?_
  refine VO.val rfl rfl (OpV.indexAddr_E rfl Tryz.underlying63 Tryz.sizeOf128 rfl rfl rfl (by omega)) ?_
  refine VO.val rfl rfl (OpV.loadK_at rfl hB OutW.no Tryz.isAgg128 Tryz.sizeOf128 rfl rfl) ?_
  refine VO.op rfl (OpE.alloc rfl hB rfl Tryz.zeroValue128 rfl ?_)
  intro g11
  refine VO.op rfl (OpE.store (i := 4) rfl hB rfl Tryz.sizeOf128 rfl rfl rfl rfl rfl rfl (Nle rfl) trivial ?_)
  refine VO.nil ?_
  refine VC.sr ?_
  refine VO.val rfl rfl (OpV.loadK_own (i := 1) rfl hB Tryz.isAgg65 Tryz.sizeOf65 rfl rfl rfl (fun h => h)) ?_
  refine VO.val rfl rfl (OpV.fieldAddrO 0 rfl Tryz.underlying128 rfl rfl Tryz.sizeOf9 rfl) ?_
  refine VO.val rfl rfl (OpV.load_own (i := 4) rfl hB Tryz.isAgg9 rfl rfl rfl (fun h => h)) ?_
  refine VO.op rfl (OpE.call rfl hB rfl Tryz.call99 rfl (SpecN.spec (rf_PlacementAt (p := py) (k := (px.places.getD q default).name) hly)) ?_)
  rintro _ rfl
  refine VO.mv rfl rfl rfl rfl ?_
  refine VO.val rfl rfl (OpV.extract rfl rfl rfl) ?_
  refine VO.val rfl rfl (OpV.extract rfl rfl rfl) ?_
  refine VO.op rfl (OpE.alloc rfl hB rfl Tryz.zeroValue128 rfl ?_)
  intro g12
  refine VO.op rfl (OpE.store (i := 5) rfl hB rfl Tryz.sizeOf128 rfl rfl rfl rfl rfl rfl (Nle rfl) trivial ?_)
  refine VO.ma rfl rfl rfl rfl ?_
  refine VO.nil ?_
  refine VC.block ?_
  refine VC.sr ?_
  refine VO.mv rfl rfl rfl rfl ?_
  refine VO.val rfl rfl (OpV.not rfl rfl) ?_
  refine VO.ma rfl rfl rfl rfl ?_
  refine VO.nil ?_
  refine VC.cond rfl (fun h1b => ?_) (fun h1b => ?_)
  ·have h1 := h1b
   try simp only [qqT, qqF, qqN, qqM, qqL, qqE] at h1
   have hh : hasN py (px.places.getD q default).name = false := by simp_all
   have hf1 := newC_y hh
   have ho0 := othC_0 hh
   refine VC.region ?_
   refine VO.mv rfl rfl rfl rfl ?_
   refine VO.val rfl rfl (OpV.fieldAddrO 0 rfl Tryz.underlying128 rfl rfl Tryz.sizeOf9 rfl) ?_
   refine VO.val rfl rfl (OpV.load_own (i := 4) rfl hB Tryz.isAgg9 rfl rfl rfl (fun h => h)) ?_
   refine VO.op rfl (OpE.buildSlice (zc := #[.string ⟨#[]⟩]) rfl hB rfl Tryz.underlying29 Tryz.sizeOf9 Tryz.zeroValue9 (by decide) (by decide) (by kernel_rfl) rfl rfl ?_)
   refine VO.op rfl (OpE.append1 (i := 2) rfl hB rfl Tryz.underlying29 (infoOf Tryz.t9 1 (by kernel_rfl) rfl rfl) rfl (by decide) (by decide) rfl rfl rfl rfl (strsL_snoc _ _) (by omega) (fun _ _ => trivial) ?_)
   intro u39
   refine VO.ma rfl rfl rfl rfl ?_
   refine VO.nil ?_
   refine VC.region ?_
   refine VO.val rfl rfl (OpV.add rfl rfl rfl (by unfold fits; omega)) ?_
   refine VO.mv rfl rfl rfl rfl ?_
   refine VO.nil ?_
   exact Exists.intro (⟨((u39, v), q + 1), by show q + 1 ≤ _; omega⟩) (And.intro (Le.mk hB [0, 1, 2, 3] ⟨rfl, rfl, rfl, rfl, rfl, rfl, rfl, rfl, trivial⟩ rfl (by dsimp only [rwS]; first | (rw [selC_y (by omega) hf1, selC_n (by omega) ho0, List.length_append]; rfl) | (rw [selC_n (by omega) hf0, selC_y (by omega) ho1, List.length_append]; rfl) | (rw [selC_n (by omega) hf0, selC_n (by omega) ho0]; rfl)) (Nat.le_refl _)) (by first | omega | (show _ < _; omega) | (simp only []; omega)))
  ·have h1 := h1b
   try simp only [qqT, qqF, qqN, qqM, qqL, qqE] at h1
   have hh : hasN py (px.places.getD q default).name = true := by simp_all
   have hf0 := newC_n hh
   refine VC.sr ?_
   refine VO.val rfl rfl (OpV.loadK_own (i := 4) rfl hB Tryz.isAgg128 Tryz.sizeOf128 rfl rfl rfl (fun h => h)) ?_
   refine VO.val rfl rfl (OpV.loadK_own (i := 5) rfl hB Tryz.isAgg128 Tryz.sizeOf128 rfl rfl rfl (fun h => h)) ?_
   refine VO.val rfl rfl (OpV.aneq rfl Tryz.underlying128 (by kernel_rfl) (by kernel_rfl) rfl rfl (EqFs.str Tryz.underlying9 Tryz.isAgg9 rfl (by decide) (EqFs.str Tryz.underlying9 Tryz.isAgg9 rfl (by decide) (EqFs.int Tryz.underlying3 Tryz.isAgg3 rfl (by decide) (EqFs.int Tryz.underlying3 Tryz.isAgg3 rfl (by decide) (EqFs.int Tryz.underlying3 Tryz.isAgg3 rfl (by decide) (EqFs.nil _))))))) ?_
   refine VO.ma rfl rfl rfl rfl ?_
   refine VO.nil ?_
   refine VC.cond rfl (fun h2b => ?_) (fun h2b => ?_)
   ·have h2 := h2b
    try simp only [qqT, qqF, qqN, qqM, qqL, qqE] at h2
    have ho1 : othC py (px.places.getD q default) = true := by rw [othC_1 hh rfl]; exact h2b
    refine VC.region ?_
    refine VO.mv rfl rfl rfl rfl ?_
    refine VO.val rfl rfl (OpV.fieldAddrO 0 rfl Tryz.underlying128 rfl rfl Tryz.sizeOf9 rfl) ?_
    refine VO.val rfl rfl (OpV.load_own (i := 4) rfl hB Tryz.isAgg9 rfl rfl rfl (fun h => h)) ?_
    refine VO.op rfl (OpE.buildSlice (zc := #[.string ⟨#[]⟩]) rfl hB rfl Tryz.underlying29 Tryz.sizeOf9 Tryz.zeroValue9 (by decide) (by decide) (by kernel_rfl) rfl rfl ?_)
    refine VO.op rfl (OpE.append1 (i := 3) rfl hB rfl Tryz.underlying29 (infoOf Tryz.t9 1 (by kernel_rfl) rfl rfl) rfl (by decide) (by decide) rfl rfl rfl rfl (strsL_snoc _ _) (by omega) (fun _ _ => trivial) ?_)
    intro v48
    refine VO.ma rfl rfl rfl rfl ?_
    refine VO.nil ?_
    refine VC.region ?_
    refine VO.val rfl rfl (OpV.add rfl rfl rfl (by unfold fits; omega)) ?_
    refine VO.mv rfl rfl rfl rfl ?_
    refine VO.nil ?_
    exact Exists.intro (⟨((u, v48), q + 1), by show q + 1 ≤ _; omega⟩) (And.intro (Le.mk hB [0, 1, 2, 3] ⟨rfl, rfl, rfl, rfl, rfl, rfl, rfl, rfl, trivial⟩ rfl (by dsimp only [rwS]; first | (rw [selC_y (by omega) hf1, selC_n (by omega) ho0, List.length_append]; rfl) | (rw [selC_n (by omega) hf0, selC_y (by omega) ho1, List.length_append]; rfl) | (rw [selC_n (by omega) hf0, selC_n (by omega) ho0]; rfl)) (Nat.le_refl _)) (by first | omega | (show _ < _; omega) | (simp only []; omega)))
   ·have h2 := h2b
    try simp only [qqT, qqF, qqN, qqM, qqL, qqE] at h2
    have ho0 : othC py (px.places.getD q default) = false := by rw [othC_1 hh rfl]; exact h2b
    refine VC.skip ?_
    refine VC.region ?_
    refine VO.val rfl rfl (OpV.add rfl rfl rfl (by unfold fits; omega)) ?_
    refine VO.mv rfl rfl rfl rfl ?_
    refine VO.nil ?_
    exact Exists.intro (⟨((u, v), q + 1), by show q + 1 ≤ _; omega⟩) (And.intro (Le.mk hB [0, 1, 2, 3] ⟨rfl, rfl, rfl, rfl, rfl, rfl, rfl, rfl, trivial⟩ rfl (by dsimp only [rwS]; first | (rw [selC_y (by omega) hf1, selC_n (by omega) ho0, List.length_append]; rfl) | (rw [selC_n (by omega) hf0, selC_y (by omega) ho1, List.length_append]; rfl) | (rw [selC_n (by omega) hf0, selC_n (by omega) ho0]; rfl)) (Nat.le_refl _)) (by first | omega | (show _ < _; omega) | (simp only []; omega)))
 ·have aH1 := aH1b
  try simp only [qqT, qqF, qqN, qqM, qqL, qqE] at aH1
  obtain rfl : q = px.places.length := by omega
  rw [List.take_length]
  refine VC.exit ?_
  refine VC.seq ?_
  refine VC.sr ?_
  refine VO.val rfl rfl (OpV.fieldAddrO 3 rfl Tryz.underlying65 rfl rfl Tryz.sizeOf63 rfl) ?_
  refine VO.val rfl rfl (OpV.load_own (i := 1) rfl hB Tryz.isAgg63 rfl rfl rfl (fun h => h)) ?_
  refine VO.val rfl rfl (OpV.len_im rfl Tryz.underlying63 rfl) ?_
  refine VO.mv rfl rfl rfl rfl ?_
  refine VO.nil ?_
  refine VC.block ?_
  refine VC.le _ (Le.nilRow 1 9) ?_
  refine VC.le _ (Le.pickH [0, 2, 3, 4] rfl rfl) ?_
  refine VC.loopK [(2, _), (7, _), (9, _), (51, _), (52, _)] ⟨rfl, rfl, rfl, rfl, rfl, trivial⟩ ({z : Value × Nat // z.2 ≤ py.places.length}) (fun (iZ : {z : Value × Nat // z.2 ≤ py.places.length}) => match iZ with | ⟨⟨u5, r⟩, hr⟩ => [(8, .v u5), (53, avI (r : Int))]) (fun (iZ : {z : Value × Nat // z.2 ≤ py.places.length}) => match iZ with | ⟨⟨u5, r⟩, hr⟩ => [boxProd gx px 65, rwS u (selC (newC py) px.places), rwS v (selC (othC py) px.places), rwS u5 (selC (newC px) (py.places.take r))]) (fun (iZ : {z : Value × Nat // z.2 ≤ py.places.length}) => match iZ with | ⟨⟨u5, r⟩, hr⟩ => 0) (fun (iZ : {z : Value × Nat // z.2 ≤ py.places.length}) => match iZ with | ⟨⟨u5, r⟩, hr⟩ => py.places.length - r) ⟨(.slice none 0 0, 0), Nat.zero_le _⟩ (Le.mk hB [0, 1, 2, 3] ⟨rfl, rfl, rfl, rfl, rfl, rfl, rfl, trivial⟩ rfl rfl (Nat.le_refl _)) ?_
  rintro ⟨⟨u5, r⟩, hr⟩
  show VC _ _ _ _ ⟨[(8, .v u5), (53, avI (r : Int))] ++ [(2, _), (7, _), (9, _), (51, _), (52, _)], [boxProd gx px 65, rwS u (selC (newC py) px.places), rwS v (selC (othC py) px.places), rwS u5 (selC (newC px) (py.places.take r))], 0⟩
  simp only at hr
  have hl3 := selC_len (f := newC px) (l := py.places) (q := r)
  refine VC.sr ?_
  refine VO.val rfl rfl (OpV.lss rfl rfl rfl) ?_
  refine VO.nil ?_
  refine VC.seq ?_
  refine VC.cond rfl (fun aH2b => ?_) (fun aH2b => ?_)
  ·have aH2 := aH2b
   try simp only [qqT, qqF, qqN, qqM, qqL, qqE] at aH2
   refine VC.skip ?_
   refine VC.seq ?_
   refine VC.block ?_
   refine VC.sr ?_
   refine VO.val rfl rfl (OpV.indexAddr_E rfl Tryz.underlying63 Tryz.sizeOf128 rfl rfl rfl (by omega)) ?_
   refine VO.val rfl rfl (OpV.loadK_at rfl hB OutW.no Tryz.isAgg128 Tryz.sizeOf128 rfl rfl) ?_
   refine VO.op rfl (OpE.alloc rfl hB rfl Tryz.zeroValue128 rfl ?_)
   intro g15
   refine VO.op rfl (OpE.store (i := 4) rfl hB rfl Tryz.sizeOf128 rfl rfl rfl rfl rfl rfl (Nle rfl) trivial ?_)
   refine VO.nil ?_
   refine VC.sr ?_
   refine VO.val rfl rfl (OpV.loadK_own (i := 0) rfl hB Tryz.isAgg65 Tryz.sizeOf65 rfl rfl rfl (fun h => h)) ?_
   refine VO.val rfl rfl (OpV.fieldAddrO 0 rfl Tryz.underlying128 rfl rfl Tryz.sizeOf9 rfl) ?_
   refine VO.val rfl rfl (OpV.load_own (i := 4) rfl hB Tryz.isAgg9 rfl rfl rfl (fun h => h)) ?_
   refine VO.op rfl (OpE.call rfl hB rfl Tryz.call99 rfl (SpecN.spec (rf_PlacementAt (p := px) (k := (py.places.getD r default).name) hlx)) ?_)
   rintro _ rfl
   refine VO.mv rfl rfl rfl rfl ?_
   refine VO.val rfl rfl (OpV.extract rfl rfl rfl) ?_
   refine VO.val rfl rfl (OpV.extract rfl rfl rfl) ?_
   refine VO.op rfl (OpE.alloc rfl hB rfl Tryz.zeroValue128 rfl ?_)
   intro g16
   refine VO.op rfl (OpE.store (i := 5) rfl hB rfl Tryz.sizeOf128 rfl rfl rfl rfl rfl rfl (Nle rfl) trivial ?_)
   refine VO.ma rfl rfl rfl rfl ?_
   refine VO.nil ?_
   refine VC.sr ?_
   refine VO.mv rfl rfl rfl rfl ?_
   refine VO.val rfl rfl (OpV.not rfl rfl) ?_
   refine VO.nil ?_
   refine VC.cond rfl (fun h4b => ?_) (fun h4b => ?_)
   ·have h4 := h4b
    try simp only [qqT, qqF, qqN, qqM, qqL, qqE] at h4
    have hh : hasN px (py.places.getD r default).name = false := by simp_all
    have hf1 := newC_y hh
    refine VC.region ?_
    refine VO.mv rfl rfl rfl rfl ?_
    refine VO.val rfl rfl (OpV.fieldAddrO 0 rfl Tryz.underlying128 rfl rfl Tryz.sizeOf9 rfl) ?_
    refine VO.val rfl rfl (OpV.load_own (i := 4) rfl hB Tryz.isAgg9 rfl rfl rfl (fun h => h)) ?_
    refine VO.op rfl (OpE.buildSlice (zc := #[.string ⟨#[]⟩]) rfl hB rfl Tryz.underlying29 Tryz.sizeOf9 Tryz.zeroValue9 (by decide) (by decide) (by kernel_rfl) rfl rfl ?_)
    refine VO.op rfl (OpE.append1 (i := 3) rfl hB rfl Tryz.underlying29 (infoOf Tryz.t9 1 (by kernel_rfl) rfl rfl) rfl (by decide) (by decide) rfl rfl rfl rfl (strsL_snoc _ _) (by omega) (fun _ _ => trivial) ?_)
    intro u70
    refine VO.ma rfl rfl rfl rfl ?_
    refine VO.nil ?_
    refine VC.region ?_
    refine VO.val rfl rfl (OpV.add rfl rfl rfl (by unfold fits; omega)) ?_
    refine VO.mv rfl rfl rfl rfl ?_
    refine VO.nil ?_
    exact Exists.intro (⟨(u70, r + 1), by show r + 1 ≤ _; omega⟩) (And.intro (Le.mk hB [0, 1, 2, 3] ⟨rfl, rfl, rfl, rfl, rfl, rfl, rfl, trivial⟩ rfl (by dsimp only [rwS]; first | (rw [selC_y (by omega) hf1, List.length_append]; rfl) | (rw [selC_n (by omega) hf0]; rfl)) (Nat.le_refl _)) (by first | omega | (show _ < _; omega) | (simp only []; omega)))
   ·have h4 := h4b
    try simp only [qqT, qqF, qqN, qqM, qqL, qqE] at h4
    have hh : hasN px (py.places.getD r default).name = true := by simp_all
    have hf0 := newC_n hh
    refine VC.skip ?_
    refine VC.region ?_
    refine VO.val rfl rfl (OpV.add rfl rfl rfl (by unfold fits; omega)) ?_
    refine VO.mv rfl rfl rfl rfl ?_
    refine VO.nil ?_
    exact Exists.intro (⟨(u5, r + 1), by show r + 1 ≤ _; omega⟩) (And.intro (Le.mk hB [0, 1, 2, 3] ⟨rfl, rfl, rfl, rfl, rfl, rfl, rfl, trivial⟩ rfl (by dsimp only [rwS]; first | (rw [selC_y (by omega) hf1, List.length_append]; rfl) | (rw [selC_n (by omega) hf0]; rfl)) (Nat.le_refl _)) (by first | omega | (show _ < _; omega) | (simp only []; omega)))
  ·have aH2 := aH2b
   try simp only [qqT, qqF, qqN, qqM, qqL, qqE] at aH2
   obtain rfl : r = py.places.length := by omega
   rw [List.take_length]
   refine VC.exit ?_
   refine VC.sr ?_
   refine VO.mv rfl rfl rfl rfl ?_
   refine VO.mv rfl rfl rfl rfl ?_
   refine VO.mv rfl rfl rfl rfl ?_
   refine VO.ma rfl rfl rfl rfl ?_
   refine VO.ma rfl rfl rfl rfl ?_
   refine VO.ma rfl rfl rfl rfl ?_
   refine VO.nil ?_
   refine VC.le _ (Le.rowS (t := 4) (i := 1) (xs := selC (newC py) px.places) hB hnew rfl rfl rfl) ?_
   refine VC.le _ (Le.rowS (t := 5) (i := 2) (xs := selC (newC px) py.places) hB hnew rfl rfl rfl) ?_
   refine VC.le _ (Le.rowS (t := 6) (i := 1) (xs := selC (othC py) px.places) hB hnew rfl rfl rfl) ?_
   refine VC.ret ?_
   exact Exists.intro _ (And.intro (RetV.three Tryz.results42 (ResV.tmp rfl) (ResV.tmp rfl) (ResV.tmp rfl)) (rfl))
set_option maxRecDepth 100000 in
theorem slices_Equal_place {xs ys : List PlaceS} (hl : xs.length ≤ 1000000000) (hl' : ys.length ≤ 1000000000) :
  SpecN Tryz.prog 105 [avL xs, avL ys] (fun y => y = avB (eqLs eqPl xs ys)) := by
 refine SpecN.of_VCN Tryz.func105 rfl Tryz.ntmps105 (Nle rfl) fun w A hB => ?_
 have hnew : True := trivial
 refine VC.sr ?_
 refine VO.ma rfl rfl rfl rfl ?_
 refine VO.nil ?_
 refine VC.seq ?_
 refine VC.sr ?_
 refine VO.mv rfl rfl rfl rfl ?_
 refine VO.val rfl rfl (OpV.len_im rfl Tryz.underlying63 rfl) ?_
 refine VO.mv rfl rfl rfl rfl ?_
 refine VO.val rfl rfl (OpV.len_im rfl Tryz.underlying63 rfl) ?_
 refine VO.val rfl rfl (OpV.neq rfl rfl rfl) ?_
 refine VO.nil ?_
 refine VC.cond rfl (fun aH1b => ?_) (fun aH1b => ?_)
 ·have aH1 := aH1b
  try simp only [qqT, qqF, qqN, qqM, qqL, qqE] at aH1
  refine VC.sr ?_
  refine VO.ma rfl rfl rfl rfl ?_
  refine VO.nil ?_
  refine VC.ret ?_
  exact Exists.intro _ (And.intro (RetN.one Tryz.results105 (ResN.v rfl)) (by first | rw [eqLs_len (by omega)] | rw [eqLs_at (d := default) (q := q) (by omega) (not_true_false h2b)] | rw [eqLs_all (d := default) (by omega) (fun j hj => hn j (by omega))]))
 ·have aH1 := aH1b
  try simp only [qqT, qqF, qqN, qqM, qqL, qqE] at aH1
  refine VC.skip ?_
  refine VC.seq ?_
  refine VC.sr ?_
  refine VO.mv rfl rfl rfl rfl ?_
  refine VO.val rfl rfl (OpV.len_im rfl Tryz.underlying63 rfl) ?_
  refine VO.mv rfl rfl rfl rfl ?_
  refine VO.nil ?_
  refine VC.block ?_
  refine VC.loopK [(0, _), (1, _), (12, _)] ⟨rfl, rfl, rfl, trivial⟩ ({q : Nat // q ≤ xs.length ∧ ∀ j, j < q → eqPl (xs.getD j default) (ys.getD j default) = true}) (fun (iZ : {q : Nat // q ≤ xs.length ∧ ∀ j, j < q → eqPl (xs.getD j default) (ys.getD j default) = true}) => match iZ with | ⟨q, hq, hn⟩ => [(13, avI (q : Int))]) (fun (iZ : {q : Nat // q ≤ xs.length ∧ ∀ j, j < q → eqPl (xs.getD j default) (ys.getD j default) = true}) => match iZ with | ⟨q, hq, hn⟩ => []) (fun (iZ : {q : Nat // q ≤ xs.length ∧ ∀ j, j < q → eqPl (xs.getD j default) (ys.getD j default) = true}) => match iZ with | ⟨q, hq, hn⟩ => 0) (fun (iZ : {q : Nat // q ≤ xs.length ∧ ∀ j, j < q → eqPl (xs.getD j default) (ys.getD j default) = true}) => match iZ with | ⟨q, hq, hn⟩ => xs.length - q) ⟨0, Nat.zero_le _, fun j hj => absurd hj (Nat.not_lt_zero j)⟩ (Le.mk hB [] ⟨rfl, rfl, rfl, rfl, trivial⟩ rfl rfl (Nat.le_refl _)) ?_
  rintro ⟨q, hq, hn⟩
  show VC _ _ _ _ ⟨[(13, avI (q : Int))] ++ [(0, _), (1, _), (12, _)], [], 0⟩
  refine VC.sr ?_
  refine VO.val rfl rfl (OpV.lss rfl rfl rfl) ?_
  refine VO.nil ?_
  refine VC.seq ?_
  refine VC.cond rfl (fun aH2b => ?_) (fun aH2b => ?_)
  ·have aH2 := aH2b
   try simp only [qqT, qqF, qqN, qqM, qqL, qqE] at aH2
   refine VC.skip ?_
   refine VC.seq ?_
   refine VC.block ?_
   refine VC.sr ?_
   refine VO.mv rfl rfl rfl rfl ?_
   refine VO.ma rfl rfl rfl rfl ?_
   refine VO.nil ?_
   refine VC.seq ?_
   refine VC.draw (fun _ => NoB) hB (by kernel_rfl) ?_
   refine VA.take (i := 0) rfl (by kernel_rfl) (by kernel_rfl) (by kernel_rfl) rfl rfl (OpV.move (.inl rfl) rfl) ?_
   refine VA.take (i := 1) rfl (by kernel_rfl) (by kernel_rfl) (by kernel_rfl) rfl rfl (OpV.move (.inl rfl) rfl) ?_
   refine VA.take (i := 2) rfl (by kernel_rfl) (by kernel_rfl) (by kernel_rfl) rfl rfl (OpV.indexAddr_E rfl Tryz.underlying63 Tryz.sizeOf128 rfl rfl rfl (by omega)) ?_
   refine VA.take (i := 3) rfl (by kernel_rfl) (by kernel_rfl) (by kernel_rfl) rfl rfl (OpV.loadK_at rfl hB OutW.wi0 Tryz.isAgg128 Tryz.sizeOf128 rfl rfl) ?_
   refine VA.take (i := 4) rfl (by kernel_rfl) (by kernel_rfl) (by kernel_rfl) rfl rfl (OpV.move (.inl rfl) rfl) ?_
   refine VA.take (i := 5) rfl (by kernel_rfl) (by kernel_rfl) (by kernel_rfl) rfl rfl (OpV.move (.inl rfl) rfl) ?_
   refine VA.take (i := 6) rfl (by kernel_rfl) (by kernel_rfl) (by kernel_rfl) rfl rfl (OpV.indexAddr_E rfl Tryz.underlying63 Tryz.sizeOf128 rfl rfl rfl (by omega)) ?_
   refine VA.take (i := 7) rfl (by kernel_rfl) (by kernel_rfl) (by kernel_rfl) rfl rfl (OpV.loadK_at rfl hB OutW.wi0 Tryz.isAgg128 Tryz.sizeOf128 rfl rfl) ?_
   refine VA.take (i := 8) rfl (by kernel_rfl) (by kernel_rfl) (by kernel_rfl) rfl rfl (OpV.aneq rfl Tryz.underlying128 (by kernel_rfl) (by kernel_rfl) rfl rfl (EqFs.str Tryz.underlying9 Tryz.isAgg9 rfl (by decide) (EqFs.str Tryz.underlying9 Tryz.isAgg9 rfl (by decide) (EqFs.int Tryz.underlying3 Tryz.isAgg3 rfl (by decide) (EqFs.int Tryz.underlying3 Tryz.isAgg3 rfl (by decide) (EqFs.int Tryz.underlying3 Tryz.isAgg3 rfl (by decide) (EqFs.nil _))))))) ?_
   refine VA.done (by kernel_rfl) ?_
   refine VC.cond rfl (fun h2b => ?_) (fun h2b => ?_)
   ·have h2 := h2b
    try simp only [qqT, qqF, qqN, qqM, qqL, qqE] at h2
    refine VC.sr ?_
    refine VO.ma rfl rfl rfl rfl ?_
    refine VO.nil ?_
    refine VC.ret ?_
    exact Exists.intro _ (And.intro (RetN.one Tryz.results105 (ResN.v rfl)) (by first | rw [eqLs_len (by omega)] | rw [eqLs_at (d := default) (q := q) (by omega) (not_true_false h2b)] | rw [eqLs_all (d := default) (by omega) (fun j hj => hn j (by omega))]))
   ·have h2 := h2b
    try simp only [qqT, qqF, qqN, qqM, qqL, qqE] at h2
    refine VC.skip ?_
    refine VC.region ?_
    refine VO.val rfl rfl (OpV.add rfl rfl rfl (by unfold fits; omega)) ?_
    refine VO.mv rfl rfl rfl rfl ?_
    refine VO.nil ?_
    exact Exists.intro (⟨q + 1, by omega, lt_succ_cases hn (not_false_true h2b)⟩) (And.intro (Le.mk hB [] ⟨rfl, rfl, rfl, rfl, trivial⟩ rfl rfl (Nat.le_refl _)) (by first | omega | (show _ < _; omega) | (simp only []; omega)))
  ·have aH2 := aH2b
   try simp only [qqT, qqF, qqN, qqM, qqL, qqE] at aH2
   refine VC.exit ?_
   refine VC.sr ?_
   refine VO.ma rfl rfl rfl rfl ?_
   refine VO.nil ?_
   refine VC.ret ?_
   exact Exists.intro _ (And.intro (RetN.one Tryz.results105 (ResN.v rfl)) (by first | rw [eqLs_len (by omega)] | rw [eqLs_at (d := default) (q := q) (by omega) (not_true_false h2b)] | rw [eqLs_all (d := default) (by omega) (fun j hj => hn j (by omega))]))
def sameP (a b : ProdS) : Bool := sEq a.key b.key && (decide (a.wide = b.wide) && (decide (a.high = b.high) && eqLs eqPl a.places b.places))
theorem sameP_self (a : ProdS) : sameP a a = true := by
 unfold sameP
 rw [sEq_refl, decide_eq_true rfl, decide_eq_true rfl, eqLs_self eqPl_self]; rfl
set_option maxRecDepth 100000 in
theorem rf_SameProduct {px py : ProdS} (hlx : px.places.length ≤ 1000000) (hly : py.places.length ≤ 1000000) :
  SpecN Tryz.prog 46 [avProd px, avProd py] (fun y => y = avB (sameP px py)) := by
 refine SpecN.of_VCN Tryz.func46 rfl Tryz.ntmps46 (Nle rfl) fun w A hB => ?_
 have hnew : True := trivial
 refine VC.sr ?_
 refine VO.op rfl (OpE.box rfl hB rfl rfl rfl ?_)
 intro g2
 refine VO.op rfl (OpE.box rfl hB rfl rfl rfl ?_)
 intro g3
 refine VO.ma rfl rfl rfl rfl ?_
 refine VO.nil ?_
 refine VC.sr ?_
 refine VO.val rfl rfl (OpV.fieldAddrO 0 rfl Tryz.underlying65 rfl rfl Tryz.sizeOf9 rfl) ?_
 refine VO.val rfl rfl (OpV.load_own (i := 0) rfl hB Tryz.isAgg9 rfl rfl rfl (fun h => h)) ?_
 refine VO.val rfl rfl (OpV.fieldAddrO 0 rfl Tryz.underlying65 rfl rfl Tryz.sizeOf9 rfl) ?_
 refine VO.val rfl rfl (OpV.load_own (i := 1) rfl hB Tryz.isAgg9 rfl rfl rfl (fun h => h)) ?_
 refine VO.val rfl rfl (OpV.seql rfl rfl rfl) ?_
 refine VO.mv rfl rfl rfl rfl ?_
 refine VO.opG rfl rfl rfl rfl (fun aK1b => ?_) (fun aK1b => ?_)
 ·replace aK1b : _ = true := aK1b
  have aK1 := aK1b
  try simp only [qqT, qqF, qqN, qqM, qqL, qqE] at aK1
  refine OpE.val (W := NoB) (OpV.fieldAddrO 1 rfl Tryz.underlying65 rfl rfl Tryz.sizeOf3 rfl) rfl ?_
  refine VO.opY rfl rfl rfl rfl aK1b ?_
  refine OpE.val (W := NoB) (OpV.load_own (i := 0) rfl hB Tryz.isAgg3 rfl rfl rfl (fun h => h)) rfl ?_
  refine VO.opY rfl rfl rfl rfl aK1b ?_
  refine OpE.val (W := NoB) (OpV.fieldAddrO 1 rfl Tryz.underlying65 rfl rfl Tryz.sizeOf3 rfl) rfl ?_
  refine VO.opY rfl rfl rfl rfl aK1b ?_
  refine OpE.val (W := NoB) (OpV.load_own (i := 1) rfl hB Tryz.isAgg3 rfl rfl rfl (fun h => h)) rfl ?_
  refine VO.opY rfl rfl rfl rfl aK1b ?_
  refine OpE.val (W := NoB) (OpV.eql rfl rfl rfl) rfl ?_
  refine VO.val rfl rfl (OpV.pickT rfl rfl rfl rfl aK1b) ?_
  refine VO.mv rfl rfl rfl rfl ?_
  refine VO.opG rfl rfl rfl rfl (fun aK2b => ?_) (fun aK2b => ?_)
  ·replace aK2b : _ = true := aK2b
   have aK2 := aK2b
   try simp only [qqT, qqF, qqN, qqM, qqL, qqE] at aK2
   refine OpE.val (W := NoB) (OpV.fieldAddrO 2 rfl Tryz.underlying65 rfl rfl Tryz.sizeOf3 rfl) rfl ?_
   refine VO.opY rfl rfl rfl rfl aK2b ?_
   refine OpE.val (W := NoB) (OpV.load_own (i := 0) rfl hB Tryz.isAgg3 rfl rfl rfl (fun h => h)) rfl ?_
   refine VO.opY rfl rfl rfl rfl aK2b ?_
   refine OpE.val (W := NoB) (OpV.fieldAddrO 2 rfl Tryz.underlying65 rfl rfl Tryz.sizeOf3 rfl) rfl ?_
   refine VO.opY rfl rfl rfl rfl aK2b ?_
   refine OpE.val (W := NoB) (OpV.load_own (i := 1) rfl hB Tryz.isAgg3 rfl rfl rfl (fun h => h)) rfl ?_
   refine VO.opY rfl rfl rfl rfl aK2b ?_
   refine OpE.val (W := NoB) (OpV.eql rfl rfl rfl) rfl ?_
   refine VO.val rfl rfl (OpV.pickT rfl rfl rfl rfl aK2b) ?_
   refine VO.mv rfl rfl rfl rfl ?_
   refine VO.opG rfl rfl rfl rfl (fun aK3b => ?_) (fun aK3b => ?_)
   ·replace aK3b : _ = true := aK3b
    have aK3 := aK3b
    try simp only [qqT, qqF, qqN, qqM, qqL, qqE] at aK3
    refine OpE.val (W := NoB) (OpV.fieldAddrO 3 rfl Tryz.underlying65 rfl rfl Tryz.sizeOf63 rfl) rfl ?_
    refine VO.opY rfl rfl rfl rfl aK3b ?_
    refine OpE.val (W := NoB) (OpV.load_own (i := 0) rfl hB Tryz.isAgg63 rfl rfl rfl (fun h => h)) rfl ?_
    refine VO.opY rfl rfl rfl rfl aK3b ?_
    refine OpE.val (W := NoB) (OpV.fieldAddrO 3 rfl Tryz.underlying65 rfl rfl Tryz.sizeOf63 rfl) rfl ?_
    refine VO.opY rfl rfl rfl rfl aK3b ?_
    refine OpE.val (W := NoB) (OpV.load_own (i := 1) rfl hB Tryz.isAgg63 rfl rfl rfl (fun h => h)) rfl ?_
    refine VO.opY rfl rfl rfl rfl aK3b ?_
    refine OpE.call rfl hB rfl Tryz.call105 rfl (SpecN.spec (slices_Equal_place (xs := px.places) (ys := py.places) (by omega) (by omega))) ?_
    rintro _ rfl
    refine VO.val rfl rfl (OpV.pickT rfl rfl rfl rfl aK3b) ?_
    refine VO.ma rfl rfl rfl rfl ?_
    refine VO.nil ?_
    refine VC.ret ?_
    exact Exists.intro _ (And.intro (RetN.one Tryz.results46 (ResN.v rfl)) (by unfold sameP; simp_all))
   ·replace aK3b : _ = false := aK3b
    have aK3 := aK3b
    try simp only [qqT, qqF, qqN, qqM, qqL, qqE] at aK3
    refine VO.opX rfl rfl rfl rfl aK3b ?_
    refine VO.opX rfl rfl rfl rfl aK3b ?_
    refine VO.opX rfl rfl rfl rfl aK3b ?_
    refine VO.opX rfl rfl rfl rfl aK3b ?_
    refine VO.val rfl rfl (OpV.pickF rfl rfl rfl rfl aK3b) ?_
    refine VO.ma rfl rfl rfl rfl ?_
    refine VO.nil ?_
    refine VC.ret ?_
    exact Exists.intro _ (And.intro (RetN.one Tryz.results46 (ResN.v rfl)) (by unfold sameP; simp_all))
  ·replace aK2b : _ = false := aK2b
   have aK2 := aK2b
   try simp only [qqT, qqF, qqN, qqM, qqL, qqE] at aK2
   refine VO.opX rfl rfl rfl rfl aK2b ?_
   refine VO.opX rfl rfl rfl rfl aK2b ?_
   refine VO.opX rfl rfl rfl rfl aK2b ?_
   refine VO.opX rfl rfl rfl rfl aK2b ?_
   refine VO.val rfl rfl (OpV.pickF rfl rfl rfl rfl aK2b) ?_
   refine VO.mv rfl rfl rfl rfl ?_
   refine VO.opX rfl rfl rfl rfl rfl ?_
   refine VO.opX rfl rfl rfl rfl rfl ?_
   refine VO.opX rfl rfl rfl rfl rfl ?_
   refine VO.opX rfl rfl rfl rfl rfl ?_
   refine VO.opX rfl rfl rfl rfl rfl ?_
   refine VO.val rfl rfl (OpV.pickF rfl rfl rfl rfl rfl) ?_
   refine VO.ma rfl rfl rfl rfl ?_
   refine VO.nil ?_
   refine VC.ret ?_
   exact Exists.intro _ (And.intro (RetN.one Tryz.results46 (ResN.v rfl)) (by unfold sameP; simp_all))
 ·replace aK1b : _ = false := aK1b
  have aK1 := aK1b
  try simp only [qqT, qqF, qqN, qqM, qqL, qqE] at aK1
  refine VO.opX rfl rfl rfl rfl aK1b ?_
  refine VO.opX rfl rfl rfl rfl aK1b ?_
  refine VO.opX rfl rfl rfl rfl aK1b ?_
  refine VO.opX rfl rfl rfl rfl aK1b ?_
  refine VO.val rfl rfl (OpV.pickF rfl rfl rfl rfl aK1b) ?_
  refine VO.mv rfl rfl rfl rfl ?_
  refine VO.opX rfl rfl rfl rfl rfl ?_
  refine VO.opX rfl rfl rfl rfl rfl ?_
  refine VO.opX rfl rfl rfl rfl rfl ?_
  refine VO.opX rfl rfl rfl rfl rfl ?_
  refine VO.opX rfl rfl rfl rfl rfl ?_
  refine VO.val rfl rfl (OpV.pickF rfl rfl rfl rfl rfl) ?_
  refine VO.mv rfl rfl rfl rfl ?_
  refine VO.opX rfl rfl rfl rfl rfl ?_
  refine VO.opX rfl rfl rfl rfl rfl ?_
  refine VO.opX rfl rfl rfl rfl rfl ?_
  refine VO.opX rfl rfl rfl rfl rfl ?_
  refine VO.opX rfl rfl rfl rfl rfl ?_
  refine VO.val rfl rfl (OpV.pickF rfl rfl rfl rfl rfl) ?_
  refine VO.ma rfl rfl rfl rfl ?_
  refine VO.nil ?_
  refine VC.ret ?_
  exact Exists.intro _ (And.intro (RetN.one Tryz.results46 (ResN.v rfl)) (by unfold sameP; simp_all))
end Go.Proofs.YtbbgjeiefmiblaaGreatDoor
namespace Go.Proofs.YtbbgjeiefmiblaaGreatDoor
open Go.RowKit
set_option linter.unusedVariables false
set_option linter.unusedSimpArgs false
def panL : List PlaceS := [⟨⟨#[99]⟩, ⟨#[99, 97, 112]⟩, 0, 0, 0⟩]
def panP : ProdS := ⟨⟨#[112]⟩, 5, 5, panL⟩
theorem panP_sm : SmP panP := ⟨by decide, by decide, fun i => by
 match i with
 | 0 => decide
 | i + 1 => simp [panP, panL]; decide, fun i => by
 match i with
 | 0 => decide
 | i + 1 => simp [panP, panL]; decide⟩
theorem panP_ok : prodF panP = 0 := by decide +kernel
theorem panP_cnt : cntP panL = [(⟨#[99, 97, 112]⟩, 1)] := by decide +kernel
theorem panP_keys : sKeys [((⟨#[99, 97, 112]⟩ : ByteArray), (1 : Int))] = [⟨#[99, 97, 112]⟩] := by simp [sKeys, bytesOf]
theorem panP_needs : needsR panP = [⟨⟨#[99, 97, 112]⟩, 1⟩] := by
 rw [needsR, if_pos panP_ok, needsL]
 show List.map _ (sKeys (cntP panL)) = _
 rw [panP_cnt, panP_keys]
 simp [panP, panP_cnt, mgetD, mget]
set_option maxRecDepth 100000 in
theorem rf_paneled   :
  SpecN Tryz.prog 47 [] (fun y => y = avB true) := by
 refine SpecN.of_VCN Tryz.func47 rfl Tryz.ntmps47 (Nle rfl) fun w A hB => ?_
 have hnew : True := trivial
 refine VC.sr ?_
 refine VO.ma rfl rfl rfl rfl ?_
 refine VO.nil ?_
 refine VC.sr ?_
 refine VO.val rfl rfl (OpV.build (pls := #[(0, 1), (1, 1), (2, 1), (3, 1), (4, 1)]) rfl Tryz.zeroValue128 Tryz.underlying128 (fun w => by kernel_rfl) rfl rfl) ?_
 refine VO.op rfl (OpE.buildSlice (zc := #[.string ⟨#[]⟩, .string ⟨#[]⟩, .int .i64 0, .int .i64 0, .int .i64 0]) rfl hB rfl Tryz.underlying63 Tryz.sizeOf128 Tryz.zeroValue128 (by decide) (by decide) (by kernel_rfl) rfl rfl ?_)
 refine VO.le _ (Le.recast (t := 5) (y := avL panL) rfl (fun w Z u h => Rep.rowL (xs := panL) rfl h)) ?_
 refine VO.val rfl rfl (OpV.build (pls := #[(0, 1), (1, 1), (2, 1), (3, 1)]) rfl Tryz.zeroValue65 Tryz.underlying65 (fun w => by kernel_rfl) rfl rfl) ?_
 refine VO.op rfl (OpE.call rfl hB rfl Tryz.call49 rfl (SpecN.spec (panel_Needs (p := panP) panP_sm)) ?_)
 rintro _ rfl
 refine VO.le _ (Le.recast (t := 7) (y := .tup [avL ([⟨⟨#[99, 97, 112]⟩, 1⟩] : List NeedS), avI 0]) rfl (fun w Z u h => by rw [← panP_needs, ← panP_ok]; exact h)) ?_
 refine VO.mv rfl rfl rfl rfl ?_
 refine VO.val rfl rfl (OpV.extract rfl rfl rfl) ?_
 refine VO.val rfl rfl (OpV.extract rfl rfl rfl) ?_
 refine VO.ma rfl rfl rfl rfl ?_
 refine VO.ma rfl rfl rfl rfl ?_
 refine VO.nil ?_
 refine VC.sr ?_
 refine VO.mv rfl rfl rfl rfl ?_
 refine VO.val rfl rfl (OpV.eql rfl rfl rfl) ?_
 refine VO.le _ (Le.boolT (t := 11) rfl (decide_eq_true rfl)) ?_
 refine VO.mv rfl rfl rfl rfl ?_
 refine VO.opY rfl rfl rfl rfl rfl ?_
 refine OpE.val (W := NoB) (OpV.move (.inl rfl) rfl) rfl ?_
 refine VO.opY rfl rfl rfl rfl rfl ?_
 refine OpE.val (W := NoB) (OpV.len_im rfl Tryz.underlying78 rfl) rfl ?_
 refine VO.opY rfl rfl rfl rfl rfl ?_
 refine OpE.val (W := NoB) (OpV.eql rfl rfl rfl) rfl ?_
 refine VO.le _ (Le.boolT (t := 15) rfl (decide_eq_true rfl)) ?_
 refine VO.val rfl rfl (OpV.pickT rfl rfl rfl rfl rfl) ?_
 refine VO.mv rfl rfl rfl rfl ?_
 refine VO.opY rfl rfl rfl rfl rfl ?_
 refine OpE.val (W := NoB) (OpV.move (.inl rfl) rfl) rfl ?_
 refine VO.opY rfl rfl rfl rfl rfl ?_
 refine OpE.val (W := NoB) (OpV.indexAddr_E rfl Tryz.underlying78 Tryz.sizeOf82 rfl rfl rfl (by show 0 < 1; decide)) rfl ?_
 refine VO.opY rfl rfl rfl rfl rfl ?_
 refine OpE.val (W := NoB) (OpV.fieldAddr_atO 1 rfl Tryz.underlying82 rfl rfl Tryz.sizeOf3 rfl rfl) rfl ?_
 refine VO.opY rfl rfl rfl rfl rfl ?_
 refine OpE.val (W := NoB) (OpV.load_at rfl hB OutW.no Tryz.isAgg3 rfl rfl) rfl ?_
 refine VO.opY rfl rfl rfl rfl rfl ?_
 refine OpE.val (W := NoB) (OpV.eql rfl rfl rfl) rfl ?_
 refine VO.le _ (Le.boolT (t := 22) rfl (decide_eq_true rfl)) ?_
 refine VO.val rfl rfl (OpV.pickT rfl rfl rfl rfl rfl) ?_
 refine VO.ma rfl rfl rfl rfl ?_
 refine VO.nil ?_
 refine VC.ret ?_
 exact Exists.intro _ (And.intro (RetN.one Tryz.results47 (ResN.v rfl)) (rfl))
end Go.Proofs.YtbbgjeiefmiblaaGreatDoor
namespace Go.Proofs.YtbbgjeiefmiblaaGreatDoor
open Go.RowKit
set_option linter.unusedVariables false
set_option linter.unusedSimpArgs false
section
variable {P : Program} {w : World} {A : Nat → Prop} {nt t : Nat} {x : Value} {c : Code} {s : St'}
end
theorem tab_laidVars {P : Program} {w : World} : ∀ {laid : List (String × DataW Unit)} {ps : List MemPlace}, DataW.LaidVars P w laid ps → ∀ x ∈ laid, ∃ g t cs fuel p, P.globalNamed x.1 = some g ∧ (P.globals[g]?).map (·.type) = some t ∧ w.var? P x.1 = some cs ∧ DataW.trod (fun _ => ()) P w 0 (fun _ => true) false fuel t cs.toList = some (x.2, p)
 | [], ps, h, x, hx => by cases hx
 | (n, d) :: r, ps, ⟨g, t, cs, fuel, p, q, h1, h2, h3, h4, h5, h6⟩, x, hx => by
  rcases List.mem_cons.1 hx with rfl | hx
  ·exact ⟨g, t, cs, fuel, p, h1, h2, h3, h4⟩
  ·exact tab_laidVars h5 x hx
theorem tab_of_laid {P : Program} {w : World} {laid : List (String × DataW Unit)} {g : Nat} {t e : TypeId} {n : Nat} (hm : ("internal/strconv.uint64pow10", Lib.tabData .u64 Lib.pow10Tab) ∈ laid)
  (hg : P.globalNamed "internal/strconv.uint64pow10" = some g) (hty : (P.globals[g]?).map (·.type) = some t) (ht : P.underlying t = some (.array n e)) (he : P.underlying e = some (.int .u64)) (hce : P.cellsOf e = 1) (hct : P.cellsOf t = n) (h : laidMet P laid w) : TabW P w := by
 obtain ⟨ps, hv, _⟩ := h
 obtain ⟨g', t', cs, fuel, p, hg', ht', hvar, hd⟩ := tab_laidVars hv _ hm
 obtain rfl := Option.some.inj (hg.symm.trans hg')
 obtain rfl := Option.some.inj (hty.symm.trans ht')
 unfold TabW Lib.TabIs
 have h1 := Lib.cells_of_tab ht he hce hct hd
 rw [hvar]
 congr 1
 apply Array.ext'
 rw [h1]
end Go.Proofs.YtbbgjeiefmiblaaGreatDoor
namespace Go.Proofs.YtbbgjeiefmiblaaGreatDoor
open Go.RowKit
set_option linter.unusedVariables false
set_option linter.unusedSimpArgs false
theorem errs_two (a b : Int) : errsF [a, b] = if a ≠ 0 then a else b := by
 unfold errsF
 by_cases ha : a = 0
 ·subst ha
  by_cases hb : b = 0
  ·subst hb; rfl
  ·simp [hb]
 ·simp [ha]
theorem prRead_sz (tx : ByteArray) : (prRead tx).1.places.length ≤ tx.size + 1 := by
 have h2 := linesR_length tx
 have h3 := prOf_len (linesR tx)
 unfold prRead
 split
 ·exact Nat.zero_le _
 ·split
  ·exact Nat.zero_le _
  ·split
   ·exact Nat.zero_le _
   ·split
    ·simp only; omega
    ·exact Nat.zero_le _
set_option maxRecDepth 100000 in
set_option maxHeartbeats 40000000 in
theorem productTexts_any (a0 : Option Addr) (cap0 : Nat) (L : List Int) (w : World) (hin : Inp w a0 L) (hT : TabW Tryz.prog w) :
  Calls Tryz.prog 5 #[.slice a0 L.length cap0] w fun e w' => e = .returned (.bool true) ∧ Chg NoB w w' := by
 refine law_calls Tryz.func5 rfl Tryz.ntmps5 (Nle rfl) Tryz.results5 ?_
 have hB := B0.ok w (fun _ => True) 126
 have hnew : True := trivial
 refine VC.sr ?_
 refine VO.ma rfl rfl rfl rfl ?_
 refine VO.nil ?_
 refine VC.sr ?_
 refine VO.mv rfl rfl rfl rfl ?_
 refine VO.val rfl rfl (OpV.build (pls := #[(0, 1), (1, 1)]) rfl Tryz.zeroValue25 Tryz.underlying25 (fun w => by kernel_rfl) rfl rfl) ?_
 refine VO.op rfl (OpE.box rfl hB rfl rfl rfl ?_)
 intro g
 refine VO.ma rfl rfl rfl rfl ?_
 refine VO.nil ?_
 refine VC.streamT (i := 0) (sl := [(3, sp g)]) (by exact rfl) (by exact rfl) hT hin (by exact ⟨rfl, trivial⟩) (fun p hp => by simp at hp; subst hp; exact ⟨_, rfl⟩) (fun w1 hge hB => ?_)
 have hG : ∀ {s a w'}, R (B1 w1 (fun b => b ≠ g) 126 (fun b => b = g) (fun b => b ≤ g) (TTW g L)) s a w' → TabW Tryz.prog w' := tabT
 refine VC.sr ?_
 refine VO.mv rfl rfl rfl rfl ?_
 refine VO.op rfl (OpE.callT' (0) rfl rfl hB rfl Tryz.call36 rfl (SpecT.liftW aProduct_T) (by omega) ?_)
 rintro _ ⟨p, hp, rfl⟩
 refine VO.mv rfl rfl rfl rfl ?_
 refine VO.op rfl (OpE.callT' (0 + 50) rfl rfl hB rfl Tryz.call36 rfl (SpecT.liftW aProduct_T) (by omega) ?_)
 rintro _ ⟨p2, hp2, rfl⟩
 refine VO.mv rfl rfl rfl rfl ?_
 refine VO.op rfl (OpE.callT' (0 + 50 + 50) rfl rfl hB rfl Tryz.call37 rfl (productText_T) (by omega) ?_)
 rintro _ ⟨tx, htx, rfl⟩
 refine VO.op rfl (OpE.alloc rfl hB rfl Tryz.zeroValue65 rfl ?_)
 intro g4
 refine VO.op rfl (OpE.alloc rfl hB rfl Tryz.zeroValue65 rfl ?_)
 intro g5
 refine VO.op rfl (OpE.store (i := 0) rfl hB rfl Tryz.sizeOf65 rfl rfl rfl rfl rfl rfl (Nle rfl) trivial ?_)
 refine VO.op rfl (OpE.store (i := 1) rfl hB rfl Tryz.sizeOf65 rfl rfl rfl rfl rfl rfl (Nle rfl) trivial ?_)
 refine VO.ma rfl rfl rfl rfl ?_
 refine VO.nil ?_
 refine VC.seq ?_
 obtain ⟨hpS, hpl⟩ := hp
 obtain ⟨hqS, hql⟩ := hp2
 obtain ⟨k1, k2, k3⟩ := chg_len p p2
 obtain ⟨l1, hl1⟩ : ∃ l, chg1 p p2 = l := ⟨_, rfl⟩
 obtain ⟨l2, hl2⟩ : ∃ l, chg2 p p2 = l := ⟨_, rfl⟩
 obtain ⟨l3, hl3⟩ : ∃ l, chg3 p p2 = l := ⟨_, rfl⟩
 obtain ⟨ce, hce⟩ : ∃ e, chgF p p2 = e := ⟨_, rfl⟩
 obtain ⟨e1, he1⟩ : ∃ e, prodF p = e := ⟨_, rfl⟩
 obtain ⟨wt, hwt⟩ : ∃ wt, (if prodF p = 0 then linesP p p.places.length else ⟨#[]⟩) = wt := ⟨_, rfl⟩
 have hrz := prRead_sz tx
 obtain ⟨rp, ri, re, hrd⟩ : ∃ rp ri re, prRead tx = (rp, ri, re) := ⟨_, _, _, rfl⟩
 rw [hl1] at k1
 rw [hl2] at k2
 rw [hl3] at k3
 rw [hrd] at hrz
 simp only at hrz
 refine VC.region ?_
 refine VO.val rfl rfl (OpV.loadK_own (i := 0) rfl hB Tryz.isAgg65 Tryz.sizeOf65 rfl rfl rfl (fun h => h)) ?_
 refine VO.val rfl rfl (OpV.loadK_own (i := 1) rfl hB Tryz.isAgg65 Tryz.sizeOf65 rfl rfl rfl (fun h => h)) ?_
 refine VO.op rfl (OpE.call rfl hB rfl Tryz.call38 rfl (panel_Changed hpS hqS) ?_)
 rintro _ rfl
 refine VO.le _ (Le.recast (t := 37) (y := .tup [avStrs l1, avStrs l2, avStrs l3, avI ce]) rfl (fun w Z u h => by rw [← hl1, ← hl2, ← hl3, ← hce]; exact h)) ?_
 refine VO.mv rfl rfl rfl rfl ?_
 refine VO.val rfl rfl (OpV.extract rfl rfl rfl) ?_
 refine VO.val rfl rfl (OpV.extract rfl rfl rfl) ?_
 refine VO.val rfl rfl (OpV.extract rfl rfl rfl) ?_
 refine VO.val rfl rfl (OpV.extract rfl rfl rfl) ?_
 refine VO.ma rfl rfl rfl rfl ?_
 refine VO.ma rfl rfl rfl rfl ?_
 refine VO.ma rfl rfl rfl rfl ?_
 refine VO.ma rfl rfl rfl rfl ?_
 refine VO.nil ?_
 refine VC.sr ?_
 refine VO.val rfl rfl (OpV.loadK_own (i := 0) rfl hB Tryz.isAgg65 Tryz.sizeOf65 rfl rfl rfl (fun h => h)) ?_
 refine VO.op rfl (OpE.callW rfl hB rfl Tryz.call39 rfl (panel_TextP hpS) hG ?_)
 rintro _ rfl
 refine VO.le _ (Le.recast (t := 44) (y := .tup [avS wt, avI e1]) rfl (fun w Z u h => by rw [← hwt, ← he1]; exact h)) ?_
 refine VO.mv rfl rfl rfl rfl ?_
 refine VO.val rfl rfl (OpV.extract rfl rfl rfl) ?_
 refine VO.val rfl rfl (OpV.extract rfl rfl rfl) ?_
 refine VO.ma rfl rfl rfl rfl ?_
 refine VO.ma rfl rfl rfl rfl ?_
 refine VO.nil ?_
 refine VC.seq ?_
 refine VC.draw (fun _ => NoB) hB (by kernel_rfl) ?_
 refine VA.take (i := 0) rfl (by kernel_rfl) (by kernel_rfl) (by kernel_rfl) rfl rfl (OpV.loadK_own (i := 0) rfl hB Tryz.isAgg65 Tryz.sizeOf65 rfl rfl rfl Wi.not0) ?_
 refine VA.take (i := 2) rfl (by kernel_rfl) (by kernel_rfl) (by kernel_rfl) rfl rfl (OpV.loadK_own (i := 1) rfl hB Tryz.isAgg65 Tryz.sizeOf65 rfl rfl rfl Wi.not0) ?_
 refine VA.take (i := 6) rfl (by kernel_rfl) (by kernel_rfl) (by kernel_rfl) rfl rfl (OpV.loadK_own (i := 0) rfl hB Tryz.isAgg65 Tryz.sizeOf65 rfl rfl rfl Wi.not0) ?_
 refine VA.all (rs := [1]) (by kernel_rfl) (by decide) ?_
 refine ⟨⟨_, rfl, .inl rfl, ?_⟩, trivial⟩
 refine OpE.call rfl hB rfl Tryz.call41 rfl (SpecN.spec (rf_ProductFault hpS)) ?_
 rintro _ rfl
 refine VA.all (rs := [3]) (by kernel_rfl) (by decide) ?_
 refine ⟨⟨_, rfl, .inl rfl, ?_⟩, trivial⟩
 refine OpE.call rfl hB rfl Tryz.call41 rfl (SpecN.spec (rf_ProductFault hqS)) ?_
 rintro _ rfl
 refine VA.all (rs := [4]) (by kernel_rfl) (by decide) ?_
 refine ⟨⟨_, rfl, .inl rfl, ?_⟩, trivial⟩
 refine OpE.buildSlice (zc := #[.int .i64 0, .int .i64 0]) rfl hB rfl Tryz.underlying154 Tryz.sizeOf36 Tryz.zeroValue36 (by decide) (by decide) (by kernel_rfl) rfl rfl ?_
 refine VA.le _ (Le.lits (t := 51) (xs := [prodF p, prodF p2]) rfl rfl) ?_
 refine VA.all (rs := [5]) (by kernel_rfl) (by decide) ?_
 refine ⟨⟨_, rfl, .inl rfl, ?_⟩, trivial⟩
 refine OpE.call rfl hB rfl Tryz.call40 rfl (SpecN.spec (rf_errs (xs := [prodF p, prodF p2]) (by simp))) ?_
 rintro _ rfl
 refine VA.le _ (Le.recast (t := 52) (y := avI ce) rfl (fun w Z u h => by rw [← hce]; unfold chgF; rw [← errs_two]; exact h)) ?_
 refine VA.all (rs := [7]) (by kernel_rfl) (by decide) ?_
 refine ⟨⟨_, rfl, .inl rfl, ?_⟩, trivial⟩
 refine OpE.call rfl hB rfl Tryz.call41 rfl (SpecN.spec (rf_ProductFault hpS)) ?_
 rintro _ rfl
 refine VA.le _ (Le.recast (t := 54) (y := avI e1) rfl (fun w Z u h => by rw [← he1]; exact h)) ?_
 refine VA.take (i := 8) rfl (by kernel_rfl) (by kernel_rfl) (by kernel_rfl) rfl rfl (OpV.move (.inr rfl) rfl) ?_
 refine VA.take (i := 9) rfl (by kernel_rfl) (by kernel_rfl) (by kernel_rfl) rfl rfl (OpV.move (.inr rfl) rfl) ?_
 refine VA.done (by kernel_rfl) ?_
 refine VC.sr ?_
 refine VO.ma rfl rfl rfl rfl ?_
 refine VO.ma rfl rfl rfl rfl ?_
 refine VO.ma rfl rfl rfl rfl ?_
 refine VO.nil ?_
 refine VC.seq ?_
 refine VC.sr ?_
 refine VO.mv rfl rfl rfl rfl ?_
 refine VO.val rfl rfl (OpV.eql rfl rfl rfl) ?_
 refine VO.nil ?_
 refine VC.cond rfl (fun k4b => ?_) (fun k4b => ?_)
 ·have k4 := k4b
  try simp only [qqT, qqF, qqN, qqM, qqL, qqE] at k4
  refine VC.region ?_
  refine VO.val rfl rfl (OpV.loadK_own (i := 0) rfl hB Tryz.isAgg65 Tryz.sizeOf65 rfl rfl rfl (fun h => h)) ?_
  refine VO.val rfl rfl (OpV.loadK_own (i := 1) rfl hB Tryz.isAgg65 Tryz.sizeOf65 rfl rfl rfl (fun h => h)) ?_
  refine VO.op rfl (OpE.call rfl hB rfl Tryz.call42 rfl (rf_ChangedPlacements (by omega) (by omega)) ?_)
  rintro _ rfl
  refine VO.le _ (Le.recast (t := 60) (y := .tup [avStrs l1, avStrs l2, avStrs l3]) rfl (fun w Z u h => by rw [← hl1, ← hl2, ← hl3, (chg_ok (hce.trans k4)).1, (chg_ok (hce.trans k4)).2.1, (chg_ok (hce.trans k4)).2.2]; exact h)) ?_
  refine VO.mv rfl rfl rfl rfl ?_
  refine VO.val rfl rfl (OpV.extract rfl rfl rfl) ?_
  refine VO.val rfl rfl (OpV.extract rfl rfl rfl) ?_
  refine VO.val rfl rfl (OpV.extract rfl rfl rfl) ?_
  refine VO.ma rfl rfl rfl rfl ?_
  refine VO.ma rfl rfl rfl rfl ?_
  refine VO.ma rfl rfl rfl rfl ?_
  refine VO.nil ?_
  refine VC.sr ?_
  refine VO.ma rfl rfl rfl rfl ?_
  refine VO.nil ?_
  refine VC.seq ?_
  refine VC.sr ?_
  refine VO.mv rfl rfl rfl rfl ?_
  refine VO.val rfl rfl (OpV.eql rfl rfl rfl) ?_
  refine VO.nil ?_
  refine VC.cond rfl (fun k5b => ?_) (fun k5b => ?_)
  ·have k5 := k5b
   try simp only [qqT, qqF, qqN, qqM, qqL, qqE] at k5
   refine VC.region ?_
   refine VO.val rfl rfl (OpV.loadK_own (i := 0) rfl hB Tryz.isAgg65 Tryz.sizeOf65 rfl rfl rfl (fun h => h)) ?_
   refine VO.op rfl (OpE.callW rfl hB rfl Tryz.call43 rfl (rf_ProductLines hpS (he1.trans k5)) hG ?_)
   rintro _ rfl
   refine VO.le _ (Le.recast (t := 67) (y := avS wt) rfl (fun w Z u h => by rw [← hwt, if_pos (he1.trans k5)]; exact h)) ?_
   refine VO.ma rfl rfl rfl rfl ?_
   refine VO.nil ?_
   refine VC.sr ?_
   refine VO.mv rfl rfl rfl rfl ?_
   refine VO.op rfl (OpE.call rfl hB rfl Tryz.call44 rfl (panel_ReadP (by omega)) ?_)
   rintro _ rfl
   refine VO.le _ (Le.recast (t := 70) (y := .tup [avProd rp, avI ri, avI re]) rfl (fun w Z u h => by rw [hrd] at h; exact h)) ?_
   refine VO.mv rfl rfl rfl rfl ?_
   refine VO.val rfl rfl (OpV.extract rfl rfl rfl) ?_
   refine VO.val rfl rfl (OpV.extract rfl rfl rfl) ?_
   refine VO.val rfl rfl (OpV.extract rfl rfl rfl) ?_
   refine VO.op rfl (OpE.alloc rfl hB rfl Tryz.zeroValue65 rfl ?_)
   intro g19
   refine VO.op rfl (OpE.store (i := 2) rfl hB rfl Tryz.sizeOf65 rfl rfl rfl rfl rfl rfl (Nle rfl) trivial ?_)
   refine VO.ma rfl rfl rfl rfl ?_
   refine VO.ma rfl rfl rfl rfl ?_
   refine VO.nil ?_
   refine VC.sr ?_
   refine VO.mv rfl rfl rfl rfl ?_
   refine VO.op rfl (OpE.callW rfl hB rfl Tryz.call45 rfl (rf_ProductRead (by omega)) hG ?_)
   rintro _ rfl
   refine VO.le _ (Le.recast (t := 76) (y := .tup [avProd rp, avI ri, avI re]) rfl (fun w Z u h => by rw [hrd] at h; exact h)) ?_
   refine VO.mv rfl rfl rfl rfl ?_
   refine VO.val rfl rfl (OpV.extract rfl rfl rfl) ?_
   refine VO.val rfl rfl (OpV.extract rfl rfl rfl) ?_
   refine VO.val rfl rfl (OpV.extract rfl rfl rfl) ?_
   refine VO.op rfl (OpE.alloc rfl hB rfl Tryz.zeroValue65 rfl ?_)
   intro g22
   refine VO.op rfl (OpE.store (i := 3) rfl hB rfl Tryz.sizeOf65 rfl rfl rfl rfl rfl rfl (Nle rfl) trivial ?_)
   refine VO.ma rfl rfl rfl rfl ?_
   refine VO.ma rfl rfl rfl rfl ?_
   refine VO.nil ?_
   refine VC.sr ?_
   refine VO.mv rfl rfl rfl rfl ?_
   refine VO.mv rfl rfl rfl rfl ?_
   refine VO.val rfl rfl (OpV.eql rfl rfl rfl) ?_
   refine VO.le _ (Le.boolT (t := 82) rfl (decide_eq_true rfl)) ?_
   refine VO.mv rfl rfl rfl rfl ?_
   refine VO.opY rfl rfl rfl rfl rfl ?_
   refine OpE.val (W := NoB) (OpV.move (.inl rfl) rfl) rfl ?_
   refine VO.opY rfl rfl rfl rfl rfl ?_
   refine OpE.val (W := NoB) (OpV.move (.inl rfl) rfl) rfl ?_
   refine VO.opY rfl rfl rfl rfl rfl ?_
   refine OpE.call rfl hB rfl Tryz.call26 rfl (SpecN.spec (slices_Equal_str (by omega) (by omega))) ?_
   rintro _ rfl
   refine VO.le _ (Le.boolT (t := 86) rfl (eqLs_self sEq_refl _)) ?_
   refine VO.val rfl rfl (OpV.pickT rfl rfl rfl rfl rfl) ?_
   refine VO.mv rfl rfl rfl rfl ?_
   refine VO.opY rfl rfl rfl rfl rfl ?_
   refine OpE.val (W := NoB) (OpV.move (.inl rfl) rfl) rfl ?_
   refine VO.opY rfl rfl rfl rfl rfl ?_
   refine OpE.val (W := NoB) (OpV.move (.inl rfl) rfl) rfl ?_
   refine VO.opY rfl rfl rfl rfl rfl ?_
   refine OpE.call rfl hB rfl Tryz.call26 rfl (SpecN.spec (slices_Equal_str (by omega) (by omega))) ?_
   rintro _ rfl
   refine VO.le _ (Le.boolT (t := 91) rfl (eqLs_self sEq_refl _)) ?_
   refine VO.val rfl rfl (OpV.pickT rfl rfl rfl rfl rfl) ?_
   refine VO.mv rfl rfl rfl rfl ?_
   refine VO.opY rfl rfl rfl rfl rfl ?_
   refine OpE.val (W := NoB) (OpV.move (.inl rfl) rfl) rfl ?_
   refine VO.opY rfl rfl rfl rfl rfl ?_
   refine OpE.val (W := NoB) (OpV.move (.inl rfl) rfl) rfl ?_
   refine VO.opY rfl rfl rfl rfl rfl ?_
   refine OpE.call rfl hB rfl Tryz.call26 rfl (SpecN.spec (slices_Equal_str (by omega) (by omega))) ?_
   rintro _ rfl
   refine VO.le _ (Le.boolT (t := 96) rfl (eqLs_self sEq_refl _)) ?_
   refine VO.val rfl rfl (OpV.pickT rfl rfl rfl rfl rfl) ?_
   refine VO.mv rfl rfl rfl rfl ?_
   refine VO.opY rfl rfl rfl rfl rfl ?_
   refine OpE.val (W := NoB) (OpV.move (.inl rfl) rfl) rfl ?_
   refine VO.opY rfl rfl rfl rfl rfl ?_
   refine OpE.val (W := NoB) (OpV.move (.inl rfl) rfl) rfl ?_
   refine VO.opY rfl rfl rfl rfl rfl ?_
   refine OpE.val (W := NoB) (OpV.eql rfl rfl rfl) rfl ?_
   refine VO.le _ (Le.boolT (t := 101) rfl (decide_eq_true rfl)) ?_
   refine VO.val rfl rfl (OpV.pickT rfl rfl rfl rfl rfl) ?_
   refine VO.mv rfl rfl rfl rfl ?_
   refine VO.opY rfl rfl rfl rfl rfl ?_
   refine OpE.val (W := NoB) (OpV.move (.inl rfl) rfl) rfl ?_
   refine VO.opY rfl rfl rfl rfl rfl ?_
   refine OpE.val (W := NoB) (OpV.move (.inl rfl) rfl) rfl ?_
   refine VO.opY rfl rfl rfl rfl rfl ?_
   refine OpE.val (W := NoB) (OpV.seql rfl rfl rfl) rfl ?_
   refine VO.le _ (Le.boolT (t := 106) rfl (sEq_refl _)) ?_
   refine VO.val rfl rfl (OpV.pickT rfl rfl rfl rfl rfl) ?_
   refine VO.mv rfl rfl rfl rfl ?_
   refine VO.opY rfl rfl rfl rfl rfl ?_
   refine OpE.val (W := NoB) (OpV.loadK_own (i := 2) rfl hB Tryz.isAgg65 Tryz.sizeOf65 rfl rfl rfl (fun h => h)) rfl ?_
   refine VO.opY rfl rfl rfl rfl rfl ?_
   refine OpE.val (W := NoB) (OpV.loadK_own (i := 3) rfl hB Tryz.isAgg65 Tryz.sizeOf65 rfl rfl rfl (fun h => h)) rfl ?_
   refine VO.opY rfl rfl rfl rfl rfl ?_
   refine OpE.call rfl hB rfl Tryz.call46 rfl (SpecN.spec (rf_SameProduct (by omega) (by omega))) ?_
   rintro _ rfl
   refine VO.le _ (Le.boolT (t := 111) rfl (sameP_self _)) ?_
   refine VO.val rfl rfl (OpV.pickT rfl rfl rfl rfl rfl) ?_
   refine VO.mv rfl rfl rfl rfl ?_
   refine VO.opY rfl rfl rfl rfl rfl ?_
   refine OpE.val (W := NoB) (OpV.move (.inl rfl) rfl) rfl ?_
   refine VO.opY rfl rfl rfl rfl rfl ?_
   refine OpE.val (W := NoB) (OpV.move (.inl rfl) rfl) rfl ?_
   refine VO.opY rfl rfl rfl rfl rfl ?_
   refine OpE.val (W := NoB) (OpV.eql rfl rfl rfl) rfl ?_
   refine VO.le _ (Le.boolT (t := 116) rfl (decide_eq_true rfl)) ?_
   refine VO.val rfl rfl (OpV.pickT rfl rfl rfl rfl rfl) ?_
   refine VO.mv rfl rfl rfl rfl ?_
   refine VO.opY rfl rfl rfl rfl rfl ?_
   refine OpE.val (W := NoB) (OpV.move (.inl rfl) rfl) rfl ?_
   refine VO.opY rfl rfl rfl rfl rfl ?_
   refine OpE.val (W := NoB) (OpV.move (.inl rfl) rfl) rfl ?_
   refine VO.opY rfl rfl rfl rfl rfl ?_
   refine OpE.val (W := NoB) (OpV.eql rfl rfl rfl) rfl ?_
   refine VO.le _ (Le.boolT (t := 121) rfl (decide_eq_true rfl)) ?_
   refine VO.val rfl rfl (OpV.pickT rfl rfl rfl rfl rfl) ?_
   refine VO.mv rfl rfl rfl rfl ?_
   refine VO.opY rfl rfl rfl rfl rfl ?_
   refine OpE.call rfl hB rfl Tryz.call47 rfl (SpecN.spec (rf_paneled)) ?_
   rintro _ rfl
   refine VO.val rfl rfl (OpV.pickT rfl rfl rfl rfl rfl) ?_
   refine VO.ma rfl rfl rfl rfl ?_
   refine VO.nil ?_
   refine VC.ret ?_
   exact And.intro rfl rfl
  ·have k5 := k5b
   try simp only [qqT, qqF, qqN, qqM, qqL, qqE] at k5
   refine VC.le _ (Le.recast (t := 18) (y := avS wt) rfl (fun w Z u h => by rw [← hwt, if_neg (fun e => k5 (he1.symm.trans e))]; exact h)) ?_
   refine VC.skip ?_
   refine VC.sr ?_
   refine VO.mv rfl rfl rfl rfl ?_
   refine VO.op rfl (OpE.call rfl hB rfl Tryz.call44 rfl (panel_ReadP (by omega)) ?_)
   rintro _ rfl
   refine VO.le _ (Le.recast (t := 70) (y := .tup [avProd rp, avI ri, avI re]) rfl (fun w Z u h => by rw [hrd] at h; exact h)) ?_
   refine VO.mv rfl rfl rfl rfl ?_
   refine VO.val rfl rfl (OpV.extract rfl rfl rfl) ?_
   refine VO.val rfl rfl (OpV.extract rfl rfl rfl) ?_
   refine VO.val rfl rfl (OpV.extract rfl rfl rfl) ?_
   refine VO.op rfl (OpE.alloc rfl hB rfl Tryz.zeroValue65 rfl ?_)
   intro g19
   refine VO.op rfl (OpE.store (i := 2) rfl hB rfl Tryz.sizeOf65 rfl rfl rfl rfl rfl rfl (Nle rfl) trivial ?_)
   refine VO.ma rfl rfl rfl rfl ?_
   refine VO.ma rfl rfl rfl rfl ?_
   refine VO.nil ?_
   refine VC.sr ?_
   refine VO.mv rfl rfl rfl rfl ?_
   refine VO.op rfl (OpE.callW rfl hB rfl Tryz.call45 rfl (rf_ProductRead (by omega)) hG ?_)
   rintro _ rfl
   refine VO.le _ (Le.recast (t := 76) (y := .tup [avProd rp, avI ri, avI re]) rfl (fun w Z u h => by rw [hrd] at h; exact h)) ?_
   refine VO.mv rfl rfl rfl rfl ?_
   refine VO.val rfl rfl (OpV.extract rfl rfl rfl) ?_
   refine VO.val rfl rfl (OpV.extract rfl rfl rfl) ?_
   refine VO.val rfl rfl (OpV.extract rfl rfl rfl) ?_
   refine VO.op rfl (OpE.alloc rfl hB rfl Tryz.zeroValue65 rfl ?_)
   intro g22
   refine VO.op rfl (OpE.store (i := 3) rfl hB rfl Tryz.sizeOf65 rfl rfl rfl rfl rfl rfl (Nle rfl) trivial ?_)
   refine VO.ma rfl rfl rfl rfl ?_
   refine VO.ma rfl rfl rfl rfl ?_
   refine VO.nil ?_
   refine VC.sr ?_
   refine VO.mv rfl rfl rfl rfl ?_
   refine VO.mv rfl rfl rfl rfl ?_
   refine VO.val rfl rfl (OpV.eql rfl rfl rfl) ?_
   refine VO.le _ (Le.boolT (t := 82) rfl (decide_eq_true rfl)) ?_
   refine VO.mv rfl rfl rfl rfl ?_
   refine VO.opY rfl rfl rfl rfl rfl ?_
   refine OpE.val (W := NoB) (OpV.move (.inl rfl) rfl) rfl ?_
   refine VO.opY rfl rfl rfl rfl rfl ?_
   refine OpE.val (W := NoB) (OpV.move (.inl rfl) rfl) rfl ?_
   refine VO.opY rfl rfl rfl rfl rfl ?_
   refine OpE.call rfl hB rfl Tryz.call26 rfl (SpecN.spec (slices_Equal_str (by omega) (by omega))) ?_
   rintro _ rfl
   refine VO.le _ (Le.boolT (t := 86) rfl (eqLs_self sEq_refl _)) ?_
   refine VO.val rfl rfl (OpV.pickT rfl rfl rfl rfl rfl) ?_
   refine VO.mv rfl rfl rfl rfl ?_
   refine VO.opY rfl rfl rfl rfl rfl ?_
   refine OpE.val (W := NoB) (OpV.move (.inl rfl) rfl) rfl ?_
   refine VO.opY rfl rfl rfl rfl rfl ?_
   refine OpE.val (W := NoB) (OpV.move (.inl rfl) rfl) rfl ?_
   refine VO.opY rfl rfl rfl rfl rfl ?_
   refine OpE.call rfl hB rfl Tryz.call26 rfl (SpecN.spec (slices_Equal_str (by omega) (by omega))) ?_
   rintro _ rfl
   refine VO.le _ (Le.boolT (t := 91) rfl (eqLs_self sEq_refl _)) ?_
   refine VO.val rfl rfl (OpV.pickT rfl rfl rfl rfl rfl) ?_
   refine VO.mv rfl rfl rfl rfl ?_
   refine VO.opY rfl rfl rfl rfl rfl ?_
   refine OpE.val (W := NoB) (OpV.move (.inl rfl) rfl) rfl ?_
   refine VO.opY rfl rfl rfl rfl rfl ?_
   refine OpE.val (W := NoB) (OpV.move (.inl rfl) rfl) rfl ?_
   refine VO.opY rfl rfl rfl rfl rfl ?_
   refine OpE.call rfl hB rfl Tryz.call26 rfl (SpecN.spec (slices_Equal_str (by omega) (by omega))) ?_
   rintro _ rfl
   refine VO.le _ (Le.boolT (t := 96) rfl (eqLs_self sEq_refl _)) ?_
   refine VO.val rfl rfl (OpV.pickT rfl rfl rfl rfl rfl) ?_
   refine VO.mv rfl rfl rfl rfl ?_
   refine VO.opY rfl rfl rfl rfl rfl ?_
   refine OpE.val (W := NoB) (OpV.move (.inl rfl) rfl) rfl ?_
   refine VO.opY rfl rfl rfl rfl rfl ?_
   refine OpE.val (W := NoB) (OpV.move (.inl rfl) rfl) rfl ?_
   refine VO.opY rfl rfl rfl rfl rfl ?_
   refine OpE.val (W := NoB) (OpV.eql rfl rfl rfl) rfl ?_
   refine VO.le _ (Le.boolT (t := 101) rfl (decide_eq_true rfl)) ?_
   refine VO.val rfl rfl (OpV.pickT rfl rfl rfl rfl rfl) ?_
   refine VO.mv rfl rfl rfl rfl ?_
   refine VO.opY rfl rfl rfl rfl rfl ?_
   refine OpE.val (W := NoB) (OpV.move (.inl rfl) rfl) rfl ?_
   refine VO.opY rfl rfl rfl rfl rfl ?_
   refine OpE.val (W := NoB) (OpV.move (.inl rfl) rfl) rfl ?_
   refine VO.opY rfl rfl rfl rfl rfl ?_
   refine OpE.val (W := NoB) (OpV.seql rfl rfl rfl) rfl ?_
   refine VO.le _ (Le.boolT (t := 106) rfl (sEq_refl _)) ?_
   refine VO.val rfl rfl (OpV.pickT rfl rfl rfl rfl rfl) ?_
   refine VO.mv rfl rfl rfl rfl ?_
   refine VO.opY rfl rfl rfl rfl rfl ?_
   refine OpE.val (W := NoB) (OpV.loadK_own (i := 2) rfl hB Tryz.isAgg65 Tryz.sizeOf65 rfl rfl rfl (fun h => h)) rfl ?_
   refine VO.opY rfl rfl rfl rfl rfl ?_
   refine OpE.val (W := NoB) (OpV.loadK_own (i := 3) rfl hB Tryz.isAgg65 Tryz.sizeOf65 rfl rfl rfl (fun h => h)) rfl ?_
   refine VO.opY rfl rfl rfl rfl rfl ?_
   refine OpE.call rfl hB rfl Tryz.call46 rfl (SpecN.spec (rf_SameProduct (by omega) (by omega))) ?_
   rintro _ rfl
   refine VO.le _ (Le.boolT (t := 111) rfl (sameP_self _)) ?_
   refine VO.val rfl rfl (OpV.pickT rfl rfl rfl rfl rfl) ?_
   refine VO.mv rfl rfl rfl rfl ?_
   refine VO.opY rfl rfl rfl rfl rfl ?_
   refine OpE.val (W := NoB) (OpV.move (.inl rfl) rfl) rfl ?_
   refine VO.opY rfl rfl rfl rfl rfl ?_
   refine OpE.val (W := NoB) (OpV.move (.inl rfl) rfl) rfl ?_
   refine VO.opY rfl rfl rfl rfl rfl ?_
   refine OpE.val (W := NoB) (OpV.eql rfl rfl rfl) rfl ?_
   refine VO.le _ (Le.boolT (t := 116) rfl (decide_eq_true rfl)) ?_
   refine VO.val rfl rfl (OpV.pickT rfl rfl rfl rfl rfl) ?_
   refine VO.mv rfl rfl rfl rfl ?_
   refine VO.opY rfl rfl rfl rfl rfl ?_
   refine OpE.val (W := NoB) (OpV.move (.inl rfl) rfl) rfl ?_
   refine VO.opY rfl rfl rfl rfl rfl ?_
   refine OpE.val (W := NoB) (OpV.move (.inl rfl) rfl) rfl ?_
   refine VO.opY rfl rfl rfl rfl rfl ?_
   refine OpE.val (W := NoB) (OpV.eql rfl rfl rfl) rfl ?_
   refine VO.le _ (Le.boolT (t := 121) rfl (decide_eq_true rfl)) ?_
   refine VO.val rfl rfl (OpV.pickT rfl rfl rfl rfl rfl) ?_
   refine VO.mv rfl rfl rfl rfl ?_
   refine VO.opY rfl rfl rfl rfl rfl ?_
   refine OpE.call rfl hB rfl Tryz.call47 rfl (SpecN.spec (rf_paneled)) ?_
   rintro _ rfl
   refine VO.val rfl rfl (OpV.pickT rfl rfl rfl rfl rfl) ?_
   refine VO.ma rfl rfl rfl rfl ?_
   refine VO.nil ?_
   refine VC.ret ?_
   exact And.intro rfl rfl
 ·have k4 := k4b
  try simp only [qqT, qqF, qqN, qqM, qqL, qqE] at k4
  refine VC.le _ (Le.recast (t := 15) (y := avStrs l1) rfl (fun w Z u h => by rw [← hl1, (chg_no (fun e => k4 (hce.symm.trans e))).1]; exact nilStrs h)) ?_
  refine VC.le _ (Le.recast (t := 16) (y := avStrs l2) rfl (fun w Z u h => by rw [← hl2, (chg_no (fun e => k4 (hce.symm.trans e))).2.1]; exact nilStrs h)) ?_
  refine VC.le _ (Le.recast (t := 17) (y := avStrs l3) rfl (fun w Z u h => by rw [← hl3, (chg_no (fun e => k4 (hce.symm.trans e))).2.2]; exact nilStrs h)) ?_
  refine VC.skip ?_
  refine VC.sr ?_
  refine VO.ma rfl rfl rfl rfl ?_
  refine VO.nil ?_
  refine VC.seq ?_
  refine VC.sr ?_
  refine VO.mv rfl rfl rfl rfl ?_
  refine VO.val rfl rfl (OpV.eql rfl rfl rfl) ?_
  refine VO.nil ?_
  refine VC.cond rfl (fun k5b => ?_) (fun k5b => ?_)
  ·have k5 := k5b
   try simp only [qqT, qqF, qqN, qqM, qqL, qqE] at k5
   refine VC.region ?_
   refine VO.val rfl rfl (OpV.loadK_own (i := 0) rfl hB Tryz.isAgg65 Tryz.sizeOf65 rfl rfl rfl (fun h => h)) ?_
   refine VO.op rfl (OpE.callW rfl hB rfl Tryz.call43 rfl (rf_ProductLines hpS (he1.trans k5)) hG ?_)
   rintro _ rfl
   refine VO.le _ (Le.recast (t := 67) (y := avS wt) rfl (fun w Z u h => by rw [← hwt, if_pos (he1.trans k5)]; exact h)) ?_
   refine VO.ma rfl rfl rfl rfl ?_
   refine VO.nil ?_
   refine VC.sr ?_
   refine VO.mv rfl rfl rfl rfl ?_
   refine VO.op rfl (OpE.call rfl hB rfl Tryz.call44 rfl (panel_ReadP (by omega)) ?_)
   rintro _ rfl
   refine VO.le _ (Le.recast (t := 70) (y := .tup [avProd rp, avI ri, avI re]) rfl (fun w Z u h => by rw [hrd] at h; exact h)) ?_
   refine VO.mv rfl rfl rfl rfl ?_
   refine VO.val rfl rfl (OpV.extract rfl rfl rfl) ?_
   refine VO.val rfl rfl (OpV.extract rfl rfl rfl) ?_
   refine VO.val rfl rfl (OpV.extract rfl rfl rfl) ?_
   refine VO.op rfl (OpE.alloc rfl hB rfl Tryz.zeroValue65 rfl ?_)
   intro g19
   refine VO.op rfl (OpE.store (i := 2) rfl hB rfl Tryz.sizeOf65 rfl rfl rfl rfl rfl rfl (Nle rfl) trivial ?_)
   refine VO.ma rfl rfl rfl rfl ?_
   refine VO.ma rfl rfl rfl rfl ?_
   refine VO.nil ?_
   refine VC.sr ?_
   refine VO.mv rfl rfl rfl rfl ?_
   refine VO.op rfl (OpE.callW rfl hB rfl Tryz.call45 rfl (rf_ProductRead (by omega)) hG ?_)
   rintro _ rfl
   refine VO.le _ (Le.recast (t := 76) (y := .tup [avProd rp, avI ri, avI re]) rfl (fun w Z u h => by rw [hrd] at h; exact h)) ?_
   refine VO.mv rfl rfl rfl rfl ?_
   refine VO.val rfl rfl (OpV.extract rfl rfl rfl) ?_
   refine VO.val rfl rfl (OpV.extract rfl rfl rfl) ?_
   refine VO.val rfl rfl (OpV.extract rfl rfl rfl) ?_
   refine VO.op rfl (OpE.alloc rfl hB rfl Tryz.zeroValue65 rfl ?_)
   intro g22
   refine VO.op rfl (OpE.store (i := 3) rfl hB rfl Tryz.sizeOf65 rfl rfl rfl rfl rfl rfl (Nle rfl) trivial ?_)
   refine VO.ma rfl rfl rfl rfl ?_
   refine VO.ma rfl rfl rfl rfl ?_
   refine VO.nil ?_
   refine VC.sr ?_
   refine VO.mv rfl rfl rfl rfl ?_
   refine VO.mv rfl rfl rfl rfl ?_
   refine VO.val rfl rfl (OpV.eql rfl rfl rfl) ?_
   refine VO.le _ (Le.boolT (t := 82) rfl (decide_eq_true rfl)) ?_
   refine VO.mv rfl rfl rfl rfl ?_
   refine VO.opY rfl rfl rfl rfl rfl ?_
   refine OpE.val (W := NoB) (OpV.move (.inl rfl) rfl) rfl ?_
   refine VO.opY rfl rfl rfl rfl rfl ?_
   refine OpE.val (W := NoB) (OpV.move (.inl rfl) rfl) rfl ?_
   refine VO.opY rfl rfl rfl rfl rfl ?_
   refine OpE.call rfl hB rfl Tryz.call26 rfl (SpecN.spec (slices_Equal_str (by omega) (by omega))) ?_
   rintro _ rfl
   refine VO.le _ (Le.boolT (t := 86) rfl (eqLs_self sEq_refl _)) ?_
   refine VO.val rfl rfl (OpV.pickT rfl rfl rfl rfl rfl) ?_
   refine VO.mv rfl rfl rfl rfl ?_
   refine VO.opY rfl rfl rfl rfl rfl ?_
   refine OpE.val (W := NoB) (OpV.move (.inl rfl) rfl) rfl ?_
   refine VO.opY rfl rfl rfl rfl rfl ?_
   refine OpE.val (W := NoB) (OpV.move (.inl rfl) rfl) rfl ?_
   refine VO.opY rfl rfl rfl rfl rfl ?_
   refine OpE.call rfl hB rfl Tryz.call26 rfl (SpecN.spec (slices_Equal_str (by omega) (by omega))) ?_
   rintro _ rfl
   refine VO.le _ (Le.boolT (t := 91) rfl (eqLs_self sEq_refl _)) ?_
   refine VO.val rfl rfl (OpV.pickT rfl rfl rfl rfl rfl) ?_
   refine VO.mv rfl rfl rfl rfl ?_
   refine VO.opY rfl rfl rfl rfl rfl ?_
   refine OpE.val (W := NoB) (OpV.move (.inl rfl) rfl) rfl ?_
   refine VO.opY rfl rfl rfl rfl rfl ?_
   refine OpE.val (W := NoB) (OpV.move (.inl rfl) rfl) rfl ?_
   refine VO.opY rfl rfl rfl rfl rfl ?_
   refine OpE.call rfl hB rfl Tryz.call26 rfl (SpecN.spec (slices_Equal_str (by omega) (by omega))) ?_
   rintro _ rfl
   refine VO.le _ (Le.boolT (t := 96) rfl (eqLs_self sEq_refl _)) ?_
   refine VO.val rfl rfl (OpV.pickT rfl rfl rfl rfl rfl) ?_
   refine VO.mv rfl rfl rfl rfl ?_
   refine VO.opY rfl rfl rfl rfl rfl ?_
   refine OpE.val (W := NoB) (OpV.move (.inl rfl) rfl) rfl ?_
   refine VO.opY rfl rfl rfl rfl rfl ?_
   refine OpE.val (W := NoB) (OpV.move (.inl rfl) rfl) rfl ?_
   refine VO.opY rfl rfl rfl rfl rfl ?_
   refine OpE.val (W := NoB) (OpV.eql rfl rfl rfl) rfl ?_
   refine VO.le _ (Le.boolT (t := 101) rfl (decide_eq_true rfl)) ?_
   refine VO.val rfl rfl (OpV.pickT rfl rfl rfl rfl rfl) ?_
   refine VO.mv rfl rfl rfl rfl ?_
   refine VO.opY rfl rfl rfl rfl rfl ?_
   refine OpE.val (W := NoB) (OpV.move (.inl rfl) rfl) rfl ?_
   refine VO.opY rfl rfl rfl rfl rfl ?_
   refine OpE.val (W := NoB) (OpV.move (.inl rfl) rfl) rfl ?_
   refine VO.opY rfl rfl rfl rfl rfl ?_
   refine OpE.val (W := NoB) (OpV.seql rfl rfl rfl) rfl ?_
   refine VO.le _ (Le.boolT (t := 106) rfl (sEq_refl _)) ?_
   refine VO.val rfl rfl (OpV.pickT rfl rfl rfl rfl rfl) ?_
   refine VO.mv rfl rfl rfl rfl ?_
   refine VO.opY rfl rfl rfl rfl rfl ?_
   refine OpE.val (W := NoB) (OpV.loadK_own (i := 2) rfl hB Tryz.isAgg65 Tryz.sizeOf65 rfl rfl rfl (fun h => h)) rfl ?_
   refine VO.opY rfl rfl rfl rfl rfl ?_
   refine OpE.val (W := NoB) (OpV.loadK_own (i := 3) rfl hB Tryz.isAgg65 Tryz.sizeOf65 rfl rfl rfl (fun h => h)) rfl ?_
   refine VO.opY rfl rfl rfl rfl rfl ?_
   refine OpE.call rfl hB rfl Tryz.call46 rfl (SpecN.spec (rf_SameProduct (by omega) (by omega))) ?_
   rintro _ rfl
   refine VO.le _ (Le.boolT (t := 111) rfl (sameP_self _)) ?_
   refine VO.val rfl rfl (OpV.pickT rfl rfl rfl rfl rfl) ?_
   refine VO.mv rfl rfl rfl rfl ?_
   refine VO.opY rfl rfl rfl rfl rfl ?_
   refine OpE.val (W := NoB) (OpV.move (.inl rfl) rfl) rfl ?_
   refine VO.opY rfl rfl rfl rfl rfl ?_
   refine OpE.val (W := NoB) (OpV.move (.inl rfl) rfl) rfl ?_
   refine VO.opY rfl rfl rfl rfl rfl ?_
   refine OpE.val (W := NoB) (OpV.eql rfl rfl rfl) rfl ?_
   refine VO.le _ (Le.boolT (t := 116) rfl (decide_eq_true rfl)) ?_
   refine VO.val rfl rfl (OpV.pickT rfl rfl rfl rfl rfl) ?_
   refine VO.mv rfl rfl rfl rfl ?_
   refine VO.opY rfl rfl rfl rfl rfl ?_
   refine OpE.val (W := NoB) (OpV.move (.inl rfl) rfl) rfl ?_
   refine VO.opY rfl rfl rfl rfl rfl ?_
   refine OpE.val (W := NoB) (OpV.move (.inl rfl) rfl) rfl ?_
   refine VO.opY rfl rfl rfl rfl rfl ?_
   refine OpE.val (W := NoB) (OpV.eql rfl rfl rfl) rfl ?_
   refine VO.le _ (Le.boolT (t := 121) rfl (decide_eq_true rfl)) ?_
   refine VO.val rfl rfl (OpV.pickT rfl rfl rfl rfl rfl) ?_
   refine VO.mv rfl rfl rfl rfl ?_
   refine VO.opY rfl rfl rfl rfl rfl ?_
   refine OpE.call rfl hB rfl Tryz.call47 rfl (SpecN.spec (rf_paneled)) ?_
   rintro _ rfl
   refine VO.val rfl rfl (OpV.pickT rfl rfl rfl rfl rfl) ?_
   refine VO.ma rfl rfl rfl rfl ?_
   refine VO.nil ?_
   refine VC.ret ?_
   exact And.intro rfl rfl
  ·have k5 := k5b
   try simp only [qqT, qqF, qqN, qqM, qqL, qqE] at k5
   refine VC.le _ (Le.recast (t := 18) (y := avS wt) rfl (fun w Z u h => by rw [← hwt, if_neg (fun e => k5 (he1.symm.trans e))]; exact h)) ?_
   refine VC.skip ?_
   refine VC.sr ?_
   refine VO.mv rfl rfl rfl rfl ?_
   refine VO.op rfl (OpE.call rfl hB rfl Tryz.call44 rfl (panel_ReadP (by omega)) ?_)
   rintro _ rfl
   refine VO.le _ (Le.recast (t := 70) (y := .tup [avProd rp, avI ri, avI re]) rfl (fun w Z u h => by rw [hrd] at h; exact h)) ?_
   refine VO.mv rfl rfl rfl rfl ?_
   refine VO.val rfl rfl (OpV.extract rfl rfl rfl) ?_
   refine VO.val rfl rfl (OpV.extract rfl rfl rfl) ?_
   refine VO.val rfl rfl (OpV.extract rfl rfl rfl) ?_
   refine VO.op rfl (OpE.alloc rfl hB rfl Tryz.zeroValue65 rfl ?_)
   intro g19
   refine VO.op rfl (OpE.store (i := 2) rfl hB rfl Tryz.sizeOf65 rfl rfl rfl rfl rfl rfl (Nle rfl) trivial ?_)
   refine VO.ma rfl rfl rfl rfl ?_
   refine VO.ma rfl rfl rfl rfl ?_
   refine VO.nil ?_
   refine VC.sr ?_
   refine VO.mv rfl rfl rfl rfl ?_
   refine VO.op rfl (OpE.callW rfl hB rfl Tryz.call45 rfl (rf_ProductRead (by omega)) hG ?_)
   rintro _ rfl
   refine VO.le _ (Le.recast (t := 76) (y := .tup [avProd rp, avI ri, avI re]) rfl (fun w Z u h => by rw [hrd] at h; exact h)) ?_
   refine VO.mv rfl rfl rfl rfl ?_
   refine VO.val rfl rfl (OpV.extract rfl rfl rfl) ?_
   refine VO.val rfl rfl (OpV.extract rfl rfl rfl) ?_
   refine VO.val rfl rfl (OpV.extract rfl rfl rfl) ?_
   refine VO.op rfl (OpE.alloc rfl hB rfl Tryz.zeroValue65 rfl ?_)
   intro g22
   refine VO.op rfl (OpE.store (i := 3) rfl hB rfl Tryz.sizeOf65 rfl rfl rfl rfl rfl rfl (Nle rfl) trivial ?_)
   refine VO.ma rfl rfl rfl rfl ?_
   refine VO.ma rfl rfl rfl rfl ?_
   refine VO.nil ?_
   refine VC.sr ?_
   refine VO.mv rfl rfl rfl rfl ?_
   refine VO.mv rfl rfl rfl rfl ?_
   refine VO.val rfl rfl (OpV.eql rfl rfl rfl) ?_
   refine VO.le _ (Le.boolT (t := 82) rfl (decide_eq_true rfl)) ?_
   refine VO.mv rfl rfl rfl rfl ?_
   refine VO.opY rfl rfl rfl rfl rfl ?_
   refine OpE.val (W := NoB) (OpV.move (.inl rfl) rfl) rfl ?_
   refine VO.opY rfl rfl rfl rfl rfl ?_
   refine OpE.val (W := NoB) (OpV.move (.inl rfl) rfl) rfl ?_
   refine VO.opY rfl rfl rfl rfl rfl ?_
   refine OpE.call rfl hB rfl Tryz.call26 rfl (SpecN.spec (slices_Equal_str (by omega) (by omega))) ?_
   rintro _ rfl
   refine VO.le _ (Le.boolT (t := 86) rfl (eqLs_self sEq_refl _)) ?_
   refine VO.val rfl rfl (OpV.pickT rfl rfl rfl rfl rfl) ?_
   refine VO.mv rfl rfl rfl rfl ?_
   refine VO.opY rfl rfl rfl rfl rfl ?_
   refine OpE.val (W := NoB) (OpV.move (.inl rfl) rfl) rfl ?_
   refine VO.opY rfl rfl rfl rfl rfl ?_
   refine OpE.val (W := NoB) (OpV.move (.inl rfl) rfl) rfl ?_
   refine VO.opY rfl rfl rfl rfl rfl ?_
   refine OpE.call rfl hB rfl Tryz.call26 rfl (SpecN.spec (slices_Equal_str (by omega) (by omega))) ?_
   rintro _ rfl
   refine VO.le _ (Le.boolT (t := 91) rfl (eqLs_self sEq_refl _)) ?_
   refine VO.val rfl rfl (OpV.pickT rfl rfl rfl rfl rfl) ?_
   refine VO.mv rfl rfl rfl rfl ?_
   refine VO.opY rfl rfl rfl rfl rfl ?_
   refine OpE.val (W := NoB) (OpV.move (.inl rfl) rfl) rfl ?_
   refine VO.opY rfl rfl rfl rfl rfl ?_
   refine OpE.val (W := NoB) (OpV.move (.inl rfl) rfl) rfl ?_
   refine VO.opY rfl rfl rfl rfl rfl ?_
   refine OpE.call rfl hB rfl Tryz.call26 rfl (SpecN.spec (slices_Equal_str (by omega) (by omega))) ?_
   rintro _ rfl
   refine VO.le _ (Le.boolT (t := 96) rfl (eqLs_self sEq_refl _)) ?_
   refine VO.val rfl rfl (OpV.pickT rfl rfl rfl rfl rfl) ?_
   refine VO.mv rfl rfl rfl rfl ?_
   refine VO.opY rfl rfl rfl rfl rfl ?_
   refine OpE.val (W := NoB) (OpV.move (.inl rfl) rfl) rfl ?_
   refine VO.opY rfl rfl rfl rfl rfl ?_
   refine OpE.val (W := NoB) (OpV.move (.inl rfl) rfl) rfl ?_
   refine VO.opY rfl rfl rfl rfl rfl ?_
   refine OpE.val (W := NoB) (OpV.eql rfl rfl rfl) rfl ?_
   refine VO.le _ (Le.boolT (t := 101) rfl (decide_eq_true rfl)) ?_
   refine VO.val rfl rfl (OpV.pickT rfl rfl rfl rfl rfl) ?_
   refine VO.mv rfl rfl rfl rfl ?_
   refine VO.opY rfl rfl rfl rfl rfl ?_
   refine OpE.val (W := NoB) (OpV.move (.inl rfl) rfl) rfl ?_
   refine VO.opY rfl rfl rfl rfl rfl ?_
   refine OpE.val (W := NoB) (OpV.move (.inl rfl) rfl) rfl ?_
   refine VO.opY rfl rfl rfl rfl rfl ?_
   refine OpE.val (W := NoB) (OpV.seql rfl rfl rfl) rfl ?_
   refine VO.le _ (Le.boolT (t := 106) rfl (sEq_refl _)) ?_
   refine VO.val rfl rfl (OpV.pickT rfl rfl rfl rfl rfl) ?_
   refine VO.mv rfl rfl rfl rfl ?_
   refine VO.opY rfl rfl rfl rfl rfl ?_
   refine OpE.val (W := NoB) (OpV.loadK_own (i := 2) rfl hB Tryz.isAgg65 Tryz.sizeOf65 rfl rfl rfl (fun h => h)) rfl ?_
   refine VO.opY rfl rfl rfl rfl rfl ?_
   refine OpE.val (W := NoB) (OpV.loadK_own (i := 3) rfl hB Tryz.isAgg65 Tryz.sizeOf65 rfl rfl rfl (fun h => h)) rfl ?_
   refine VO.opY rfl rfl rfl rfl rfl ?_
   refine OpE.call rfl hB rfl Tryz.call46 rfl (SpecN.spec (rf_SameProduct (by omega) (by omega))) ?_
   rintro _ rfl
   refine VO.le _ (Le.boolT (t := 111) rfl (sameP_self _)) ?_
   refine VO.val rfl rfl (OpV.pickT rfl rfl rfl rfl rfl) ?_
   refine VO.mv rfl rfl rfl rfl ?_
   refine VO.opY rfl rfl rfl rfl rfl ?_
   refine OpE.val (W := NoB) (OpV.move (.inl rfl) rfl) rfl ?_
   refine VO.opY rfl rfl rfl rfl rfl ?_
   refine OpE.val (W := NoB) (OpV.move (.inl rfl) rfl) rfl ?_
   refine VO.opY rfl rfl rfl rfl rfl ?_
   refine OpE.val (W := NoB) (OpV.eql rfl rfl rfl) rfl ?_
   refine VO.le _ (Le.boolT (t := 116) rfl (decide_eq_true rfl)) ?_
   refine VO.val rfl rfl (OpV.pickT rfl rfl rfl rfl rfl) ?_
   refine VO.mv rfl rfl rfl rfl ?_
   refine VO.opY rfl rfl rfl rfl rfl ?_
   refine OpE.val (W := NoB) (OpV.move (.inl rfl) rfl) rfl ?_
   refine VO.opY rfl rfl rfl rfl rfl ?_
   refine OpE.val (W := NoB) (OpV.move (.inl rfl) rfl) rfl ?_
   refine VO.opY rfl rfl rfl rfl rfl ?_
   refine OpE.val (W := NoB) (OpV.eql rfl rfl rfl) rfl ?_
   refine VO.le _ (Le.boolT (t := 121) rfl (decide_eq_true rfl)) ?_
   refine VO.val rfl rfl (OpV.pickT rfl rfl rfl rfl rfl) ?_
   refine VO.mv rfl rfl rfl rfl ?_
   refine VO.opY rfl rfl rfl rfl rfl ?_
   refine OpE.call rfl hB rfl Tryz.call47 rfl (SpecN.spec (rf_paneled)) ?_
   rintro _ rfl
   refine VO.val rfl rfl (OpV.pickT rfl rfl rfl rfl rfl) ?_
   refine VO.ma rfl rfl rfl rfl ?_
   refine VO.nil ?_
   refine VC.ret ?_
   exact And.intro rfl rfl
end Go.Proofs.YtbbgjeiefmiblaaGreatDoor
