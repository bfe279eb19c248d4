/- Walks: the best order. -/
import Derived.Test.YtpajnlcikmhpdaaDoorNextS3
import Derived.Test.YtpajnlcikmhpdaaDoorOrdP
namespace Go.Proofs.YtpajnlcikmhpdaaDoor
open Go.RowKit
set_option linter.unusedVariables false
set_option linter.unusedSimpArgs false

theorem pickP_sm {p : List (List ByteArray)} (hp : SmSS p) {o : List Int} (ho : o.length ≤ 1000) : SmSS (pickP p o) := ⟨by rw [pickP_len]; omega, fun i => by
  by_cases h : i < o.length
  · rw [pickP_get h]; exact hp.2 _
  · rw [List.getD_eq_getElem?_getD, List.getElem?_eq_none (by rw [pickP_len]; omega)]; exact SmS.nil⟩
/-- The first q places new. -/
def mixL (p : List (List ByteArray)) (o : List Int) (l : List (List ByteArray)) (q : Nat) : List (List ByteArray) := pickP p (o.take q) ++ l.drop q
theorem mixL_zero (p : List (List ByteArray)) (o : List Int) (l : List (List ByteArray)) : mixL p o l 0 = l := rfl
theorem mixL_len {p : List (List ByteArray)} {o : List Int} {l : List (List ByteArray)} {q : Nat} (h : o.length = l.length) (hq : q ≤ o.length) : (mixL p o l q).length = l.length := by
  rw [mixL, List.length_append, pickP_len, List.length_take, List.length_drop]; omega
theorem mixL_all {p : List (List ByteArray)} {o : List Int} {l : List (List ByteArray)} (h : o.length = l.length) : mixL p o l o.length = pickP p o := by
  rw [mixL, List.take_length, h, List.drop_length, List.append_nil]
theorem mixL_set {p : List (List ByteArray)} {o : List Int} {l : List (List ByteArray)} {q : Nat} (h : o.length = l.length) (hq : q < o.length) : (mixL p o l q).set q (p.getD (o.getD q 0).toNat default) = mixL p o l (q + 1) := by
  have h1 : (pickP p (o.take q)).length = q := by rw [pickP_len, List.length_take]; omega
  unfold mixL
  rw [List.set_append_right _ _ (by omega), h1, Nat.sub_self, List.drop_eq_getElem_cons (by omega : q < l.length), List.set_cons_zero]
  have : pickP p (o.take (q + 1)) = pickP p (o.take q) ++ [p.getD (o.getD q 0).toNat default] := by
    rw [take_succ_getD (d := 0) hq, pickP, List.map_append]; rfl
  rw [this, List.append_assoc]; rfl
abbrev bestO' (s : List ByteArray) (p : List (List ByteArray)) (To Ti Tm Ts : TypeId) (gp gl gs gle gb ga : Nat) (ub : Value) (b : List Int) (least : Int) (l : List (List ByteArray)) : List Ent :=
  [.box gp ⟨[avM p], Tm, 1⟩, .box gl ⟨[.v (.slice (some ⟨ga, 0, none⟩) p.length p.length)], Tm, 1⟩, .box gs ⟨[avStrs s], Ts, 1⟩, .box gle ⟨[avI least], Ti, 1⟩, .box gb ⟨[.v ub], To, 1⟩, .box ga ⟨listM l, Ts, p.length⟩, .row ub b.length 1 (intsL b) Ti]
theorem totalF_in {s : List ByteArray} {q : List (List ByteArray)} {m : Int} (hs : s.length ≤ 100) (hp : ∀ j, j < q.length → RightP s.length (q.getD j default)) (hm : 0 ≤ m) : 0 ≤ totalF s q m := by
  have := totF_in hs hp q.length (Nat.le_refl _)
  unfold totalF
  split
  · omega
  · split <;> omega
set_option maxRecDepth 100000 in
theorem setup_Best1 {s : List ByteArray} {p : List (List ByteArray)} {o : List Int} {c : Nat} {u ub : Value} {b : List Int} {least : Int} {l : List (List ByteArray)} {gp gl gs gle gb ga : Nat} (hg : Good' s) (hp : ∀ q, q < p.length → RightP s.length (p.getD q default)) (hps : SmSS p) (hl8 : p.length ≤ 8) (ho : Ord p.length o) (hoc : o.length = c) (hcn : c = p.length) (hl : l.length = p.length) (hlb : 0 ≤ least ∧ least ≤ 20001) :
    SpecH Tryd.prog 57 [.v u, pt gp, pt gl, pt gs, pt gle, pt gb] (.row u c 1 (intsL o) 3 :: bestO' s p 22 3 30 27 gp gl gs gle gb ga ub b least l) (fun y hp' => ∃ ub' l', l'.length = p.length ∧ hp' = .row u c 1 (intsL o) 3 :: bestO' s p 22 3 30 27 gp gl gs gle gb ga ub' (stepP s p ⟨b, least⟩ o).best (stepP s p ⟨b, least⟩ o).least l') := by
  have hol : o.length = l.length := by omega
  have hls := hg.len
  refine SpecH.of_VC Tryd.func57 rfl Tryd.ntmps57 (Nat.le_of_ble_eq_true rfl) fun w A hB => ?_
  have hnew : True := trivial
  refine VC.seq ?_
  refine VC.seq ?_
  refine VC.region ?_
  refine VO.val rfl rfl (OpV.move (.inl rfl) rfl) ?_
  first
    | refine VO.val rfl rfl (OpV.len_im rfl Tryd.underlying22 rfl) ?_
    | refine VO.val rfl rfl (OpV.len_v rfl Tryd.underlying22 rfl) ?_
    | refine VO.val rfl rfl (OpV.len_row (i := 0) rfl Tryd.underlying22 rfl rfl) ?_
    | refine VO.val rfl rfl (OpV.len_row (i := 1) rfl Tryd.underlying22 rfl rfl) ?_
    | refine VO.val rfl rfl (OpV.len_row (i := 2) rfl Tryd.underlying22 rfl rfl) ?_
    | refine VO.val rfl rfl (OpV.len_row (i := 3) rfl Tryd.underlying22 rfl rfl) ?_
    | refine VO.val rfl rfl (OpV.len_row (i := 4) rfl Tryd.underlying22 rfl rfl) ?_
    | refine VO.val rfl rfl (OpV.len_row (i := 5) rfl Tryd.underlying22 rfl rfl) ?_
    | refine VO.val rfl rfl (OpV.len_row (i := 6) rfl Tryd.underlying22 rfl rfl) ?_
    | refine VO.val rfl rfl (OpV.len_row (i := 7) rfl Tryd.underlying22 rfl rfl) ?_
  refine VO.val rfl rfl (OpV.move (.inl rfl) rfl) ?_
  refine VO.nil ?_
  show VC _ _ _ _ _
  refine VC.block ?_
  refine VC.loopK [(0, _), (1, _), (2, _), (3, _), (4, _), (5, _), (10, _), (11, _)] ⟨rfl, rfl, rfl, rfl, rfl, rfl, rfl, rfl, trivial⟩ ({q : Nat // q ≤ c}) (fun (i : {q : Nat // q ≤ c}) => match i with | ⟨q, hq⟩ => [(12, avI (q : Int))]) (fun (i : {q : Nat // q ≤ c}) => match i with | ⟨q, hq⟩ => [.row u c 1 (intsL o) 3, .box gp ⟨[avM p], 30, 1⟩, .box gl ⟨[.v (.slice (some ⟨ga, 0, none⟩) p.length p.length)], 30, 1⟩, .box gs ⟨[avStrs s], 27, 1⟩, .box gle ⟨[avI least], 3, 1⟩, .box gb ⟨[.v ub], 22, 1⟩, .box ga ⟨listM (mixL p o l q), 27, p.length⟩, .row ub b.length 1 (intsL b) 3]) (fun (i : {q : Nat // q ≤ c}) => match i with | ⟨q, hq⟩ => 0) (fun (i : {q : Nat // q ≤ c}) => match i with | ⟨q, hq⟩ => c - q) ⟨0, Nat.zero_le _⟩ (Le.mk hB [0, 1, 2, 3, 4, 5, 6, 7] ⟨rfl, rfl, rfl, rfl, rfl, rfl, rfl, rfl, rfl, trivial⟩ rfl rfl (Nat.le_refl _)) ?_
  rintro ⟨q, hq⟩
  show VC _ _ _ _ ⟨[(12, avI (q : Int))] ++ [(0, _), (1, _), (2, _), (3, _), (4, _), (5, _), (10, _), (11, _)], [.row u c 1 (intsL o) 3, .box gp ⟨[avM p], 30, 1⟩, .box gl ⟨[.v (.slice (some ⟨ga, 0, none⟩) p.length p.length)], 30, 1⟩, .box gs ⟨[avStrs s], 27, 1⟩, .box gle ⟨[avI least], 3, 1⟩, .box gb ⟨[.v ub], 22, 1⟩, .box ga ⟨listM (mixL p o l q), 27, p.length⟩, .row ub b.length 1 (intsL b) 3], 0⟩
  refine VC.seq ?_
  refine VC.region ?_
  refine VO.val rfl rfl (OpV.lss rfl rfl rfl) ?_
  refine VO.nil ?_
  show VC _ _ _ _ _
  refine VC.seq ?_
  refine VC.cond rfl (fun aH1b => ?_) (fun aH1b => ?_)
  · have aH1 := aH1b
    try simp only [decide_eq_true_eq, decide_eq_false_iff_not, Bool.not_eq_true', Bool.not_eq_false', Int.not_lt, Int.not_le] at aH1
    have hoq := ho.lt (o.getD q 0) (by simp [show q < o.length by omega])
    have hml := mixL_len (p := p) (o := o) (l := l) (q := q) hol (by omega)
    refine VC.asBox (i := 0) rfl (by omega) (fun g cap hu hcap hmx => ?_)
    subst hu
    refine VC.skip ?_
    show VC _ _ _ _ _
    refine VC.seq ?_
    refine VC.block ?_
    refine VC.seq ?_
    refine VC.region ?_
    refine VO.val rfl rfl (OpV.move (.inl rfl) rfl) ?_
    first
      | refine VO.val rfl rfl (OpV.indexAddr_1 rfl Tryd.underlying22 Tryd.sizeOf3 rfl rfl rfl (by omega)) ?_
      | refine VO.val rfl rfl (OpV.indexAddr_1 rfl Tryd.underlying22 Tryd.sizeOf3 rfl rfl (Int.toNat_of_nonneg (by omega)).symm (by omega)) ?_
      | refine VO.val rfl rfl (OpV.indexAddr_o rfl Tryd.underlying22 Tryd.sizeOf3 rfl rfl rfl (by omega)) ?_
      | refine VO.val rfl rfl (OpV.indexAddr_o rfl Tryd.underlying22 Tryd.sizeOf3 rfl rfl (Int.toNat_of_nonneg (by omega)).symm (by omega)) ?_
      | refine VO.val rfl rfl (OpV.indexAddr_q rfl Tryd.underlying22 Tryd.sizeOf3 rfl rfl rfl (by omega)) ?_
      | refine VO.val rfl rfl (OpV.indexAddr_q rfl Tryd.underlying22 Tryd.sizeOf3 rfl rfl (Int.toNat_of_nonneg (by omega)).symm (by omega)) ?_
      | refine VO.val rfl rfl (OpV.indexAddr_im rfl Tryd.underlying22 Tryd.sizeOf3 rfl rfl (by omega) (by omega)) ?_
    first
      | refine VO.val rfl rfl (OpV.load_at rfl hB OutW.no Tryd.isAgg3 rfl rfl) ?_
      | refine VO.val rfl rfl (OpV.load_own (i := 0) rfl hB Tryd.isAgg3 rfl rfl (intsL_get (j := q) (by omega)) (fun h => h)) ?_
      | refine VO.val rfl rfl (OpV.load_own (i := 1) rfl hB Tryd.isAgg3 rfl rfl (intsL_get (j := q) (by omega)) (fun h => h)) ?_
      | refine VO.val rfl rfl (OpV.load_own (i := 2) rfl hB Tryd.isAgg3 rfl rfl (intsL_get (j := q) (by omega)) (fun h => h)) ?_
      | refine VO.val rfl rfl (OpV.load_own (i := 3) rfl hB Tryd.isAgg3 rfl rfl (intsL_get (j := q) (by omega)) (fun h => h)) ?_
      | refine VO.val rfl rfl (OpV.load_own (i := 4) rfl hB Tryd.isAgg3 rfl rfl (intsL_get (j := q) (by omega)) (fun h => h)) ?_
      | refine VO.val rfl rfl (OpV.load_own (i := 5) rfl hB Tryd.isAgg3 rfl rfl (intsL_get (j := q) (by omega)) (fun h => h)) ?_
      | refine VO.val rfl rfl (OpV.load_own (i := 6) rfl hB Tryd.isAgg3 rfl rfl (intsL_get (j := q) (by omega)) (fun h => h)) ?_
      | refine VO.val rfl rfl (OpV.load_own (i := 7) rfl hB Tryd.isAgg3 rfl rfl (intsL_get (j := q) (by omega)) (fun h => h)) ?_
    refine VO.val rfl rfl (OpV.move (.inr rfl) rfl) ?_
    refine VO.val rfl rfl (OpV.move (.inr rfl) rfl) ?_
    refine VO.nil ?_
    show VC _ _ _ _ _
    refine VC.draw (fun j b => j = 7 ∧ b = ga) hB (by kernel_rfl) ?_
    first
      | refine VA.take (i := 0) rfl (by kernel_rfl) (by kernel_rfl) (by kernel_rfl) rfl rfl (OpV.load_at rfl hB (by first | exact OutW.wi1 (k := 0) rfl rfl | exact OutW.wi1 (k := 1) rfl rfl | exact OutW.wi1 (k := 2) rfl rfl | exact OutW.wi1 (k := 3) rfl rfl | exact OutW.wi1 (k := 4) rfl rfl | exact OutW.wi1 (k := 5) rfl rfl | exact OutW.wi1 (k := 6) rfl rfl | exact OutW.wi1 (k := 7) rfl rfl) Tryd.isAgg30 rfl rfl) ?_
      | refine VA.take (i := 0) rfl (by kernel_rfl) (by kernel_rfl) (by kernel_rfl) rfl rfl (OpV.load_own (i := 0) rfl hB Tryd.isAgg30 rfl rfl rfl (by first | exact Wi.not1 (by kernel_rfl) | exact Wi.not2 (by kernel_rfl) (by kernel_rfl))) ?_
      | refine VA.take (i := 0) rfl (by kernel_rfl) (by kernel_rfl) (by kernel_rfl) rfl rfl (OpV.load_own (i := 1) rfl hB Tryd.isAgg30 rfl rfl rfl (by first | exact Wi.not1 (by kernel_rfl) | exact Wi.not2 (by kernel_rfl) (by kernel_rfl))) ?_
      | refine VA.take (i := 0) rfl (by kernel_rfl) (by kernel_rfl) (by kernel_rfl) rfl rfl (OpV.load_own (i := 2) rfl hB Tryd.isAgg30 rfl rfl rfl (by first | exact Wi.not1 (by kernel_rfl) | exact Wi.not2 (by kernel_rfl) (by kernel_rfl))) ?_
      | refine VA.take (i := 0) rfl (by kernel_rfl) (by kernel_rfl) (by kernel_rfl) rfl rfl (OpV.load_own (i := 3) rfl hB Tryd.isAgg30 rfl rfl rfl (by first | exact Wi.not1 (by kernel_rfl) | exact Wi.not2 (by kernel_rfl) (by kernel_rfl))) ?_
      | refine VA.take (i := 0) rfl (by kernel_rfl) (by kernel_rfl) (by kernel_rfl) rfl rfl (OpV.load_own (i := 4) rfl hB Tryd.isAgg30 rfl rfl rfl (by first | exact Wi.not1 (by kernel_rfl) | exact Wi.not2 (by kernel_rfl) (by kernel_rfl))) ?_
      | refine VA.take (i := 0) rfl (by kernel_rfl) (by kernel_rfl) (by kernel_rfl) rfl rfl (OpV.load_own (i := 5) rfl hB Tryd.isAgg30 rfl rfl rfl (by first | exact Wi.not1 (by kernel_rfl) | exact Wi.not2 (by kernel_rfl) (by kernel_rfl))) ?_
      | refine VA.take (i := 0) rfl (by kernel_rfl) (by kernel_rfl) (by kernel_rfl) rfl rfl (OpV.load_own (i := 6) rfl hB Tryd.isAgg30 rfl rfl rfl (by first | exact Wi.not1 (by kernel_rfl) | exact Wi.not2 (by kernel_rfl) (by kernel_rfl))) ?_
      | refine VA.take (i := 0) rfl (by kernel_rfl) (by kernel_rfl) (by kernel_rfl) rfl rfl (OpV.load_own (i := 7) rfl hB Tryd.isAgg30 rfl rfl rfl (by first | exact Wi.not1 (by kernel_rfl) | exact Wi.not2 (by kernel_rfl) (by kernel_rfl))) ?_
    refine VA.take (i := 1) rfl (by kernel_rfl) (by kernel_rfl) (by kernel_rfl) rfl rfl (OpV.move (.inl rfl) rfl) ?_
    first
      | refine VA.take (i := 2) rfl (by kernel_rfl) (by kernel_rfl) (by kernel_rfl) rfl rfl (OpV.load_at rfl hB (by first | exact OutW.wi1 (k := 0) rfl rfl | exact OutW.wi1 (k := 1) rfl rfl | exact OutW.wi1 (k := 2) rfl rfl | exact OutW.wi1 (k := 3) rfl rfl | exact OutW.wi1 (k := 4) rfl rfl | exact OutW.wi1 (k := 5) rfl rfl | exact OutW.wi1 (k := 6) rfl rfl | exact OutW.wi1 (k := 7) rfl rfl) Tryd.isAgg30 rfl rfl) ?_
      | refine VA.take (i := 2) rfl (by kernel_rfl) (by kernel_rfl) (by kernel_rfl) rfl rfl (OpV.load_own (i := 0) rfl hB Tryd.isAgg30 rfl rfl rfl (by first | exact Wi.not1 (by kernel_rfl) | exact Wi.not2 (by kernel_rfl) (by kernel_rfl))) ?_
      | refine VA.take (i := 2) rfl (by kernel_rfl) (by kernel_rfl) (by kernel_rfl) rfl rfl (OpV.load_own (i := 1) rfl hB Tryd.isAgg30 rfl rfl rfl (by first | exact Wi.not1 (by kernel_rfl) | exact Wi.not2 (by kernel_rfl) (by kernel_rfl))) ?_
      | refine VA.take (i := 2) rfl (by kernel_rfl) (by kernel_rfl) (by kernel_rfl) rfl rfl (OpV.load_own (i := 2) rfl hB Tryd.isAgg30 rfl rfl rfl (by first | exact Wi.not1 (by kernel_rfl) | exact Wi.not2 (by kernel_rfl) (by kernel_rfl))) ?_
      | refine VA.take (i := 2) rfl (by kernel_rfl) (by kernel_rfl) (by kernel_rfl) rfl rfl (OpV.load_own (i := 3) rfl hB Tryd.isAgg30 rfl rfl rfl (by first | exact Wi.not1 (by kernel_rfl) | exact Wi.not2 (by kernel_rfl) (by kernel_rfl))) ?_
      | refine VA.take (i := 2) rfl (by kernel_rfl) (by kernel_rfl) (by kernel_rfl) rfl rfl (OpV.load_own (i := 4) rfl hB Tryd.isAgg30 rfl rfl rfl (by first | exact Wi.not1 (by kernel_rfl) | exact Wi.not2 (by kernel_rfl) (by kernel_rfl))) ?_
      | refine VA.take (i := 2) rfl (by kernel_rfl) (by kernel_rfl) (by kernel_rfl) rfl rfl (OpV.load_own (i := 5) rfl hB Tryd.isAgg30 rfl rfl rfl (by first | exact Wi.not1 (by kernel_rfl) | exact Wi.not2 (by kernel_rfl) (by kernel_rfl))) ?_
      | refine VA.take (i := 2) rfl (by kernel_rfl) (by kernel_rfl) (by kernel_rfl) rfl rfl (OpV.load_own (i := 6) rfl hB Tryd.isAgg30 rfl rfl rfl (by first | exact Wi.not1 (by kernel_rfl) | exact Wi.not2 (by kernel_rfl) (by kernel_rfl))) ?_
      | refine VA.take (i := 2) rfl (by kernel_rfl) (by kernel_rfl) (by kernel_rfl) rfl rfl (OpV.load_own (i := 7) rfl hB Tryd.isAgg30 rfl rfl rfl (by first | exact Wi.not1 (by kernel_rfl) | exact Wi.not2 (by kernel_rfl) (by kernel_rfl))) ?_
    refine VA.take (i := 3) rfl (by kernel_rfl) (by kernel_rfl) (by kernel_rfl) rfl rfl (OpV.move (.inl rfl) rfl) ?_
    first
      | refine VA.take (i := 4) rfl (by kernel_rfl) (by kernel_rfl) (by kernel_rfl) rfl rfl (OpV.indexAddr_1 rfl Tryd.underlying30 Tryd.sizeOf27 rfl rfl (Int.toNat_of_nonneg hoq.1).symm (by omega)) ?_
      | refine VA.take (i := 4) rfl (by kernel_rfl) (by kernel_rfl) (by kernel_rfl) rfl rfl (OpV.indexAddr_o rfl Tryd.underlying30 Tryd.sizeOf27 rfl rfl (Int.toNat_of_nonneg hoq.1).symm (by omega)) ?_
      | refine VA.take (i := 4) rfl (by kernel_rfl) (by kernel_rfl) (by kernel_rfl) rfl rfl (OpV.indexAddr_q rfl Tryd.underlying30 Tryd.sizeOf27 rfl rfl (Int.toNat_of_nonneg hoq.1).symm (by omega)) ?_
      | refine VA.take (i := 4) rfl (by kernel_rfl) (by kernel_rfl) (by kernel_rfl) rfl rfl (OpV.indexAddr_im rfl Tryd.underlying30 Tryd.sizeOf27 rfl rfl (by omega) (by omega)) ?_
    first
      | refine VA.take (i := 5) rfl (by kernel_rfl) (by kernel_rfl) (by kernel_rfl) rfl rfl (OpV.load_at rfl hB (by first | exact OutW.wi1 (k := 0) rfl rfl | exact OutW.wi1 (k := 1) rfl rfl | exact OutW.wi1 (k := 2) rfl rfl | exact OutW.wi1 (k := 3) rfl rfl | exact OutW.wi1 (k := 4) rfl rfl | exact OutW.wi1 (k := 5) rfl rfl | exact OutW.wi1 (k := 6) rfl rfl | exact OutW.wi1 (k := 7) rfl rfl) Tryd.isAgg27 rfl rfl) ?_
      | refine VA.take (i := 5) rfl (by kernel_rfl) (by kernel_rfl) (by kernel_rfl) rfl rfl (OpV.load_own (i := 0) rfl hB Tryd.isAgg27 rfl rfl rfl (by first | exact Wi.not1 (by kernel_rfl) | exact Wi.not2 (by kernel_rfl) (by kernel_rfl))) ?_
      | refine VA.take (i := 5) rfl (by kernel_rfl) (by kernel_rfl) (by kernel_rfl) rfl rfl (OpV.load_own (i := 1) rfl hB Tryd.isAgg27 rfl rfl rfl (by first | exact Wi.not1 (by kernel_rfl) | exact Wi.not2 (by kernel_rfl) (by kernel_rfl))) ?_
      | refine VA.take (i := 5) rfl (by kernel_rfl) (by kernel_rfl) (by kernel_rfl) rfl rfl (OpV.load_own (i := 2) rfl hB Tryd.isAgg27 rfl rfl rfl (by first | exact Wi.not1 (by kernel_rfl) | exact Wi.not2 (by kernel_rfl) (by kernel_rfl))) ?_
      | refine VA.take (i := 5) rfl (by kernel_rfl) (by kernel_rfl) (by kernel_rfl) rfl rfl (OpV.load_own (i := 3) rfl hB Tryd.isAgg27 rfl rfl rfl (by first | exact Wi.not1 (by kernel_rfl) | exact Wi.not2 (by kernel_rfl) (by kernel_rfl))) ?_
      | refine VA.take (i := 5) rfl (by kernel_rfl) (by kernel_rfl) (by kernel_rfl) rfl rfl (OpV.load_own (i := 4) rfl hB Tryd.isAgg27 rfl rfl rfl (by first | exact Wi.not1 (by kernel_rfl) | exact Wi.not2 (by kernel_rfl) (by kernel_rfl))) ?_
      | refine VA.take (i := 5) rfl (by kernel_rfl) (by kernel_rfl) (by kernel_rfl) rfl rfl (OpV.load_own (i := 5) rfl hB Tryd.isAgg27 rfl rfl rfl (by first | exact Wi.not1 (by kernel_rfl) | exact Wi.not2 (by kernel_rfl) (by kernel_rfl))) ?_
      | refine VA.take (i := 5) rfl (by kernel_rfl) (by kernel_rfl) (by kernel_rfl) rfl rfl (OpV.load_own (i := 6) rfl hB Tryd.isAgg27 rfl rfl rfl (by first | exact Wi.not1 (by kernel_rfl) | exact Wi.not2 (by kernel_rfl) (by kernel_rfl))) ?_
      | refine VA.take (i := 5) rfl (by kernel_rfl) (by kernel_rfl) (by kernel_rfl) rfl rfl (OpV.load_own (i := 7) rfl hB Tryd.isAgg27 rfl rfl rfl (by first | exact Wi.not1 (by kernel_rfl) | exact Wi.not2 (by kernel_rfl) (by kernel_rfl))) ?_
    first
      | refine VA.take (i := 6) rfl (by kernel_rfl) (by kernel_rfl) (by kernel_rfl) rfl rfl (OpV.indexAddr_1 rfl Tryd.underlying30 Tryd.sizeOf27 rfl rfl rfl (by omega)) ?_
      | refine VA.take (i := 6) rfl (by kernel_rfl) (by kernel_rfl) (by kernel_rfl) rfl rfl (OpV.indexAddr_1 rfl Tryd.underlying30 Tryd.sizeOf27 rfl rfl (Int.toNat_of_nonneg (by omega)).symm (by omega)) ?_
      | refine VA.take (i := 6) rfl (by kernel_rfl) (by kernel_rfl) (by kernel_rfl) rfl rfl (OpV.indexAddr_o rfl Tryd.underlying30 Tryd.sizeOf27 rfl rfl rfl (by omega)) ?_
      | refine VA.take (i := 6) rfl (by kernel_rfl) (by kernel_rfl) (by kernel_rfl) rfl rfl (OpV.indexAddr_o rfl Tryd.underlying30 Tryd.sizeOf27 rfl rfl (Int.toNat_of_nonneg (by omega)).symm (by omega)) ?_
      | refine VA.take (i := 6) rfl (by kernel_rfl) (by kernel_rfl) (by kernel_rfl) rfl rfl (OpV.indexAddr_q rfl Tryd.underlying30 Tryd.sizeOf27 rfl rfl rfl (by omega)) ?_
      | refine VA.take (i := 6) rfl (by kernel_rfl) (by kernel_rfl) (by kernel_rfl) rfl rfl (OpV.indexAddr_q rfl Tryd.underlying30 Tryd.sizeOf27 rfl rfl (Int.toNat_of_nonneg (by omega)).symm (by omega)) ?_
      | refine VA.take (i := 6) rfl (by kernel_rfl) (by kernel_rfl) (by kernel_rfl) rfl rfl (OpV.indexAddr_im rfl Tryd.underlying30 Tryd.sizeOf27 rfl rfl (by omega) (by omega)) ?_
    refine VA.all (rs := [7]) (by kernel_rfl) (by decide) ?_
    refine ⟨⟨_, rfl, .inl rfl, ?_⟩, trivial⟩
    first
      | refine OpE.store1 (i := 0) rfl hB rfl Tryd.sizeOf27 rfl rfl rfl rfl rfl rfl (by rw [listM_len]; omega) ((listM_set _ _ _).trans (congrArg listM (mixL_set hol (by omega)))) (by first | exact ⟨rfl, rfl⟩ | exact .inl ⟨rfl, rfl⟩ | exact .inr ⟨rfl, rfl⟩) ?_
      | refine OpE.store1 (i := 1) rfl hB rfl Tryd.sizeOf27 rfl rfl rfl rfl rfl rfl (by rw [listM_len]; omega) ((listM_set _ _ _).trans (congrArg listM (mixL_set hol (by omega)))) (by first | exact ⟨rfl, rfl⟩ | exact .inl ⟨rfl, rfl⟩ | exact .inr ⟨rfl, rfl⟩) ?_
      | refine OpE.store1 (i := 2) rfl hB rfl Tryd.sizeOf27 rfl rfl rfl rfl rfl rfl (by rw [listM_len]; omega) ((listM_set _ _ _).trans (congrArg listM (mixL_set hol (by omega)))) (by first | exact ⟨rfl, rfl⟩ | exact .inl ⟨rfl, rfl⟩ | exact .inr ⟨rfl, rfl⟩) ?_
      | refine OpE.store1 (i := 3) rfl hB rfl Tryd.sizeOf27 rfl rfl rfl rfl rfl rfl (by rw [listM_len]; omega) ((listM_set _ _ _).trans (congrArg listM (mixL_set hol (by omega)))) (by first | exact ⟨rfl, rfl⟩ | exact .inl ⟨rfl, rfl⟩ | exact .inr ⟨rfl, rfl⟩) ?_
      | refine OpE.store1 (i := 4) rfl hB rfl Tryd.sizeOf27 rfl rfl rfl rfl rfl rfl (by rw [listM_len]; omega) ((listM_set _ _ _).trans (congrArg listM (mixL_set hol (by omega)))) (by first | exact ⟨rfl, rfl⟩ | exact .inl ⟨rfl, rfl⟩ | exact .inr ⟨rfl, rfl⟩) ?_
      | refine OpE.store1 (i := 5) rfl hB rfl Tryd.sizeOf27 rfl rfl rfl rfl rfl rfl (by rw [listM_len]; omega) ((listM_set _ _ _).trans (congrArg listM (mixL_set hol (by omega)))) (by first | exact ⟨rfl, rfl⟩ | exact .inl ⟨rfl, rfl⟩ | exact .inr ⟨rfl, rfl⟩) ?_
      | refine OpE.store1 (i := 6) rfl hB rfl Tryd.sizeOf27 rfl rfl rfl rfl rfl rfl (by rw [listM_len]; omega) ((listM_set _ _ _).trans (congrArg listM (mixL_set hol (by omega)))) (by first | exact ⟨rfl, rfl⟩ | exact .inl ⟨rfl, rfl⟩ | exact .inr ⟨rfl, rfl⟩) ?_
      | refine OpE.store1 (i := 7) rfl hB rfl Tryd.sizeOf27 rfl rfl rfl rfl rfl rfl (by rw [listM_len]; omega) ((listM_set _ _ _).trans (congrArg listM (mixL_set hol (by omega)))) (by first | exact ⟨rfl, rfl⟩ | exact .inl ⟨rfl, rfl⟩ | exact .inr ⟨rfl, rfl⟩) ?_
    refine VA.done (by kernel_rfl) ?_
    show VC _ _ _ _ _
    refine VC.le _ (Le.boxRow (i := 0) (n := c) (sz := 1) (cap := cap) rfl (by rw [intsL_len]; omega) hcap hmx) ?_
    refine VC.region ?_
    refine VO.val rfl rfl (OpV.add rfl rfl rfl (by unfold fits; omega)) ?_
    refine VO.val rfl rfl (OpV.move (.inl rfl) rfl) ?_
    refine VO.nil ?_
    exact Exists.intro (⟨q + 1, by omega⟩) (And.intro (Le.mk hB [0, 1, 2, 3, 4, 5, 6, 7] ⟨rfl, rfl, rfl, rfl, rfl, rfl, rfl, rfl, rfl, trivial⟩ rfl rfl (Nat.le_refl _)) (by first | omega | (show _ < _; omega) | (simp only []; omega)))
  · have aH1 := aH1b
    try simp only [decide_eq_true_eq, decide_eq_false_iff_not, Bool.not_eq_true', Bool.not_eq_false', Int.not_lt, Int.not_le] at aH1
    obtain rfl : q = c := by omega
    have hmix : mixL p o l q = pickP p o := by rw [← hoc]; exact mixL_all hol
    rw [hmix]
    have hti := totalF_in (m := least) hls (pickP_right hp ho) hlb.1
    refine VC.exit ?_
    show VC _ _ _ _ _
    refine VC.seq ?_
    refine VC.region ?_
    first
      | refine VO.val rfl rfl (OpV.load_at rfl hB OutW.no Tryd.isAgg27 rfl rfl) ?_
      | refine VO.val rfl rfl (OpV.load_own (i := 0) rfl hB Tryd.isAgg27 rfl rfl rfl (fun h => h)) ?_
      | refine VO.val rfl rfl (OpV.load_own (i := 1) rfl hB Tryd.isAgg27 rfl rfl rfl (fun h => h)) ?_
      | refine VO.val rfl rfl (OpV.load_own (i := 2) rfl hB Tryd.isAgg27 rfl rfl rfl (fun h => h)) ?_
      | refine VO.val rfl rfl (OpV.load_own (i := 3) rfl hB Tryd.isAgg27 rfl rfl rfl (fun h => h)) ?_
      | refine VO.val rfl rfl (OpV.load_own (i := 4) rfl hB Tryd.isAgg27 rfl rfl rfl (fun h => h)) ?_
      | refine VO.val rfl rfl (OpV.load_own (i := 5) rfl hB Tryd.isAgg27 rfl rfl rfl (fun h => h)) ?_
      | refine VO.val rfl rfl (OpV.load_own (i := 6) rfl hB Tryd.isAgg27 rfl rfl rfl (fun h => h)) ?_
      | refine VO.val rfl rfl (OpV.load_own (i := 7) rfl hB Tryd.isAgg27 rfl rfl rfl (fun h => h)) ?_
    first
      | refine VO.val rfl rfl (OpV.load_at rfl hB OutW.no Tryd.isAgg30 rfl rfl) ?_
      | refine VO.val rfl rfl (OpV.load_own (i := 0) rfl hB Tryd.isAgg30 rfl rfl rfl (fun h => h)) ?_
      | refine VO.val rfl rfl (OpV.load_own (i := 1) rfl hB Tryd.isAgg30 rfl rfl rfl (fun h => h)) ?_
      | refine VO.val rfl rfl (OpV.load_own (i := 2) rfl hB Tryd.isAgg30 rfl rfl rfl (fun h => h)) ?_
      | refine VO.val rfl rfl (OpV.load_own (i := 3) rfl hB Tryd.isAgg30 rfl rfl rfl (fun h => h)) ?_
      | refine VO.val rfl rfl (OpV.load_own (i := 4) rfl hB Tryd.isAgg30 rfl rfl rfl (fun h => h)) ?_
      | refine VO.val rfl rfl (OpV.load_own (i := 5) rfl hB Tryd.isAgg30 rfl rfl rfl (fun h => h)) ?_
      | refine VO.val rfl rfl (OpV.load_own (i := 6) rfl hB Tryd.isAgg30 rfl rfl rfl (fun h => h)) ?_
      | refine VO.val rfl rfl (OpV.load_own (i := 7) rfl hB Tryd.isAgg30 rfl rfl rfl (fun h => h)) ?_
    first
      | refine VO.val rfl rfl (OpV.load_at rfl hB OutW.no Tryd.isAgg3 rfl rfl) ?_
      | refine VO.val rfl rfl (OpV.load_own (i := 0) rfl hB Tryd.isAgg3 rfl rfl rfl (fun h => h)) ?_
      | refine VO.val rfl rfl (OpV.load_own (i := 1) rfl hB Tryd.isAgg3 rfl rfl rfl (fun h => h)) ?_
      | refine VO.val rfl rfl (OpV.load_own (i := 2) rfl hB Tryd.isAgg3 rfl rfl rfl (fun h => h)) ?_
      | refine VO.val rfl rfl (OpV.load_own (i := 3) rfl hB Tryd.isAgg3 rfl rfl rfl (fun h => h)) ?_
      | refine VO.val rfl rfl (OpV.load_own (i := 4) rfl hB Tryd.isAgg3 rfl rfl rfl (fun h => h)) ?_
      | refine VO.val rfl rfl (OpV.load_own (i := 5) rfl hB Tryd.isAgg3 rfl rfl rfl (fun h => h)) ?_
      | refine VO.val rfl rfl (OpV.load_own (i := 6) rfl hB Tryd.isAgg3 rfl rfl rfl (fun h => h)) ?_
      | refine VO.val rfl rfl (OpV.load_own (i := 7) rfl hB Tryd.isAgg3 rfl rfl rfl (fun h => h)) ?_
    refine VO.op rfl (OpE.callL rfl hB rfl Tryd.call58 (setup_total hg (pickP_right hp ho) (pickP_sm hps (by omega)) (by rw [pickP_len]; omega) (by omega)) (ArgsP.cons (ArgP.ev rfl) (ArgsP.cons (ArgP.boxM (i := 6) rfl rfl (by rw [pickP_len]; omega) (Nat.le_refl _) (by simp only [maxLen]; omega)) (ArgsP.cons (ArgP.ev rfl) (ArgsP.nil)))) ?_)
    rintro _ rfl
    refine VO.val rfl rfl (OpV.move (.inr rfl) rfl) ?_
    refine VO.nil ?_
    show VC _ _ _ _ _
    refine VC.seq ?_
    refine VC.region ?_
    refine VO.val rfl rfl (OpV.move (.inl rfl) rfl) ?_
    first
      | refine VO.val rfl rfl (OpV.load_at rfl hB OutW.no Tryd.isAgg3 rfl rfl) ?_
      | refine VO.val rfl rfl (OpV.load_own (i := 0) rfl hB Tryd.isAgg3 rfl rfl rfl (fun h => h)) ?_
      | refine VO.val rfl rfl (OpV.load_own (i := 1) rfl hB Tryd.isAgg3 rfl rfl rfl (fun h => h)) ?_
      | refine VO.val rfl rfl (OpV.load_own (i := 2) rfl hB Tryd.isAgg3 rfl rfl rfl (fun h => h)) ?_
      | refine VO.val rfl rfl (OpV.load_own (i := 3) rfl hB Tryd.isAgg3 rfl rfl rfl (fun h => h)) ?_
      | refine VO.val rfl rfl (OpV.load_own (i := 4) rfl hB Tryd.isAgg3 rfl rfl rfl (fun h => h)) ?_
      | refine VO.val rfl rfl (OpV.load_own (i := 5) rfl hB Tryd.isAgg3 rfl rfl rfl (fun h => h)) ?_
      | refine VO.val rfl rfl (OpV.load_own (i := 6) rfl hB Tryd.isAgg3 rfl rfl rfl (fun h => h)) ?_
      | refine VO.val rfl rfl (OpV.load_own (i := 7) rfl hB Tryd.isAgg3 rfl rfl rfl (fun h => h)) ?_
    refine VO.val rfl rfl (OpV.lss rfl rfl rfl) ?_
    refine VO.nil ?_
    show VC _ _ _ _ _
    refine VC.cond rfl (fun h1b => ?_) (fun h1b => ?_)
    · have h1 := h1b
      try simp only [decide_eq_true_eq, decide_eq_false_iff_not, Bool.not_eq_true', Bool.not_eq_false', Int.not_lt, Int.not_le] at h1
      refine VC.region ?_
      refine VO.val rfl rfl (OpV.move (.inl rfl) rfl) ?_
      refine VO.op rfl (OpE.callR rfl hB rfl Tryd.call59 (slices_Clone_R (by omega)) (ArgsP.cons (ArgP.rowI (i := 0) rfl rfl hoc.symm) (ArgsP.nil)) ?_)
      intro u33
      refine VO.rowIs (i := 8) rfl (fun b33 c33 hu33 => ?_)
      subst hu33
      refine VO.val rfl rfl (OpV.move (.inl rfl) rfl) ?_
      first
        | refine VO.op rfl (OpE.store (i := 0) rfl hB rfl Tryd.sizeOf22 rfl rfl rfl rfl rfl rfl (Nat.le_of_ble_eq_true rfl) trivial ?_)
        | refine VO.op rfl (OpE.store (i := 1) rfl hB rfl Tryd.sizeOf22 rfl rfl rfl rfl rfl rfl (Nat.le_of_ble_eq_true rfl) trivial ?_)
        | refine VO.op rfl (OpE.store (i := 2) rfl hB rfl Tryd.sizeOf22 rfl rfl rfl rfl rfl rfl (Nat.le_of_ble_eq_true rfl) trivial ?_)
        | refine VO.op rfl (OpE.store (i := 3) rfl hB rfl Tryd.sizeOf22 rfl rfl rfl rfl rfl rfl (Nat.le_of_ble_eq_true rfl) trivial ?_)
        | refine VO.op rfl (OpE.store (i := 4) rfl hB rfl Tryd.sizeOf22 rfl rfl rfl rfl rfl rfl (Nat.le_of_ble_eq_true rfl) trivial ?_)
        | refine VO.op rfl (OpE.store (i := 5) rfl hB rfl Tryd.sizeOf22 rfl rfl rfl rfl rfl rfl (Nat.le_of_ble_eq_true rfl) trivial ?_)
        | refine VO.op rfl (OpE.store (i := 6) rfl hB rfl Tryd.sizeOf22 rfl rfl rfl rfl rfl rfl (Nat.le_of_ble_eq_true rfl) trivial ?_)
        | refine VO.op rfl (OpE.store (i := 7) rfl hB rfl Tryd.sizeOf22 rfl rfl rfl rfl rfl rfl (Nat.le_of_ble_eq_true rfl) trivial ?_)
        | refine VO.op rfl (OpE.store (i := 8) rfl hB rfl Tryd.sizeOf22 rfl rfl rfl rfl rfl rfl (Nat.le_of_ble_eq_true rfl) trivial ?_)
      refine VO.le _ (Le.erase 7) ?_
      first
        | refine VO.op rfl (OpE.store (i := 0) rfl hB rfl Tryd.sizeOf3 rfl rfl rfl rfl rfl rfl (Nat.le_of_ble_eq_true rfl) trivial ?_)
        | refine VO.op rfl (OpE.store (i := 1) rfl hB rfl Tryd.sizeOf3 rfl rfl rfl rfl rfl rfl (Nat.le_of_ble_eq_true rfl) trivial ?_)
        | refine VO.op rfl (OpE.store (i := 2) rfl hB rfl Tryd.sizeOf3 rfl rfl rfl rfl rfl rfl (Nat.le_of_ble_eq_true rfl) trivial ?_)
        | refine VO.op rfl (OpE.store (i := 3) rfl hB rfl Tryd.sizeOf3 rfl rfl rfl rfl rfl rfl (Nat.le_of_ble_eq_true rfl) trivial ?_)
        | refine VO.op rfl (OpE.store (i := 4) rfl hB rfl Tryd.sizeOf3 rfl rfl rfl rfl rfl rfl (Nat.le_of_ble_eq_true rfl) trivial ?_)
        | refine VO.op rfl (OpE.store (i := 5) rfl hB rfl Tryd.sizeOf3 rfl rfl rfl rfl rfl rfl (Nat.le_of_ble_eq_true rfl) trivial ?_)
        | refine VO.op rfl (OpE.store (i := 6) rfl hB rfl Tryd.sizeOf3 rfl rfl rfl rfl rfl rfl (Nat.le_of_ble_eq_true rfl) trivial ?_)
        | refine VO.op rfl (OpE.store (i := 7) rfl hB rfl Tryd.sizeOf3 rfl rfl rfl rfl rfl rfl (Nat.le_of_ble_eq_true rfl) trivial ?_)
        | refine VO.op rfl (OpE.store (i := 8) rfl hB rfl Tryd.sizeOf3 rfl rfl rfl rfl rfl rfl (Nat.le_of_ble_eq_true rfl) trivial ?_)
      refine VO.nil ?_
      exact Exists.intro _ (And.intro (RetV.none Tryd.results57) (by first | exact ⟨.slice b33 o.length c33, pickP p o, by rw [pickP_len]; omega, by rw [stepP, if_pos h1]; rfl⟩ | exact ⟨ub, pickP p o, by rw [pickP_len]; omega, by rw [stepP, if_neg (show ¬ totalF s (pickP p o) least < least by omega)]; rfl⟩))
    · have h1 := h1b
      try simp only [decide_eq_true_eq, decide_eq_false_iff_not, Bool.not_eq_true', Bool.not_eq_false', Int.not_lt, Int.not_le] at h1
      refine VC.skip ?_
      exact Exists.intro _ (And.intro (RetV.none Tryd.results57) (by first | exact ⟨.slice b33 o.length c33, pickP p o, by rw [pickP_len]; omega, by rw [stepP, if_pos h1]; rfl⟩ | exact ⟨ub, pickP p o, by rw [pickP_len]; omega, by rw [stepP, if_neg (show ¬ totalF s (pickP p o) least < least by omega)]; rfl⟩))
def KP (s : List ByteArray) (p : List (List ByteArray)) (To Ti Tm Ts : TypeId) (gp gl gs gle gb ga : Nat) (a : BestT) (h : List Ent) : Prop :=
  (0 ≤ a.least ∧ a.least ≤ 20001) ∧ ∃ ub l, l.length = p.length ∧ h = bestO' s p To Ti Tm Ts gp gl gs gle gb ga ub a.best a.least l
theorem setup_best_does {s : List ByteArray} {p : List (List ByteArray)} {gp gl gs gle gb ga : Nat} (hg : Good' s) (hp : ∀ q, q < p.length → RightP s.length (p.getD q default)) (hps : SmSS p) (hl8 : p.length ≤ 8) :
    DoesP p.length (KP s p 22 3 30 27 gp gl gs gle gb ga) (stepP s p) Tryd.prog 57 #[ptv gp, ptv gl, ptv gs, ptv gle, ptv gb] 3 := by
  rintro o c a h u ho hoc hcn ⟨hlb, ub, l, hl, rfl⟩
  refine (setup_Best1 (b := a.best) (least := a.least) hg hp hps hl8 ho hoc hcn hl hlb).mono ?_
  rintro y hp' ⟨ub', l', hl', rfl⟩
  refine ⟨_, ⟨?_, ub', l', hl', rfl⟩, rfl⟩
  have hti := totalF_in (m := a.least) hg.len (pickP_right hp ho) hlb.1
  show 0 ≤ (stepP s p a o).least ∧ (stepP s p a o).least ≤ 20001
  unfold stepP
  split
  · exact ⟨hti, by show totalF _ _ _ ≤ _; omega⟩
  · exact hlb
def bestE (s : List ByteArray) (p : List (List ByteArray)) : Int := if setsF s p ≠ 0 then setsF s p else if 8 < p.length then 2 else 0
def bestL (s : List ByteArray) (p : List (List ByteArray)) : List Int := if bestE s p = 0 then (bestP s p).best else []
def bestK (s : List ByteArray) (p : List (List ByteArray)) : Int := if bestE s p = 0 then (bestP s p).least else 0
theorem made_rep {z : Value} {n m : Nat} (hz : z.cells = #[z]) (hm : m = n) : (madeCells z.cells (m * 1)).toList.map AV.v = List.replicate n (.v z) := by
  subst hm
  rw [hz, Nat.mul_one, toList_madeCells_one]
  simp
set_option maxRecDepth 100000 in
theorem setup_Best {s : List ByteArray} {p : List (List ByteArray)} (hs : SmS s) (hl : SmSS p) :
    SpecH Tryd.prog 28 [avStrs s, avM p] [] (fun y hp' => ∃ u, y = .tup [.v u, avI (bestK s p), avI (bestE s p)] ∧ hp' = [.row u ((bestL s p).length) (1) (intsL (bestL s p)) (3)]) := by
  refine SpecH.of_VC Tryd.func28 rfl Tryd.ntmps28 (Nat.le_of_ble_eq_true rfl) fun w A hB => ?_
  have hnew : True := trivial
  refine VC.seq ?_
  refine VC.region ?_
  refine VO.op rfl (OpE.box rfl hB rfl rfl rfl ?_)
  intro gs
  refine VO.op rfl (OpE.box rfl hB rfl rfl rfl ?_)
  intro gp
  refine VO.val rfl rfl (OpV.move (.inr rfl) rfl) ?_
  refine VO.val rfl rfl (OpV.move (.inr rfl) rfl) ?_
  refine VO.val rfl rfl (OpV.move (.inr rfl) rfl) ?_
  refine VO.nil ?_
  show VC _ _ _ _ _
  refine VC.seq ?_
  refine VC.seq ?_
  refine VC.region ?_
  first
    | refine VO.val rfl rfl (OpV.load_at rfl hB OutW.no Tryd.isAgg27 rfl rfl) ?_
    | refine VO.val rfl rfl (OpV.load_own (i := 0) rfl hB Tryd.isAgg27 rfl rfl rfl (fun h => h)) ?_
    | refine VO.val rfl rfl (OpV.load_own (i := 1) rfl hB Tryd.isAgg27 rfl rfl rfl (fun h => h)) ?_
  first
    | refine VO.val rfl rfl (OpV.load_at rfl hB OutW.no Tryd.isAgg30 rfl rfl) ?_
    | refine VO.val rfl rfl (OpV.load_own (i := 0) rfl hB Tryd.isAgg30 rfl rfl rfl (fun h => h)) ?_
    | refine VO.val rfl rfl (OpV.load_own (i := 1) rfl hB Tryd.isAgg30 rfl rfl rfl (fun h => h)) ?_
  refine VO.op rfl (OpE.call rfl hB rfl Tryd.call47 rfl (SpecN.spec (setup_fault hs hl)) ?_)
  rintro _ rfl
  refine VO.val rfl rfl (OpV.move (.inr rfl) rfl) ?_
  refine VO.nil ?_
  show VC _ _ _ _ _
  refine VC.seq ?_
  refine VC.region ?_
  refine VO.val rfl rfl (OpV.move (.inl rfl) rfl) ?_
  refine VO.val rfl rfl (OpV.neq rfl rfl rfl) ?_
  refine VO.nil ?_
  show VC _ _ _ _ _
  refine VC.cond rfl (fun h0b => ?_) (fun h0b => ?_)
  · have h0 := h0b
    try simp only [decide_eq_true_eq, decide_eq_false_iff_not, Bool.not_eq_true', Bool.not_eq_false', Int.not_lt, Int.not_le] at h0
    have hE : bestE s p = setsF s p := by rw [bestE, if_pos h0]
    rw [bestL, if_neg (by rw [hE]; exact h0), bestK, if_neg (by rw [hE]; exact h0), hE]
    refine VC.seq ?_
    refine VC.region ?_
    refine VO.val rfl rfl (OpV.move (.inl rfl) rfl) ?_
    refine VO.val rfl rfl (OpV.move (.inr rfl) rfl) ?_
    refine VO.val rfl rfl (OpV.move (.inr rfl) rfl) ?_
    refine VO.val rfl rfl (OpV.move (.inr rfl) rfl) ?_
    refine VO.nil ?_
    show VC _ _ _ _ _
    refine VC.le _ (Le.nilRow 1 3) ?_
    refine VC.le ⟨[(4, _), (5, _), (6, _)], [_], 0⟩ (Le.pick hB [2] ⟨rfl, rfl, rfl, trivial⟩ rfl rfl (Nat.le_refl _)) ?_
    refine VC.ret ?_
    exact Exists.intro _ (And.intro (RetV.three Tryd.results28 (ResV.tmp rfl) (ResV.tmp rfl) (ResV.tmp rfl)) (⟨_, rfl, rfl⟩))
  · have h0 := h0b
    try simp only [decide_eq_true_eq, decide_eq_false_iff_not, Bool.not_eq_true', Bool.not_eq_false', Int.not_lt, Int.not_le] at h0
    have h00 : setsF s p = 0 := by omega
    have hg := (setsF_zero h00).2.1
    have hp := (setsF_zero h00).2.2.2.1
    refine VC.skip ?_
    show VC _ _ _ _ _
    refine VC.seq ?_
    refine VC.seq ?_
    refine VC.region ?_
    first
      | refine VO.val rfl rfl (OpV.load_at rfl hB OutW.no Tryd.isAgg30 rfl rfl) ?_
      | refine VO.val rfl rfl (OpV.load_own (i := 0) rfl hB Tryd.isAgg30 rfl rfl rfl (fun h => h)) ?_
      | refine VO.val rfl rfl (OpV.load_own (i := 1) rfl hB Tryd.isAgg30 rfl rfl rfl (fun h => h)) ?_
    first
      | refine VO.val rfl rfl (OpV.len_im rfl Tryd.underlying30 rfl) ?_
      | refine VO.val rfl rfl (OpV.len_v rfl Tryd.underlying30 rfl) ?_
      | refine VO.val rfl rfl (OpV.len_row (i := 0) rfl Tryd.underlying30 rfl rfl) ?_
      | refine VO.val rfl rfl (OpV.len_row (i := 1) rfl Tryd.underlying30 rfl rfl) ?_
    refine VO.val rfl rfl (OpV.gtr rfl rfl rfl) ?_
    refine VO.nil ?_
    show VC _ _ _ _ _
    refine VC.cond rfl (fun h1b => ?_) (fun h1b => ?_)
    · have h1 := h1b
      try simp only [decide_eq_true_eq, decide_eq_false_iff_not, Bool.not_eq_true', Bool.not_eq_false', Int.not_lt, Int.not_le] at h1
      have hE : bestE s p = 2 := by rw [bestE, if_neg (by omega), if_pos (by omega)]
      rw [bestL, if_neg (by rw [hE]; decide), bestK, if_neg (by rw [hE]; decide), hE]
      refine VC.seq ?_
      refine VC.region ?_
      refine VO.val rfl rfl (OpV.move (.inr rfl) rfl) ?_
      refine VO.val rfl rfl (OpV.move (.inr rfl) rfl) ?_
      refine VO.val rfl rfl (OpV.move (.inr rfl) rfl) ?_
      refine VO.nil ?_
      show VC _ _ _ _ _
      refine VC.le _ (Le.nilRow 1 3) ?_
      refine VC.le ⟨[(4, _), (5, _), (6, _)], [_], 0⟩ (Le.pick hB [2] ⟨rfl, rfl, rfl, trivial⟩ rfl rfl (Nat.le_refl _)) ?_
      refine VC.ret ?_
      exact Exists.intro _ (And.intro (RetV.three Tryd.results28 (ResV.tmp rfl) (ResV.tmp rfl) (ResV.tmp rfl)) (⟨_, rfl, rfl⟩))
    · have h1 := h1b
      try simp only [decide_eq_true_eq, decide_eq_false_iff_not, Bool.not_eq_true', Bool.not_eq_false', Int.not_lt, Int.not_le] at h1
      have hE : bestE s p = 0 := by rw [bestE, if_neg (by omega), if_neg (by omega)]
      rw [bestL, if_pos hE, bestK, if_pos hE, hE]
      refine VC.skip ?_
      show VC _ _ _ _ _
      refine VC.seq ?_
      refine VC.region ?_
      refine VO.op rfl (OpE.alloc rfl hB rfl Tryd.zeroValue3 rfl ?_)
      intro gle
      first
        | refine VO.op rfl (OpE.store (i := 0) rfl hB rfl Tryd.sizeOf3 rfl rfl rfl rfl rfl rfl (Nat.le_of_ble_eq_true rfl) trivial ?_)
        | refine VO.op rfl (OpE.store (i := 1) rfl hB rfl Tryd.sizeOf3 rfl rfl rfl rfl rfl rfl (Nat.le_of_ble_eq_true rfl) trivial ?_)
        | refine VO.op rfl (OpE.store (i := 2) rfl hB rfl Tryd.sizeOf3 rfl rfl rfl rfl rfl rfl (Nat.le_of_ble_eq_true rfl) trivial ?_)
      refine VO.nil ?_
      show VC _ _ _ _ _
      refine VC.seq ?_
      refine VC.region ?_
      refine VO.op rfl (OpE.alloc rfl hB rfl Tryd.zeroValue22 rfl ?_)
      intro gb
      refine VO.nil ?_
      show VC _ _ _ _ _
      refine VC.seq ?_
      refine VC.region ?_
      first
        | refine VO.val rfl rfl (OpV.load_at rfl hB OutW.no Tryd.isAgg30 rfl rfl) ?_
        | refine VO.val rfl rfl (OpV.load_own (i := 0) rfl hB Tryd.isAgg30 rfl rfl rfl (fun h => h)) ?_
        | refine VO.val rfl rfl (OpV.load_own (i := 1) rfl hB Tryd.isAgg30 rfl rfl rfl (fun h => h)) ?_
        | refine VO.val rfl rfl (OpV.load_own (i := 2) rfl hB Tryd.isAgg30 rfl rfl rfl (fun h => h)) ?_
        | refine VO.val rfl rfl (OpV.load_own (i := 3) rfl hB Tryd.isAgg30 rfl rfl rfl (fun h => h)) ?_
      first
        | refine VO.val rfl rfl (OpV.len_im rfl Tryd.underlying30 rfl) ?_
        | refine VO.val rfl rfl (OpV.len_v rfl Tryd.underlying30 rfl) ?_
        | refine VO.val rfl rfl (OpV.len_row (i := 0) rfl Tryd.underlying30 rfl rfl) ?_
        | refine VO.val rfl rfl (OpV.len_row (i := 1) rfl Tryd.underlying30 rfl rfl) ?_
        | refine VO.val rfl rfl (OpV.len_row (i := 2) rfl Tryd.underlying30 rfl rfl) ?_
        | refine VO.val rfl rfl (OpV.len_row (i := 3) rfl Tryd.underlying30 rfl rfl) ?_
      refine VO.op rfl (OpE.make rfl hB rfl Tryd.underlying30 (infoOf Tryd.t27 1 (by kernel_rfl) rfl rfl) (by decide) rfl rfl (n := p.length) rfl rfl (by omega) (made_rep rfl rfl) ?_)
      intro ga
      rw [List.length_replicate]
      refine VO.le _ (Le.recastBox (i := 4) (cs' := listM (List.replicate p.length ([] : List ByteArray))) rfl (by simp [listM]) (fun j h1 h2 w Z u hr => by simp only [List.getElem_replicate] at hr; simp only [listM, List.getElem_map, List.getElem_replicate]; rw [hr.eq_v]; exact .nil _ _)) ?_
      refine VO.op rfl (OpE.alloc rfl hB rfl Tryd.zeroValue30 rfl ?_)
      intro gl
      first
        | refine VO.op rfl (OpE.store (i := 0) rfl hB rfl Tryd.sizeOf30 rfl rfl rfl rfl rfl rfl (Nat.le_of_ble_eq_true rfl) trivial ?_)
        | refine VO.op rfl (OpE.store (i := 1) rfl hB rfl Tryd.sizeOf30 rfl rfl rfl rfl rfl rfl (Nat.le_of_ble_eq_true rfl) trivial ?_)
        | refine VO.op rfl (OpE.store (i := 2) rfl hB rfl Tryd.sizeOf30 rfl rfl rfl rfl rfl rfl (Nat.le_of_ble_eq_true rfl) trivial ?_)
        | refine VO.op rfl (OpE.store (i := 3) rfl hB rfl Tryd.sizeOf30 rfl rfl rfl rfl rfl rfl (Nat.le_of_ble_eq_true rfl) trivial ?_)
        | refine VO.op rfl (OpE.store (i := 4) rfl hB rfl Tryd.sizeOf30 rfl rfl rfl rfl rfl rfl (Nat.le_of_ble_eq_true rfl) trivial ?_)
        | refine VO.op rfl (OpE.store (i := 5) rfl hB rfl Tryd.sizeOf30 rfl rfl rfl rfl rfl rfl (Nat.le_of_ble_eq_true rfl) trivial ?_)
      refine VO.nil ?_
      show VC _ _ _ _ _
      refine VC.seq ?_
      refine VC.le _ ((Le.nilRow 1 3).trans (Le.pickH [1, 5, 0, 2, 3, 4, 6] rfl rfl)) ?_
      refine VC.region ?_
      first
        | refine VO.val rfl rfl (OpV.load_at rfl hB OutW.no Tryd.isAgg30 rfl rfl) ?_
        | refine VO.val rfl rfl (OpV.load_own (i := 0) rfl hB Tryd.isAgg30 rfl rfl rfl (fun h => h)) ?_
        | refine VO.val rfl rfl (OpV.load_own (i := 1) rfl hB Tryd.isAgg30 rfl rfl rfl (fun h => h)) ?_
        | refine VO.val rfl rfl (OpV.load_own (i := 2) rfl hB Tryd.isAgg30 rfl rfl rfl (fun h => h)) ?_
        | refine VO.val rfl rfl (OpV.load_own (i := 3) rfl hB Tryd.isAgg30 rfl rfl rfl (fun h => h)) ?_
        | refine VO.val rfl rfl (OpV.load_own (i := 4) rfl hB Tryd.isAgg30 rfl rfl rfl (fun h => h)) ?_
        | refine VO.val rfl rfl (OpV.load_own (i := 5) rfl hB Tryd.isAgg30 rfl rfl rfl (fun h => h)) ?_
      first
        | refine VO.val rfl rfl (OpV.len_im rfl Tryd.underlying30 rfl) ?_
        | refine VO.val rfl rfl (OpV.len_v rfl Tryd.underlying30 rfl) ?_
        | refine VO.val rfl rfl (OpV.len_row (i := 0) rfl Tryd.underlying30 rfl rfl) ?_
        | refine VO.val rfl rfl (OpV.len_row (i := 1) rfl Tryd.underlying30 rfl rfl) ?_
        | refine VO.val rfl rfl (OpV.len_row (i := 2) rfl Tryd.underlying30 rfl rfl) ?_
        | refine VO.val rfl rfl (OpV.len_row (i := 3) rfl Tryd.underlying30 rfl rfl) ?_
        | refine VO.val rfl rfl (OpV.len_row (i := 4) rfl Tryd.underlying30 rfl rfl) ?_
        | refine VO.val rfl rfl (OpV.len_row (i := 5) rfl Tryd.underlying30 rfl rfl) ?_
      refine VO.val rfl rfl (OpV.makeFunc5 rfl rfl rfl rfl rfl rfl) ?_
      refine VO.op rfl (OpE.callH0 rfl hB rfl Tryd.call56 rfl rfl (setup_orders (h := bestO' s p 22 3 30 27 gp gl gs gle gb ga (.slice none 0 0) [] 20001 (List.replicate p.length [])) (by omega) Tryd.call57 (setup_best_does hg hp hl (by omega)) (a := ⟨[], 20001⟩) ⟨by decide, .slice none 0 0, List.replicate p.length [], by simp, rfl⟩) (List.Perm.refl _) (fun _ _ => trivial) ?_)
      rintro _ _ ⟨_, ⟨hlb, ub, l, hll, rfl⟩, rfl⟩
      refine VO.nil ?_
      show VC _ _ _ _ _
      refine VC.seq ?_
      refine VC.draw (fun _ => NoB) hB (by kernel_rfl) ?_
      first
        | refine VA.take (i := 0) rfl (by kernel_rfl) (by kernel_rfl) (by kernel_rfl) rfl rfl (OpV.load_at rfl hB OutW.wi0 Tryd.isAgg22 rfl rfl) ?_
        | refine VA.take (i := 0) rfl (by kernel_rfl) (by kernel_rfl) (by kernel_rfl) rfl rfl (OpV.load_own (i := 0) rfl hB Tryd.isAgg22 rfl rfl rfl Wi.not0) ?_
        | refine VA.take (i := 0) rfl (by kernel_rfl) (by kernel_rfl) (by kernel_rfl) rfl rfl (OpV.load_own (i := 1) rfl hB Tryd.isAgg22 rfl rfl rfl Wi.not0) ?_
        | refine VA.take (i := 0) rfl (by kernel_rfl) (by kernel_rfl) (by kernel_rfl) rfl rfl (OpV.load_own (i := 2) rfl hB Tryd.isAgg22 rfl rfl rfl Wi.not0) ?_
        | refine VA.take (i := 0) rfl (by kernel_rfl) (by kernel_rfl) (by kernel_rfl) rfl rfl (OpV.load_own (i := 3) rfl hB Tryd.isAgg22 rfl rfl rfl Wi.not0) ?_
        | refine VA.take (i := 0) rfl (by kernel_rfl) (by kernel_rfl) (by kernel_rfl) rfl rfl (OpV.load_own (i := 4) rfl hB Tryd.isAgg22 rfl rfl rfl Wi.not0) ?_
        | refine VA.take (i := 0) rfl (by kernel_rfl) (by kernel_rfl) (by kernel_rfl) rfl rfl (OpV.load_own (i := 5) rfl hB Tryd.isAgg22 rfl rfl rfl Wi.not0) ?_
        | refine VA.take (i := 0) rfl (by kernel_rfl) (by kernel_rfl) (by kernel_rfl) rfl rfl (OpV.load_own (i := 6) rfl hB Tryd.isAgg22 rfl rfl rfl Wi.not0) ?_
      first
        | refine VA.take (i := 1) rfl (by kernel_rfl) (by kernel_rfl) (by kernel_rfl) rfl rfl (OpV.load_at rfl hB OutW.wi0 Tryd.isAgg3 rfl rfl) ?_
        | refine VA.take (i := 1) rfl (by kernel_rfl) (by kernel_rfl) (by kernel_rfl) rfl rfl (OpV.load_own (i := 0) rfl hB Tryd.isAgg3 rfl rfl rfl Wi.not0) ?_
        | refine VA.take (i := 1) rfl (by kernel_rfl) (by kernel_rfl) (by kernel_rfl) rfl rfl (OpV.load_own (i := 1) rfl hB Tryd.isAgg3 rfl rfl rfl Wi.not0) ?_
        | refine VA.take (i := 1) rfl (by kernel_rfl) (by kernel_rfl) (by kernel_rfl) rfl rfl (OpV.load_own (i := 2) rfl hB Tryd.isAgg3 rfl rfl rfl Wi.not0) ?_
        | refine VA.take (i := 1) rfl (by kernel_rfl) (by kernel_rfl) (by kernel_rfl) rfl rfl (OpV.load_own (i := 3) rfl hB Tryd.isAgg3 rfl rfl rfl Wi.not0) ?_
        | refine VA.take (i := 1) rfl (by kernel_rfl) (by kernel_rfl) (by kernel_rfl) rfl rfl (OpV.load_own (i := 4) rfl hB Tryd.isAgg3 rfl rfl rfl Wi.not0) ?_
        | refine VA.take (i := 1) rfl (by kernel_rfl) (by kernel_rfl) (by kernel_rfl) rfl rfl (OpV.load_own (i := 5) rfl hB Tryd.isAgg3 rfl rfl rfl Wi.not0) ?_
        | refine VA.take (i := 1) rfl (by kernel_rfl) (by kernel_rfl) (by kernel_rfl) rfl rfl (OpV.load_own (i := 6) rfl hB Tryd.isAgg3 rfl rfl rfl Wi.not0) ?_
      refine VA.take (i := 2) rfl (by kernel_rfl) (by kernel_rfl) (by kernel_rfl) rfl rfl (OpV.move (.inr rfl) rfl) ?_
      refine VA.take (i := 3) rfl (by kernel_rfl) (by kernel_rfl) (by kernel_rfl) rfl rfl (OpV.move (.inr rfl) rfl) ?_
      refine VA.take (i := 4) rfl (by kernel_rfl) (by kernel_rfl) (by kernel_rfl) rfl rfl (OpV.move (.inr rfl) rfl) ?_
      refine VA.done (by kernel_rfl) ?_
      show VC _ _ _ _ _
      refine VC.le ⟨[(4, _), (5, _), (6, _)], [_], 0⟩ (Le.pick hB [6] ⟨rfl, rfl, rfl, trivial⟩ rfl rfl (Nat.le_refl _)) ?_
      refine VC.ret ?_
      exact Exists.intro _ (And.intro (RetV.three Tryd.results28 (ResV.tmp rfl) (ResV.tmp rfl) (ResV.tmp rfl)) (⟨ub, rfl, rfl⟩))
end Go.Proofs.YtpajnlcikmhpdaaDoor
