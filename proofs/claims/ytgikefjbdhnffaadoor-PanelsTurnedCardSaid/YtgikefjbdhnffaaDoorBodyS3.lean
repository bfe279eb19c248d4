/- Walks: crowded placements, placements beyond an edge. -/
import Derived.Test.YtgikefjbdhnffaaDoorBodyS2
namespace Go.Proofs.YtgikefjbdhnffaaDoor
open Go.RowKit
set_option linter.unusedVariables false
set_option linter.unusedSimpArgs false
structure LyBd (x : LyS) : Prop where
  a : -500000 ≤ x.left ∧ x.left ≤ 1500000
  b : -500000 ≤ x.right ∧ x.right ≤ 1500000
  c : -500000 ≤ x.lower ∧ x.lower ≤ 1500000
  d : -500000 ≤ x.high ∧ x.high ≤ 1500000
theorem lyOf_bd {c : PlaceS} {d : BodyS} (hx : 0 ≤ c.x ∧ c.x ≤ 500000) (hy : 0 ≤ c.y ∧ c.y ≤ 500000) (hd : (1 ≤ d.wide ∧ d.wide ≤ 500000) ∧ 1 ≤ d.high ∧ d.high ≤ 500000) : LyBd (lyOf c d) := by
  have hwh := bWH_bd (q := c.quarter) hd
  exact ⟨by show _ ≤ 2 * c.x - _ ∧ 2 * c.x - _ ≤ _; omega, by show _ ≤ 2 * c.x + _ ∧ 2 * c.x + _ ≤ _; omega, by show _ ≤ 2 * c.y - _ ∧ 2 * c.y - _ ≤ _; omega, by show _ ≤ 2 * c.y + _ ∧ 2 * c.y + _ ≤ _; omega⟩
theorem lyO_bd {p : ProdS} {b : List BodyS} (h1 : prodF p = 0) (h2 : bodiesF b = 0) {c : PlaceS} (hc : c ∈ p.places) {x : LyS} (hx : lyO b c = some x) : LyBd x := by
  unfold lyO at hx
  cases e : mget (bodM b) c.part with
  | none => rw [e] at hx; cases hx
  | some d =>
    rw [e] at hx; cases hx
    obtain ⟨j, hj, rfl⟩ := List.getElem_of_mem hc
    have := place_bd h1 hj
    rw [List.getD_eq_getElem?_getD, List.getElem?_eq_getElem hj] at this
    exact lyOf_bd this.1 this.2.1 (body_bd h2 (bodM_in e))
theorem lyL_bd {p : ProdS} {b : List BodyS} (h1 : prodF p = 0) (h2 : bodiesF b = 0) {x : LyS} (hx : x ∈ lyL p b) : LyBd x := by
  obtain ⟨c, hc, e⟩ := List.mem_filterMap.1 hx
  exact lyO_bd h1 h2 hc e
theorem getD_mem {α : Type} {l : List α} {i : Nat} (h : i < l.length) (d : α) : l.getD i d ∈ l := by
  rw [List.getD_eq_getElem?_getD, List.getElem?_eq_getElem h]; exact List.getElem_mem h
theorem fm_take {α β : Type} [Inhabited α] {f : α → Option β} {m : List α} {r : Nat} (h : r < m.length) : (m.take (r + 1)).filterMap f = (m.take r).filterMap f ++ (f (m.getD r default)).toList := by
  rw [take_snocD h default, List.filterMap_append]
  congr 1
theorem pairO_t {n : Int} {x y : LyS} (h1 : decide (max (x.left - y.right) (y.left - x.right) < 2 * n) = true) (h2 : decide (max (x.lower - y.high) (y.lower - x.high) < 2 * n) = true) : pairO n x y = some ⟨x.name, y.name⟩ := if_pos (by show (_ && _) = true; rw [h1, h2]; rfl)
theorem pairO_a {n : Int} {x y : LyS} (h1 : decide (max (x.left - y.right) (y.left - x.right) < 2 * n) = false) : pairO n x y = none := if_neg (by show ¬ (_ && _) = true; rw [h1]; simp)
theorem pairO_b {n : Int} {x y : LyS} (h2 : decide (max (x.lower - y.high) (y.lower - x.high) < 2 * n) = false) : pairO n x y = none := if_neg (by show ¬ (_ && _) = true; rw [h2]; simp)
def accP (n : Int) (l : List LyS) (q r : Nat) : List PairS := pairsR (pairO n) l q ++ ((l.drop (q + 1)).take r).filterMap (pairO n (l.getD q default))
theorem accP_0 (n : Int) (l : List LyS) (q : Nat) : accP n l q 0 = pairsR (pairO n) l q := by simp [accP]
theorem accP_t {n : Int} {l : List LyS} {q r : Nat} (h : r < (l.drop (q + 1)).length) {z : PairS} (e : pairO n (l.getD q default) ((l.drop (q + 1)).getD r default) = some z) : accP n l q (r + 1) = accP n l q r ++ [z] := by
  rw [accP, fm_take h, e, accP, List.append_assoc]; rfl
theorem accP_f {n : Int} {l : List LyS} {q r : Nat} (h : r < (l.drop (q + 1)).length) (e : pairO n (l.getD q default) ((l.drop (q + 1)).getD r default) = none) : accP n l q (r + 1) = accP n l q r := by
  rw [accP, fm_take h, e, accP]; simp
theorem accP_all {n : Int} {l : List LyS} {q r : Nat} (h : (l.drop (q + 1)).length ≤ r) : accP n l q r = pairsR (pairO n) l (q + 1) := by
  rw [accP, List.take_of_length_le h, pairsR_succ]
theorem pairsR_len {α β : Type} [Inhabited α] (f : α → α → Option β) (l : List α) : ∀ q, (pairsR f l q).length ≤ q * l.length
  | 0 => by simp [pairsR]
  | q + 1 => by
    rw [pairsR_succ, List.length_append]
    have h1 := pairsR_len f l q
    have h2 := List.length_filterMap_le (f (l.getD q default)) (l.drop (q + 1))
    have h3 : (l.drop (q + 1)).length ≤ l.length := by simp
    rw [Nat.add_mul]; omega
theorem accP_len {n : Int} {l : List LyS} {q r : Nat} (hq : q < l.length) (hl : l.length ≤ 1000) : (accP n l q r).length ≤ 2000000 := by
  rw [accP, List.length_append]
  have h1 := pairsR_len (pairO n) l q
  have h2 := List.length_filterMap_le (pairO n (l.getD q default)) ((l.drop (q + 1)).take r)
  have h3 := List.length_take_le r (l.drop (q + 1))
  have h4 : (l.drop (q + 1)).length ≤ l.length := by simp
  have h5 : ((l.drop (q + 1)).take r).length ≤ (l.drop (q + 1)).length := by simp; omega
  have h6 : q * l.length ≤ 1000 * 1000 := Nat.mul_le_mul (by omega) hl
  omega
theorem lyL_len (p : ProdS) (b : List BodyS) : (lyL p b).length ≤ p.places.length := List.length_filterMap_le _ _
theorem crowdR_no {p : ProdS} {b : List BodyS} {n : Int} (h : bodsE p b n ≠ 0) : crowdR p b n = [] := if_neg h
theorem beyondR_no {p : ProdS} {b : List BodyS} {n : Int} (h : bodsE p b n ≠ 0) : beyondR p b n = [] := if_neg h
set_option maxRecDepth 100000 in
set_option maxHeartbeats 4000000 in
theorem panel_Crowded {p : ProdS} {b : List BodyS} {n : Int} (hs : SmP p) (hb : SmB b) :
    SpecN Tryd.prog 27 [avProd p, avL b, avI n] (fun y => y = .tup [avL (crowdR p b n), avI (bodsE p b n)]) := by
  refine SpecN.of_VCN Tryd.func27 rfl Tryd.ntmps27 (Nat.le_of_ble_eq_true rfl) fun w A hB => ?_
  have hnew : True := trivial
  refine VC.seq ?_
  obtain ⟨l, hl⟩ : ∃ l, lyR p b n = l := ⟨_, rfl⟩
  obtain ⟨e, he⟩ : ∃ e, bodsE p b n = e := ⟨_, rfl⟩
  have hC := panel_bodies (n := n) hs hb
  rw [hl, he] at hC
  refine VC.region ?_
  refine VO.op rfl (OpE.box rfl hB rfl rfl rfl ?_)
  intro g3
  refine VO.val rfl rfl (OpV.move (.inr rfl) rfl) ?_
  refine VO.val rfl rfl (OpV.move (.inr rfl) rfl) ?_
  refine VO.nil ?_
  show VC _ _ _ _ _
  refine VC.seq ?_
  refine VC.region ?_
  refine VO.val rfl rfl (OpV.loadK_own (i := 0) rfl hB Tryd.isAgg44 Tryd.sizeOf44 rfl rfl rfl (fun h => h)) ?_
  refine VO.val rfl rfl (OpV.move (.inl rfl) rfl) ?_
  refine VO.val rfl rfl (OpV.move (.inl rfl) rfl) ?_
  refine VO.op rfl (OpE.call rfl hB rfl Tryd.call61 rfl (SpecN.spec (hC)) ?_)
  rintro _ rfl
  refine VO.val rfl rfl (OpV.move (.inl rfl) rfl) ?_
  first
    | refine VO.val rfl rfl (OpV.extract rfl rfl rfl) ?_
    | refine VO.val rfl rfl (OpV.extract_v rfl rfl rfl) ?_
  first
    | refine VO.val rfl rfl (OpV.extract rfl rfl rfl) ?_
    | refine VO.val rfl rfl (OpV.extract_v rfl rfl rfl) ?_
  refine VO.val rfl rfl (OpV.move (.inr rfl) rfl) ?_
  refine VO.val rfl rfl (OpV.move (.inr rfl) rfl) ?_
  refine VO.nil ?_
  show VC _ _ _ _ _
  refine VC.seq ?_
  refine VC.seq ?_
  refine VC.region ?_
  refine VO.val rfl rfl (OpV.move (.inl rfl) rfl) ?_
  refine VO.val rfl rfl (OpV.neq rfl rfl rfl) ?_
  refine VO.nil ?_
  show VC _ _ _ _ _
  refine VC.cond rfl (fun h0b => ?_) (fun h0b => ?_)
  · have h0 := h0b
    try simp only [decide_eq_true_eq, decide_eq_false_iff_not, Bool.not_eq_true', Bool.not_eq_false', Int.not_lt, Int.not_le] at h0
    refine VC.seq ?_
    refine VC.region ?_
    refine VO.val rfl rfl (OpV.move (.inl rfl) rfl) ?_
    refine VO.val rfl rfl (OpV.move (.inr rfl) rfl) ?_
    refine VO.val rfl rfl (OpV.move (.inr rfl) rfl) ?_
    refine VO.nil ?_
    show VC _ _ _ _ _
    refine VC.ret ?_
    exact Exists.intro _ (And.intro (RetN.two Tryd.results27 (ResN.nilE rfl) (ResN.v rfl)) (by rw [crowdR_no (by rw [he]; exact h0), he]; rfl))
  · have h0 := h0b
    try simp only [decide_eq_true_eq, decide_eq_false_iff_not, Bool.not_eq_true', Bool.not_eq_false', Int.not_lt, Int.not_le] at h0
    have h00 : bodsE p b n = 0 := by omega
    have hz := bodsE_0 h00
    have hll : l = lyL p b := by rw [← hl, lyR_ok h00]
    have hlen : l.length ≤ 1000 := by have h1 := lyL_len p b; have h2 := (prodOk hz.1).len; rw [hll]; omega
    have hbd : ∀ q, q < l.length → LyBd (l.getD q default) := fun q hq => lyL_bd hz.1 hz.2.1 (by rw [← hll]; exact getD_mem hq _)
    refine VC.skip ?_
    show VC _ _ _ _ _
    refine VC.seq ?_
    refine VC.region ?_
    refine VO.val rfl rfl (OpV.move (.inr rfl) rfl) ?_
    refine VO.nil ?_
    show VC _ _ _ _ _
    refine VC.seq ?_
    refine VC.seq ?_
    refine VC.region ?_
    refine VO.val rfl rfl (OpV.move (.inl rfl) rfl) ?_
    first
      | refine VO.val rfl rfl (OpV.len_im rfl Tryd.underlying119 rfl) ?_
      | refine VO.val rfl rfl (OpV.len_v rfl Tryd.underlying119 rfl) ?_
      | refine VO.val rfl rfl (OpV.len_row (i := 0) rfl Tryd.underlying119 rfl rfl) ?_
    refine VO.val rfl rfl (OpV.move (.inl rfl) rfl) ?_
    refine VO.nil ?_
    show VC _ _ _ _ _
    refine VC.block ?_
    refine VC.le _ (Le.nilRow 2 81) ?_
    refine VC.loopK [(2, _), (8, _), (25, _), (26, _)] ⟨rfl, rfl, rfl, rfl, trivial⟩ ({z : Value × Nat // z.2 ≤ l.length}) (fun (i : {z : Value × Nat // z.2 ≤ l.length}) => match i with | ⟨⟨u, q⟩, hq⟩ => [(10, .v u), (27, avI (q : Int))]) (fun (i : {z : Value × Nat // z.2 ≤ l.length}) => match i with | ⟨⟨u, q⟩, hq⟩ => [.row u (pairsR (pairO n) l q).length 2 (rowL (pairsR (pairO n) l q)) 81]) (fun (i : {z : Value × Nat // z.2 ≤ l.length}) => match i with | ⟨⟨u, q⟩, hq⟩ => 0) (fun (i : {z : Value × Nat // z.2 ≤ l.length}) => match i with | ⟨⟨u, q⟩, hq⟩ => l.length - q) ⟨(.slice none 0 0, 0), Nat.zero_le _⟩ (Le.mk hB [1] ⟨rfl, rfl, rfl, rfl, rfl, rfl, trivial⟩ rfl rfl (Nat.le_refl _)) ?_
    rintro ⟨⟨u, q⟩, hq⟩
    show VC _ _ _ _ ⟨[(10, .v u), (27, avI (q : Int))] ++ [(2, _), (8, _), (25, _), (26, _)], [.row u (pairsR (pairO n) l q).length 2 (rowL (pairsR (pairO n) l q)) 81], 0⟩
    simp only at hq
    refine VC.seq ?_
    refine VC.region ?_
    refine VO.val rfl rfl (OpV.lss rfl rfl rfl) ?_
    refine VO.nil ?_
    show VC _ _ _ _ _
    refine VC.seq ?_
    refine VC.cond rfl (fun aH1b => ?_) (fun aH1b => ?_)
    · have aH1 := aH1b
      try simp only [decide_eq_true_eq, decide_eq_false_iff_not, Bool.not_eq_true', Bool.not_eq_false', Int.not_lt, Int.not_le] at aH1
      refine VC.skip ?_
      show VC _ _ _ _ _
      refine VC.seq ?_
      refine VC.block ?_
      refine VC.seq ?_
      refine VC.region ?_
      refine VO.val rfl rfl (OpV.move (.inl rfl) rfl) ?_
      first
        | refine VO.val rfl rfl (OpV.indexAddr_E rfl Tryd.underlying119 Tryd.sizeOf123 rfl rfl rfl (by omega)) ?_
        | refine VO.val rfl rfl (OpV.indexAddr_E rfl Tryd.underlying119 Tryd.sizeOf123 rfl rfl (Int.toNat_of_nonneg (by omega)).symm (by omega)) ?_
        | refine VO.val rfl rfl (OpV.indexAddr_q rfl Tryd.underlying119 Tryd.sizeOf123 rfl rfl rfl (by omega)) ?_
        | refine VO.val rfl rfl (OpV.indexAddr_q rfl Tryd.underlying119 Tryd.sizeOf123 rfl rfl (Int.toNat_of_nonneg (by omega)).symm (by omega)) ?_
        | refine VO.val rfl rfl (OpV.indexAddr_im rfl Tryd.underlying119 Tryd.sizeOf123 rfl rfl (by omega) (by omega)) ?_
      first
        | refine VO.val rfl rfl (OpV.loadK_at rfl hB OutW.no Tryd.isAgg123 Tryd.sizeOf123 rfl rfl) ?_
        | refine VO.val rfl rfl (OpV.loadK_own (i := 0) rfl hB Tryd.isAgg123 Tryd.sizeOf123 rfl rfl rfl (fun h => h)) ?_
      refine VO.op rfl (OpE.alloc rfl hB rfl Tryd.zeroValue123 rfl ?_)
      intro g12
      refine VO.val rfl rfl (OpV.move (.inr rfl) rfl) ?_
      refine VO.op rfl (OpE.store (i := 1) rfl hB rfl Tryd.sizeOf123 rfl rfl rfl rfl rfl rfl (Nat.le_of_ble_eq_true rfl) trivial ?_)
      refine VO.nil ?_
      show VC _ _ _ _ _
      refine VC.seq ?_
      refine VC.region ?_
      refine VO.val rfl rfl (OpV.move (.inl rfl) rfl) ?_
      refine VO.val rfl rfl (OpV.move (.inl rfl) rfl) ?_
      refine VO.val rfl rfl (OpV.add rfl rfl rfl (by unfold fits; omega)) ?_
      first
        | refine VO.val rfl rfl (OpV.slice_ints (l := q + 1) rfl Tryd.underlying119 Tryd.sizeOf123 rfl ⟨_, _, rfl, by omega⟩ rfl (by omega) (by omega)) ?_
        | refine VO.val rfl rfl (OpV.slice_strs (l := q + 1) rfl Tryd.underlying119 Tryd.sizeOf123 rfl ⟨_, _, rfl, by omega⟩ rfl (by omega) (by omega)) ?_
        | refine VO.val rfl rfl (OpV.slice_M (l := q + 1) rfl Tryd.underlying119 Tryd.sizeOf123 rfl ⟨_, _, rfl, by omega⟩ rfl (by omega) (by omega)) ?_
        | refine VO.val rfl rfl (OpV.slice_L (l := q + 1) rfl Tryd.underlying119 Tryd.sizeOf123 rfl ⟨_, _, rfl, by omega⟩ rfl (by omega) (by omega)) ?_
        | refine VO.val rfl rfl (OpV.slice_im (l := q + 1) rfl Tryd.underlying119 Tryd.sizeOf123 rfl ⟨_, _, rfl, by omega⟩ rfl (by omega) (by omega)) ?_
        | refine VO.val rfl rfl (OpV.slice_own (l := q + 1) rfl Tryd.underlying119 Tryd.sizeOf123 rfl ⟨_, _, rfl, by omega⟩ rfl (by omega) (by omega) (by omega)) ?_
      refine VO.le _ (Le.recast (t := 35) (y := avL (l.drop (q + 1))) rfl (fun w Z u h => by rw [List.take_length] at h; exact h)) ?_
      first
        | refine VO.val rfl rfl (OpV.len_im rfl Tryd.underlying119 rfl) ?_
        | refine VO.val rfl rfl (OpV.len_v rfl Tryd.underlying119 rfl) ?_
        | refine VO.val rfl rfl (OpV.len_row (i := 0) rfl Tryd.underlying119 rfl rfl) ?_
        | refine VO.val rfl rfl (OpV.len_row (i := 1) rfl Tryd.underlying119 rfl rfl) ?_
      refine VO.val rfl rfl (OpV.move (.inl rfl) rfl) ?_
      refine VO.nil ?_
      show VC _ _ _ _ _
      refine VC.block ?_
      have hbx := hbd q (by omega)
      refine VC.loopK [(2, _), (8, _), (12, _), (25, _), (26, _), (27, _), (35, _), (36, _)] ⟨rfl, rfl, rfl, rfl, rfl, rfl, rfl, rfl, trivial⟩ ({z : Value × Nat // z.2 ≤ (l.drop (q + 1)).length}) (fun (i : {z : Value × Nat // z.2 ≤ (l.drop (q + 1)).length}) => match i with | ⟨⟨u, r⟩, hr⟩ => [(10, .v u), (37, avI (r : Int))]) (fun (i : {z : Value × Nat // z.2 ≤ (l.drop (q + 1)).length}) => match i with | ⟨⟨u, r⟩, hr⟩ => [.row u (accP n l q r).length 2 (rowL (accP n l q r)) 81, .box g12 ⟨[avS (l.getD q default).name, avI (l.getD q default).left, avI (l.getD q default).right, avI (l.getD q default).lower, avI (l.getD q default).high], 123, 5⟩]) (fun (i : {z : Value × Nat // z.2 ≤ (l.drop (q + 1)).length}) => match i with | ⟨⟨u, r⟩, hr⟩ => 0) (fun (i : {z : Value × Nat // z.2 ≤ (l.drop (q + 1)).length}) => match i with | ⟨⟨u, r⟩, hr⟩ => (l.drop (q + 1)).length - r) ⟨(u, 0), Nat.zero_le _⟩ (Le.mk hB [0, 1] ⟨rfl, rfl, rfl, rfl, rfl, rfl, rfl, rfl, rfl, rfl, trivial⟩ rfl (by dsimp only; rw [accP_0]; rfl) (Nat.le_refl _)) ?_
      rintro ⟨⟨u, r⟩, hr⟩
      show VC _ _ _ _ ⟨[(10, .v u), (37, avI (r : Int))] ++ [(2, _), (8, _), (12, _), (25, _), (26, _), (27, _), (35, _), (36, _)], [.row u (accP n l q r).length 2 (rowL (accP n l q r)) 81, .box g12 ⟨[avS (l.getD q default).name, avI (l.getD q default).left, avI (l.getD q default).right, avI (l.getD q default).lower, avI (l.getD q default).high], 123, 5⟩], 0⟩
      simp only at hr
      have hdl : (l.drop (q + 1)).length ≤ l.length := by simp
      have hal := accP_len (n := n) (r := r) (q := q) (l := l) (by omega) hlen
      refine VC.seq ?_
      refine VC.region ?_
      refine VO.val rfl rfl (OpV.lss rfl rfl rfl) ?_
      refine VO.nil ?_
      show VC _ _ _ _ _
      refine VC.seq ?_
      refine VC.cond rfl (fun aH2b => ?_) (fun aH2b => ?_)
      · have aH2 := aH2b
        try simp only [decide_eq_true_eq, decide_eq_false_iff_not, Bool.not_eq_true', Bool.not_eq_false', Int.not_lt, Int.not_le] at aH2
        refine VC.skip ?_
        show VC _ _ _ _ _
        refine VC.seq ?_
        refine VC.block ?_
        refine VC.seq ?_
        refine VC.region ?_
        first
          | refine VO.val rfl rfl (OpV.indexAddr_E rfl Tryd.underlying119 Tryd.sizeOf123 rfl rfl rfl (by omega)) ?_
          | refine VO.val rfl rfl (OpV.indexAddr_E rfl Tryd.underlying119 Tryd.sizeOf123 rfl rfl (Int.toNat_of_nonneg (by omega)).symm (by omega)) ?_
          | refine VO.val rfl rfl (OpV.indexAddr_q rfl Tryd.underlying119 Tryd.sizeOf123 rfl rfl rfl (by omega)) ?_
          | refine VO.val rfl rfl (OpV.indexAddr_q rfl Tryd.underlying119 Tryd.sizeOf123 rfl rfl (Int.toNat_of_nonneg (by omega)).symm (by omega)) ?_
          | refine VO.val rfl rfl (OpV.indexAddr_im rfl Tryd.underlying119 Tryd.sizeOf123 rfl rfl (by omega) (by omega)) ?_
        first
          | refine VO.val rfl rfl (OpV.loadK_at rfl hB OutW.no Tryd.isAgg123 Tryd.sizeOf123 rfl rfl) ?_
          | refine VO.val rfl rfl (OpV.loadK_own (i := 0) rfl hB Tryd.isAgg123 Tryd.sizeOf123 rfl rfl rfl (fun h => h)) ?_
          | refine VO.val rfl rfl (OpV.loadK_own (i := 1) rfl hB Tryd.isAgg123 Tryd.sizeOf123 rfl rfl rfl (fun h => h)) ?_
        refine VO.op rfl (OpE.alloc rfl hB rfl Tryd.zeroValue123 rfl ?_)
        intro g14
        refine VO.op rfl (OpE.store (i := 2) rfl hB rfl Tryd.sizeOf123 rfl rfl rfl rfl rfl rfl (Nat.le_of_ble_eq_true rfl) trivial ?_)
        refine VO.nil ?_
        show VC _ _ _ _ _
        refine VC.seq ?_
        have hby := hbd (q + 1 + r) (by simp at *; omega)
        have hbe : l.getD (q + 1 + r) default = (l.drop (q + 1)).getD r default := by simp [List.getD_eq_getElem?_getD, List.getElem?_drop]
        rw [hbe] at hby
        have f1 := hbx.a; have f2 := hbx.b; have f3 := hbx.c; have f4 := hbx.d
        have g1 := hby.a; have g2 := hby.b; have g3' := hby.c; have g4 := hby.d
        refine VC.region ?_
        first
          | refine VO.val rfl rfl (OpV.fieldAddr_atO 1 rfl Tryd.underlying123 rfl rfl Tryd.sizeOf3 rfl rfl) ?_
          | refine VO.val rfl rfl (OpV.fieldAddrO 1 rfl Tryd.underlying123 rfl rfl Tryd.sizeOf3 rfl) ?_
        first
          | refine VO.val rfl rfl (OpV.load_at rfl hB OutW.no Tryd.isAgg3 rfl rfl) ?_
          | refine VO.val rfl rfl (OpV.load_own (i := 0) rfl hB Tryd.isAgg3 rfl rfl rfl (fun h => h)) ?_
          | refine VO.val rfl rfl (OpV.load_own (i := 1) rfl hB Tryd.isAgg3 rfl rfl rfl (fun h => h)) ?_
          | refine VO.val rfl rfl (OpV.load_own (i := 2) rfl hB Tryd.isAgg3 rfl rfl rfl (fun h => h)) ?_
        first
          | refine VO.val rfl rfl (OpV.fieldAddr_atO 2 rfl Tryd.underlying123 rfl rfl Tryd.sizeOf3 rfl rfl) ?_
          | refine VO.val rfl rfl (OpV.fieldAddrO 2 rfl Tryd.underlying123 rfl rfl Tryd.sizeOf3 rfl) ?_
        refine VO.val rfl rfl (OpV.load_own (i := 2) rfl hB Tryd.isAgg3 rfl rfl rfl (fun h => h)) ?_
        refine VO.val rfl rfl (OpV.sub rfl rfl rfl (by unfold fits; omega)) ?_
        first
          | refine VO.val rfl rfl (OpV.fieldAddr_atO 1 rfl Tryd.underlying123 rfl rfl Tryd.sizeOf3 rfl rfl) ?_
          | refine VO.val rfl rfl (OpV.fieldAddrO 1 rfl Tryd.underlying123 rfl rfl Tryd.sizeOf3 rfl) ?_
        refine VO.val rfl rfl (OpV.load_own (i := 2) rfl hB Tryd.isAgg3 rfl rfl rfl (fun h => h)) ?_
        first
          | refine VO.val rfl rfl (OpV.fieldAddr_atO 2 rfl Tryd.underlying123 rfl rfl Tryd.sizeOf3 rfl rfl) ?_
          | refine VO.val rfl rfl (OpV.fieldAddrO 2 rfl Tryd.underlying123 rfl rfl Tryd.sizeOf3 rfl) ?_
        first
          | refine VO.val rfl rfl (OpV.load_at rfl hB OutW.no Tryd.isAgg3 rfl rfl) ?_
          | refine VO.val rfl rfl (OpV.load_own (i := 0) rfl hB Tryd.isAgg3 rfl rfl rfl (fun h => h)) ?_
          | refine VO.val rfl rfl (OpV.load_own (i := 1) rfl hB Tryd.isAgg3 rfl rfl rfl (fun h => h)) ?_
          | refine VO.val rfl rfl (OpV.load_own (i := 2) rfl hB Tryd.isAgg3 rfl rfl rfl (fun h => h)) ?_
        refine VO.val rfl rfl (OpV.sub rfl rfl rfl (by unfold fits; omega)) ?_
        refine VO.val rfl rfl (OpV.max2 rfl rfl rfl) ?_
        refine VO.val rfl rfl (OpV.move (.inl rfl) rfl) ?_
        refine VO.val rfl rfl (OpV.mul rfl rfl rfl (by unfold fits; omega)) ?_
        refine VO.val rfl rfl (OpV.lss rfl rfl rfl) ?_
        refine VO.val rfl rfl (OpV.move (.inl rfl) rfl) ?_
        refine VO.opG rfl rfl rfl rfl (fun aK3b => ?_) (fun aK3b => ?_)
        · replace aK3b : _ = true := aK3b
          have aK3 := aK3b
          try simp only [decide_eq_true_eq, decide_eq_false_iff_not, Bool.not_eq_true', Bool.not_eq_false', Int.not_lt, Int.not_le] at aK3
          first
            | refine OpE.val (W := NoB) (OpV.fieldAddr_atO 3 rfl Tryd.underlying123 rfl rfl Tryd.sizeOf3 rfl rfl) rfl ?_
            | refine OpE.val (W := NoB) (OpV.fieldAddrO 3 rfl Tryd.underlying123 rfl rfl Tryd.sizeOf3 rfl) rfl ?_
          refine VO.opY rfl rfl rfl rfl aK3b ?_
          first
            | refine OpE.val (W := NoB) (OpV.load_at rfl hB OutW.no Tryd.isAgg3 rfl rfl) rfl ?_
            | refine OpE.val (W := NoB) (OpV.load_own (i := 0) rfl hB Tryd.isAgg3 rfl rfl rfl (fun h => h)) rfl ?_
            | refine OpE.val (W := NoB) (OpV.load_own (i := 1) rfl hB Tryd.isAgg3 rfl rfl rfl (fun h => h)) rfl ?_
            | refine OpE.val (W := NoB) (OpV.load_own (i := 2) rfl hB Tryd.isAgg3 rfl rfl rfl (fun h => h)) rfl ?_
          refine VO.opY rfl rfl rfl rfl aK3b ?_
          first
            | refine OpE.val (W := NoB) (OpV.fieldAddr_atO 4 rfl Tryd.underlying123 rfl rfl Tryd.sizeOf3 rfl rfl) rfl ?_
            | refine OpE.val (W := NoB) (OpV.fieldAddrO 4 rfl Tryd.underlying123 rfl rfl Tryd.sizeOf3 rfl) rfl ?_
          refine VO.opY rfl rfl rfl rfl aK3b ?_
          refine OpE.val (W := NoB) (OpV.load_own (i := 2) rfl hB Tryd.isAgg3 rfl rfl rfl (fun h => h)) rfl ?_
          refine VO.opY rfl rfl rfl rfl aK3b ?_
          refine OpE.val (W := NoB) (OpV.sub rfl rfl rfl (by unfold fits; omega)) rfl ?_
          refine VO.opY rfl rfl rfl rfl aK3b ?_
          first
            | refine OpE.val (W := NoB) (OpV.fieldAddr_atO 3 rfl Tryd.underlying123 rfl rfl Tryd.sizeOf3 rfl rfl) rfl ?_
            | refine OpE.val (W := NoB) (OpV.fieldAddrO 3 rfl Tryd.underlying123 rfl rfl Tryd.sizeOf3 rfl) rfl ?_
          refine VO.opY rfl rfl rfl rfl aK3b ?_
          refine OpE.val (W := NoB) (OpV.load_own (i := 2) rfl hB Tryd.isAgg3 rfl rfl rfl (fun h => h)) rfl ?_
          refine VO.opY rfl rfl rfl rfl aK3b ?_
          first
            | refine OpE.val (W := NoB) (OpV.fieldAddr_atO 4 rfl Tryd.underlying123 rfl rfl Tryd.sizeOf3 rfl rfl) rfl ?_
            | refine OpE.val (W := NoB) (OpV.fieldAddrO 4 rfl Tryd.underlying123 rfl rfl Tryd.sizeOf3 rfl) rfl ?_
          refine VO.opY rfl rfl rfl rfl aK3b ?_
          first
            | refine OpE.val (W := NoB) (OpV.load_at rfl hB OutW.no Tryd.isAgg3 rfl rfl) rfl ?_
            | refine OpE.val (W := NoB) (OpV.load_own (i := 0) rfl hB Tryd.isAgg3 rfl rfl rfl (fun h => h)) rfl ?_
            | refine OpE.val (W := NoB) (OpV.load_own (i := 1) rfl hB Tryd.isAgg3 rfl rfl rfl (fun h => h)) rfl ?_
            | refine OpE.val (W := NoB) (OpV.load_own (i := 2) rfl hB Tryd.isAgg3 rfl rfl rfl (fun h => h)) rfl ?_
          refine VO.opY rfl rfl rfl rfl aK3b ?_
          refine OpE.val (W := NoB) (OpV.sub rfl rfl rfl (by unfold fits; omega)) rfl ?_
          refine VO.opY rfl rfl rfl rfl aK3b ?_
          refine OpE.val (W := NoB) (OpV.max2 rfl rfl rfl) rfl ?_
          refine VO.opY rfl rfl rfl rfl aK3b ?_
          refine OpE.val (W := NoB) (OpV.move (.inl rfl) rfl) rfl ?_
          refine VO.opY rfl rfl rfl rfl aK3b ?_
          refine OpE.val (W := NoB) (OpV.mul rfl rfl rfl (by unfold fits; omega)) rfl ?_
          refine VO.opY rfl rfl rfl rfl aK3b ?_
          refine OpE.val (W := NoB) (OpV.lss rfl rfl rfl) rfl ?_
          refine VO.val rfl rfl (OpV.pickT rfl rfl rfl rfl aK3b) ?_
          refine VO.nil ?_
          show VC _ _ _ _ _
          refine VC.cond rfl (fun aH4b => ?_) (fun aH4b => ?_)
          · have aH4 := aH4b
            try simp only [decide_eq_true_eq, decide_eq_false_iff_not, Bool.not_eq_true', Bool.not_eq_false', Int.not_lt, Int.not_le] at aH4
            refine VC.region ?_
            refine VO.val rfl rfl (OpV.move (.inl rfl) rfl) ?_
            first
              | refine VO.val rfl rfl (OpV.fieldAddr_atO 0 rfl Tryd.underlying123 rfl rfl Tryd.sizeOf9 rfl rfl) ?_
              | refine VO.val rfl rfl (OpV.fieldAddrO 0 rfl Tryd.underlying123 rfl rfl Tryd.sizeOf9 rfl) ?_
            first
              | refine VO.val rfl rfl (OpV.load_at rfl hB OutW.no Tryd.isAgg9 rfl rfl) ?_
              | refine VO.val rfl rfl (OpV.load_own (i := 0) rfl hB Tryd.isAgg9 rfl rfl rfl (fun h => h)) ?_
              | refine VO.val rfl rfl (OpV.load_own (i := 1) rfl hB Tryd.isAgg9 rfl rfl rfl (fun h => h)) ?_
              | refine VO.val rfl rfl (OpV.load_own (i := 2) rfl hB Tryd.isAgg9 rfl rfl rfl (fun h => h)) ?_
            first
              | refine VO.val rfl rfl (OpV.fieldAddr_atO 0 rfl Tryd.underlying123 rfl rfl Tryd.sizeOf9 rfl rfl) ?_
              | refine VO.val rfl rfl (OpV.fieldAddrO 0 rfl Tryd.underlying123 rfl rfl Tryd.sizeOf9 rfl) ?_
            refine VO.val rfl rfl (OpV.load_own (i := 2) rfl hB Tryd.isAgg9 rfl rfl rfl (fun h => h)) ?_
            refine VO.val rfl rfl (OpV.build (pls := #[(0, 1), (1, 1)]) rfl Tryd.zeroValue81 Tryd.underlying81 (fun w => by kernel_rfl) rfl rfl) ?_
            refine VO.op rfl (OpE.buildSlice (zc := #[.string ⟨#[]⟩, .string ⟨#[]⟩]) rfl hB rfl Tryd.underlying67 Tryd.sizeOf81 Tryd.zeroValue81 (by decide) (by decide) (by kernel_rfl) rfl rfl ?_)
            first
              | refine VO.op rfl (OpE.append1 (i := 0) rfl hB rfl Tryd.underlying67 (infoOf Tryd.t81 2 (by kernel_rfl) rfl rfl) rfl (by decide) (by decide) rfl rfl rfl rfl (rowL_snoc _ (⟨(l.getD q default).name, ((l.drop (q + 1)).getD r default).name⟩ : PairS)) (by omega) (fun _ _ => trivial) ?_)
              | refine VO.op rfl (OpE.append1 (i := 1) rfl hB rfl Tryd.underlying67 (infoOf Tryd.t81 2 (by kernel_rfl) rfl rfl) rfl (by decide) (by decide) rfl rfl rfl rfl (rowL_snoc _ (⟨(l.getD q default).name, ((l.drop (q + 1)).getD r default).name⟩ : PairS)) (by omega) (fun _ _ => trivial) ?_)
              | refine VO.op rfl (OpE.append1 (i := 2) rfl hB rfl Tryd.underlying67 (infoOf Tryd.t81 2 (by kernel_rfl) rfl rfl) rfl (by decide) (by decide) rfl rfl rfl rfl (rowL_snoc _ (⟨(l.getD q default).name, ((l.drop (q + 1)).getD r default).name⟩ : PairS)) (by omega) (fun _ _ => trivial) ?_)
            intro u2
            refine VO.val rfl rfl (OpV.move (.inr rfl) rfl) ?_
            refine VO.nil ?_
            show VC _ _ _ _ _
            refine VC.region ?_
            refine VO.val rfl rfl (OpV.add rfl rfl rfl (by unfold fits; omega)) ?_
            refine VO.val rfl rfl (OpV.move (.inl rfl) rfl) ?_
            refine VO.nil ?_
            first
              | exact Exists.intro (⟨(u2, r + 1), by show r + 1 ≤ _; omega⟩) (And.intro (Le.mk hB [0, 1] ⟨rfl, rfl, rfl, rfl, rfl, rfl, rfl, rfl, rfl, rfl, trivial⟩ rfl (by dsimp only; first | (rw [accP_t (by omega) (pairO_t (by assumption) (by assumption)), List.length_append]; rfl) | (rw [accP_f (by omega) (pairO_a (by assumption))]; rfl) | (rw [accP_f (by omega) (pairO_b (by assumption))]; rfl)) (Nat.le_refl _)) (by first | omega | (show _ < _; omega) | (simp only []; omega)))
              | exact Exists.intro (⟨(u, r + 1), by show r + 1 ≤ _; omega⟩) (And.intro (Le.mk hB [0, 1] ⟨rfl, rfl, rfl, rfl, rfl, rfl, rfl, rfl, rfl, rfl, trivial⟩ rfl (by dsimp only; first | (rw [accP_t (by omega) (pairO_t (by assumption) (by assumption)), List.length_append]; rfl) | (rw [accP_f (by omega) (pairO_a (by assumption))]; rfl) | (rw [accP_f (by omega) (pairO_b (by assumption))]; rfl)) (Nat.le_refl _)) (by first | omega | (show _ < _; omega) | (simp only []; omega)))
          · have aH4 := aH4b
            try simp only [decide_eq_true_eq, decide_eq_false_iff_not, Bool.not_eq_true', Bool.not_eq_false', Int.not_lt, Int.not_le] at aH4
            refine VC.skip ?_
            show VC _ _ _ _ _
            refine VC.region ?_
            refine VO.val rfl rfl (OpV.add rfl rfl rfl (by unfold fits; omega)) ?_
            refine VO.val rfl rfl (OpV.move (.inl rfl) rfl) ?_
            refine VO.nil ?_
            first
              | exact Exists.intro (⟨(u2, r + 1), by show r + 1 ≤ _; omega⟩) (And.intro (Le.mk hB [0, 1] ⟨rfl, rfl, rfl, rfl, rfl, rfl, rfl, rfl, rfl, rfl, trivial⟩ rfl (by dsimp only; first | (rw [accP_t (by omega) (pairO_t (by assumption) (by assumption)), List.length_append]; rfl) | (rw [accP_f (by omega) (pairO_a (by assumption))]; rfl) | (rw [accP_f (by omega) (pairO_b (by assumption))]; rfl)) (Nat.le_refl _)) (by first | omega | (show _ < _; omega) | (simp only []; omega)))
              | exact Exists.intro (⟨(u, r + 1), by show r + 1 ≤ _; omega⟩) (And.intro (Le.mk hB [0, 1] ⟨rfl, rfl, rfl, rfl, rfl, rfl, rfl, rfl, rfl, rfl, trivial⟩ rfl (by dsimp only; first | (rw [accP_t (by omega) (pairO_t (by assumption) (by assumption)), List.length_append]; rfl) | (rw [accP_f (by omega) (pairO_a (by assumption))]; rfl) | (rw [accP_f (by omega) (pairO_b (by assumption))]; rfl)) (Nat.le_refl _)) (by first | omega | (show _ < _; omega) | (simp only []; omega)))
        · replace aK3b : _ = false := aK3b
          have aK3 := aK3b
          try simp only [decide_eq_true_eq, decide_eq_false_iff_not, Bool.not_eq_true', Bool.not_eq_false', Int.not_lt, Int.not_le] at aK3
          refine VO.opX rfl rfl rfl rfl aK3b ?_
          refine VO.opX rfl rfl rfl rfl aK3b ?_
          refine VO.opX rfl rfl rfl rfl aK3b ?_
          refine VO.opX rfl rfl rfl rfl aK3b ?_
          refine VO.opX rfl rfl rfl rfl aK3b ?_
          refine VO.opX rfl rfl rfl rfl aK3b ?_
          refine VO.opX rfl rfl rfl rfl aK3b ?_
          refine VO.opX rfl rfl rfl rfl aK3b ?_
          refine VO.opX rfl rfl rfl rfl aK3b ?_
          refine VO.opX rfl rfl rfl rfl aK3b ?_
          refine VO.opX rfl rfl rfl rfl aK3b ?_
          refine VO.opX rfl rfl rfl rfl aK3b ?_
          refine VO.opX rfl rfl rfl rfl aK3b ?_
          refine VO.val rfl rfl (OpV.pickF rfl rfl rfl rfl aK3b) ?_
          refine VO.nil ?_
          show VC _ _ _ _ _
          refine VC.condF rfl rfl ?_
          refine VC.skip ?_
          show VC _ _ _ _ _
          refine VC.region ?_
          refine VO.val rfl rfl (OpV.add rfl rfl rfl (by unfold fits; omega)) ?_
          refine VO.val rfl rfl (OpV.move (.inl rfl) rfl) ?_
          refine VO.nil ?_
          first
            | exact Exists.intro (⟨(u2, r + 1), by show r + 1 ≤ _; omega⟩) (And.intro (Le.mk hB [0, 1] ⟨rfl, rfl, rfl, rfl, rfl, rfl, rfl, rfl, rfl, rfl, trivial⟩ rfl (by dsimp only; first | (rw [accP_t (by omega) (pairO_t (by assumption) (by assumption)), List.length_append]; rfl) | (rw [accP_f (by omega) (pairO_a (by assumption))]; rfl) | (rw [accP_f (by omega) (pairO_b (by assumption))]; rfl)) (Nat.le_refl _)) (by first | omega | (show _ < _; omega) | (simp only []; omega)))
            | exact Exists.intro (⟨(u, r + 1), by show r + 1 ≤ _; omega⟩) (And.intro (Le.mk hB [0, 1] ⟨rfl, rfl, rfl, rfl, rfl, rfl, rfl, rfl, rfl, rfl, trivial⟩ rfl (by dsimp only; first | (rw [accP_t (by omega) (pairO_t (by assumption) (by assumption)), List.length_append]; rfl) | (rw [accP_f (by omega) (pairO_a (by assumption))]; rfl) | (rw [accP_f (by omega) (pairO_b (by assumption))]; rfl)) (Nat.le_refl _)) (by first | omega | (show _ < _; omega) | (simp only []; omega)))
      · have aH2 := aH2b
        try simp only [decide_eq_true_eq, decide_eq_false_iff_not, Bool.not_eq_true', Bool.not_eq_false', Int.not_lt, Int.not_le] at aH2
        refine VC.exit ?_
        show VC _ _ _ _ _
        rw [accP_all (by omega)]
        refine VC.region ?_
        refine VO.val rfl rfl (OpV.add rfl rfl rfl (by unfold fits; omega)) ?_
        refine VO.val rfl rfl (OpV.move (.inl rfl) rfl) ?_
        refine VO.nil ?_
        exact Exists.intro (⟨(u, q + 1), by show q + 1 ≤ _; omega⟩) (And.intro (Le.mk hB [0] ⟨rfl, rfl, rfl, rfl, rfl, rfl, trivial⟩ rfl rfl (Nat.le_refl _)) (by first | omega | (show _ < _; omega) | (simp only []; omega)))
    · have aH1 := aH1b
      try simp only [decide_eq_true_eq, decide_eq_false_iff_not, Bool.not_eq_true', Bool.not_eq_false', Int.not_lt, Int.not_le] at aH1
      refine VC.exit ?_
      show VC _ _ _ _ _
      refine VC.seq ?_
      have hqe : q = l.length := by omega
      rw [hqe, pairsR_all]
      refine VC.region ?_
      refine VO.val rfl rfl (OpV.move (.inl rfl) rfl) ?_
      refine VO.val rfl rfl (OpV.move (.inr rfl) rfl) ?_
      refine VO.val rfl rfl (OpV.move (.inr rfl) rfl) ?_
      refine VO.nil ?_
      show VC _ _ _ _ _
      refine VC.ret ?_
      exact Exists.intro _ (And.intro (RetN.two Tryd.results27 (ResN.rowT (i := 0) rfl rfl rfl (flat_pair _)) (ResN.v rfl)) (by rw [crowdR, if_pos h00, h00, ← hll]))
theorem beyO_t {p : ProdS} {n : Int} {x : LyS} (h : decide (min (min (min x.left (2 * p.wide - x.right)) x.lower) (2 * p.high - x.high) < 2 * n) = true) : beyondO p n x = some x.name := if_pos (of_decide_eq_true h)
theorem beyO_f {p : ProdS} {n : Int} {x : LyS} (h : decide (min (min (min x.left (2 * p.wide - x.right)) x.lower) (2 * p.high - x.high) < 2 * n) = false) : beyondO p n x = none := if_neg (of_decide_eq_false h)
set_option maxRecDepth 100000 in
set_option maxHeartbeats 4000000 in
theorem panel_Beyond {p : ProdS} {b : List BodyS} {n : Int} (hs : SmP p) (hb : SmB b) :
    SpecN Tryd.prog 28 [avProd p, avL b, avI n] (fun y => y = .tup [avStrs (beyondR p b n), avI (bodsE p b n)]) := by
  refine SpecN.of_VCN Tryd.func28 rfl Tryd.ntmps28 (Nat.le_of_ble_eq_true rfl) fun w A hB => ?_
  have hnew : True := trivial
  refine VC.seq ?_
  obtain ⟨l, hl⟩ : ∃ l, lyR p b n = l := ⟨_, rfl⟩
  obtain ⟨e, he⟩ : ∃ e, bodsE p b n = e := ⟨_, rfl⟩
  have hC := panel_bodies (n := n) hs hb
  rw [hl, he] at hC
  refine VC.region ?_
  refine VO.op rfl (OpE.box rfl hB rfl rfl rfl ?_)
  intro g3
  refine VO.val rfl rfl (OpV.move (.inr rfl) rfl) ?_
  refine VO.val rfl rfl (OpV.move (.inr rfl) rfl) ?_
  refine VO.nil ?_
  show VC _ _ _ _ _
  refine VC.seq ?_
  refine VC.region ?_
  refine VO.val rfl rfl (OpV.loadK_own (i := 0) rfl hB Tryd.isAgg44 Tryd.sizeOf44 rfl rfl rfl (fun h => h)) ?_
  refine VO.val rfl rfl (OpV.move (.inl rfl) rfl) ?_
  refine VO.val rfl rfl (OpV.move (.inl rfl) rfl) ?_
  refine VO.op rfl (OpE.call rfl hB rfl Tryd.call61 rfl (SpecN.spec (hC)) ?_)
  rintro _ rfl
  refine VO.val rfl rfl (OpV.move (.inl rfl) rfl) ?_
  first
    | refine VO.val rfl rfl (OpV.extract rfl rfl rfl) ?_
    | refine VO.val rfl rfl (OpV.extract_v rfl rfl rfl) ?_
  first
    | refine VO.val rfl rfl (OpV.extract rfl rfl rfl) ?_
    | refine VO.val rfl rfl (OpV.extract_v rfl rfl rfl) ?_
  refine VO.val rfl rfl (OpV.move (.inr rfl) rfl) ?_
  refine VO.val rfl rfl (OpV.move (.inr rfl) rfl) ?_
  refine VO.nil ?_
  show VC _ _ _ _ _
  refine VC.seq ?_
  refine VC.seq ?_
  refine VC.region ?_
  refine VO.val rfl rfl (OpV.move (.inl rfl) rfl) ?_
  refine VO.val rfl rfl (OpV.neq rfl rfl rfl) ?_
  refine VO.nil ?_
  show VC _ _ _ _ _
  refine VC.cond rfl (fun h0b => ?_) (fun h0b => ?_)
  · have h0 := h0b
    try simp only [decide_eq_true_eq, decide_eq_false_iff_not, Bool.not_eq_true', Bool.not_eq_false', Int.not_lt, Int.not_le] at h0
    refine VC.seq ?_
    refine VC.region ?_
    refine VO.val rfl rfl (OpV.move (.inl rfl) rfl) ?_
    refine VO.val rfl rfl (OpV.move (.inr rfl) rfl) ?_
    refine VO.val rfl rfl (OpV.move (.inr rfl) rfl) ?_
    refine VO.nil ?_
    show VC _ _ _ _ _
    refine VC.ret ?_
    exact Exists.intro _ (And.intro (RetN.two Tryd.results28 (ResN.nilE rfl) (ResN.v rfl)) (by rw [beyondR_no (by rw [he]; exact h0), he]; rfl))
  · have h0 := h0b
    try simp only [decide_eq_true_eq, decide_eq_false_iff_not, Bool.not_eq_true', Bool.not_eq_false', Int.not_lt, Int.not_le] at h0
    have h00 : bodsE p b n = 0 := by omega
    have hz := bodsE_0 h00
    have hok := prodOk hz.1
    have hw := hok.wide
    have hh := hok.high
    have hll : l = lyL p b := by rw [← hl, lyR_ok h00]
    have hlen : l.length ≤ 1000 := by have h1 := lyL_len p b; have h2 := (prodOk hz.1).len; rw [hll]; omega
    have hbd : ∀ q, q < l.length → LyBd (l.getD q default) := fun q hq => lyL_bd hz.1 hz.2.1 (by rw [← hll]; exact getD_mem hq _)
    refine VC.skip ?_
    show VC _ _ _ _ _
    refine VC.seq ?_
    refine VC.region ?_
    refine VO.val rfl rfl (OpV.move (.inr rfl) rfl) ?_
    refine VO.nil ?_
    show VC _ _ _ _ _
    refine VC.seq ?_
    refine VC.seq ?_
    refine VC.region ?_
    refine VO.val rfl rfl (OpV.move (.inl rfl) rfl) ?_
    first
      | refine VO.val rfl rfl (OpV.len_im rfl Tryd.underlying119 rfl) ?_
      | refine VO.val rfl rfl (OpV.len_v rfl Tryd.underlying119 rfl) ?_
      | refine VO.val rfl rfl (OpV.len_row (i := 0) rfl Tryd.underlying119 rfl rfl) ?_
    refine VO.val rfl rfl (OpV.move (.inl rfl) rfl) ?_
    refine VO.nil ?_
    show VC _ _ _ _ _
    refine VC.block ?_
    refine VC.le _ (Le.nilRow 1 9) ?_
    refine VC.loopK [(2, _), (3, _), (23, _), (24, _)] ⟨rfl, rfl, rfl, rfl, trivial⟩ ({z : Value × Nat // z.2 ≤ l.length}) (fun (i : {z : Value × Nat // z.2 ≤ l.length}) => match i with | ⟨⟨u, q⟩, hq⟩ => [(10, .v u), (25, avI (q : Int))]) (fun (i : {z : Value × Nat // z.2 ≤ l.length}) => match i with | ⟨⟨u, q⟩, hq⟩ => [boxProd g3 p 44, .row u ((l.take q).filterMap (beyondO p n)).length 1 (strsL ((l.take q).filterMap (beyondO p n))) 9]) (fun (i : {z : Value × Nat // z.2 ≤ l.length}) => match i with | ⟨⟨u, q⟩, hq⟩ => 0) (fun (i : {z : Value × Nat // z.2 ≤ l.length}) => match i with | ⟨⟨u, q⟩, hq⟩ => l.length - q) ⟨(.slice none 0 0, 0), Nat.zero_le _⟩ (Le.mk hB [0, 1] ⟨rfl, rfl, rfl, rfl, rfl, rfl, trivial⟩ rfl rfl (Nat.le_refl _)) ?_
    rintro ⟨⟨u, q⟩, hq⟩
    show VC _ _ _ _ ⟨[(10, .v u), (25, avI (q : Int))] ++ [(2, _), (3, _), (23, _), (24, _)], [boxProd g3 p 44, .row u ((l.take q).filterMap (beyondO p n)).length 1 (strsL ((l.take q).filterMap (beyondO p n))) 9], 0⟩
    simp only at hq
    have hfl := List.length_filterMap_le (beyondO p n) (l.take q)
    have htl := List.length_take_le q l
    refine VC.seq ?_
    refine VC.region ?_
    refine VO.val rfl rfl (OpV.lss rfl rfl rfl) ?_
    refine VO.nil ?_
    show VC _ _ _ _ _
    refine VC.seq ?_
    refine VC.cond rfl (fun aH1b => ?_) (fun aH1b => ?_)
    · have aH1 := aH1b
      try simp only [decide_eq_true_eq, decide_eq_false_iff_not, Bool.not_eq_true', Bool.not_eq_false', Int.not_lt, Int.not_le] at aH1
      refine VC.skip ?_
      show VC _ _ _ _ _
      refine VC.seq ?_
      refine VC.block ?_
      refine VC.seq ?_
      refine VC.region ?_
      first
        | refine VO.val rfl rfl (OpV.indexAddr_E rfl Tryd.underlying119 Tryd.sizeOf123 rfl rfl rfl (by omega)) ?_
        | refine VO.val rfl rfl (OpV.indexAddr_E rfl Tryd.underlying119 Tryd.sizeOf123 rfl rfl (Int.toNat_of_nonneg (by omega)).symm (by omega)) ?_
        | refine VO.val rfl rfl (OpV.indexAddr_q rfl Tryd.underlying119 Tryd.sizeOf123 rfl rfl rfl (by omega)) ?_
        | refine VO.val rfl rfl (OpV.indexAddr_q rfl Tryd.underlying119 Tryd.sizeOf123 rfl rfl (Int.toNat_of_nonneg (by omega)).symm (by omega)) ?_
        | refine VO.val rfl rfl (OpV.indexAddr_im rfl Tryd.underlying119 Tryd.sizeOf123 rfl rfl (by omega) (by omega)) ?_
      first
        | refine VO.val rfl rfl (OpV.loadK_at rfl hB OutW.no Tryd.isAgg123 Tryd.sizeOf123 rfl rfl) ?_
        | refine VO.val rfl rfl (OpV.loadK_own (i := 0) rfl hB Tryd.isAgg123 Tryd.sizeOf123 rfl rfl rfl (fun h => h)) ?_
        | refine VO.val rfl rfl (OpV.loadK_own (i := 1) rfl hB Tryd.isAgg123 Tryd.sizeOf123 rfl rfl rfl (fun h => h)) ?_
      refine VO.op rfl (OpE.alloc rfl hB rfl Tryd.zeroValue123 rfl ?_)
      intro g12
      refine VO.op rfl (OpE.store (i := 2) rfl hB rfl Tryd.sizeOf123 rfl rfl rfl rfl rfl rfl (Nat.le_of_ble_eq_true rfl) trivial ?_)
      refine VO.nil ?_
      show VC _ _ _ _ _
      refine VC.seq ?_
      have hbx := hbd q (by omega)
      have f1 := hbx.a
      have f2 := hbx.b
      have f3 := hbx.c
      have f4 := hbx.d
      refine VC.region ?_
      first
        | refine VO.val rfl rfl (OpV.fieldAddr_atO 1 rfl Tryd.underlying123 rfl rfl Tryd.sizeOf3 rfl rfl) ?_
        | refine VO.val rfl rfl (OpV.fieldAddrO 1 rfl Tryd.underlying123 rfl rfl Tryd.sizeOf3 rfl) ?_
      refine VO.val rfl rfl (OpV.load_own (i := 2) rfl hB Tryd.isAgg3 rfl rfl rfl (fun h => h)) ?_
      first
        | refine VO.val rfl rfl (OpV.fieldAddr_atO 1 rfl Tryd.underlying44 rfl rfl Tryd.sizeOf3 rfl rfl) ?_
        | refine VO.val rfl rfl (OpV.fieldAddrO 1 rfl Tryd.underlying44 rfl rfl Tryd.sizeOf3 rfl) ?_
      first
        | refine VO.val rfl rfl (OpV.load_at rfl hB OutW.no Tryd.isAgg3 rfl rfl) ?_
        | refine VO.val rfl rfl (OpV.load_own (i := 0) rfl hB Tryd.isAgg3 rfl rfl rfl (fun h => h)) ?_
        | refine VO.val rfl rfl (OpV.load_own (i := 1) rfl hB Tryd.isAgg3 rfl rfl rfl (fun h => h)) ?_
        | refine VO.val rfl rfl (OpV.load_own (i := 2) rfl hB Tryd.isAgg3 rfl rfl rfl (fun h => h)) ?_
      refine VO.val rfl rfl (OpV.mul rfl rfl rfl (by unfold fits; omega)) ?_
      first
        | refine VO.val rfl rfl (OpV.fieldAddr_atO 2 rfl Tryd.underlying123 rfl rfl Tryd.sizeOf3 rfl rfl) ?_
        | refine VO.val rfl rfl (OpV.fieldAddrO 2 rfl Tryd.underlying123 rfl rfl Tryd.sizeOf3 rfl) ?_
      refine VO.val rfl rfl (OpV.load_own (i := 2) rfl hB Tryd.isAgg3 rfl rfl rfl (fun h => h)) ?_
      refine VO.val rfl rfl (OpV.sub rfl rfl rfl (by unfold fits; omega)) ?_
      first
        | refine VO.val rfl rfl (OpV.fieldAddr_atO 3 rfl Tryd.underlying123 rfl rfl Tryd.sizeOf3 rfl rfl) ?_
        | refine VO.val rfl rfl (OpV.fieldAddrO 3 rfl Tryd.underlying123 rfl rfl Tryd.sizeOf3 rfl) ?_
      refine VO.val rfl rfl (OpV.load_own (i := 2) rfl hB Tryd.isAgg3 rfl rfl rfl (fun h => h)) ?_
      first
        | refine VO.val rfl rfl (OpV.fieldAddr_atO 2 rfl Tryd.underlying44 rfl rfl Tryd.sizeOf3 rfl rfl) ?_
        | refine VO.val rfl rfl (OpV.fieldAddrO 2 rfl Tryd.underlying44 rfl rfl Tryd.sizeOf3 rfl) ?_
      first
        | refine VO.val rfl rfl (OpV.load_at rfl hB OutW.no Tryd.isAgg3 rfl rfl) ?_
        | refine VO.val rfl rfl (OpV.load_own (i := 0) rfl hB Tryd.isAgg3 rfl rfl rfl (fun h => h)) ?_
        | refine VO.val rfl rfl (OpV.load_own (i := 1) rfl hB Tryd.isAgg3 rfl rfl rfl (fun h => h)) ?_
        | refine VO.val rfl rfl (OpV.load_own (i := 2) rfl hB Tryd.isAgg3 rfl rfl rfl (fun h => h)) ?_
      refine VO.val rfl rfl (OpV.mul rfl rfl rfl (by unfold fits; omega)) ?_
      first
        | refine VO.val rfl rfl (OpV.fieldAddr_atO 4 rfl Tryd.underlying123 rfl rfl Tryd.sizeOf3 rfl rfl) ?_
        | refine VO.val rfl rfl (OpV.fieldAddrO 4 rfl Tryd.underlying123 rfl rfl Tryd.sizeOf3 rfl) ?_
      refine VO.val rfl rfl (OpV.load_own (i := 2) rfl hB Tryd.isAgg3 rfl rfl rfl (fun h => h)) ?_
      refine VO.val rfl rfl (OpV.sub rfl rfl rfl (by unfold fits; omega)) ?_
      refine VO.val rfl rfl (OpV.min4 rfl rfl rfl rfl rfl) ?_
      refine VO.val rfl rfl (OpV.move (.inl rfl) rfl) ?_
      refine VO.val rfl rfl (OpV.mul rfl rfl rfl (by unfold fits; omega)) ?_
      refine VO.val rfl rfl (OpV.lss rfl rfl rfl) ?_
      refine VO.nil ?_
      show VC _ _ _ _ _
      refine VC.cond rfl (fun aH2b => ?_) (fun aH2b => ?_)
      · have aH2 := aH2b
        try simp only [decide_eq_true_eq, decide_eq_false_iff_not, Bool.not_eq_true', Bool.not_eq_false', Int.not_lt, Int.not_le] at aH2
        refine VC.region ?_
        refine VO.val rfl rfl (OpV.move (.inl rfl) rfl) ?_
        first
          | refine VO.val rfl rfl (OpV.fieldAddr_atO 0 rfl Tryd.underlying123 rfl rfl Tryd.sizeOf9 rfl rfl) ?_
          | refine VO.val rfl rfl (OpV.fieldAddrO 0 rfl Tryd.underlying123 rfl rfl Tryd.sizeOf9 rfl) ?_
        refine VO.val rfl rfl (OpV.load_own (i := 2) rfl hB Tryd.isAgg9 rfl rfl rfl (fun h => h)) ?_
        refine VO.op rfl (OpE.buildSlice (zc := #[.string ⟨#[]⟩]) rfl hB rfl Tryd.underlying70 Tryd.sizeOf9 Tryd.zeroValue9 (by decide) (by decide) (by kernel_rfl) rfl rfl ?_)
        first
          | refine VO.op rfl (OpE.append1 (i := 0) rfl hB rfl Tryd.underlying70 (infoOf Tryd.t9 1 (by kernel_rfl) rfl rfl) rfl (by decide) (by decide) rfl rfl rfl rfl (strsL_snoc _ _) (by omega) (fun _ _ => trivial) ?_)
          | refine VO.op rfl (OpE.append1 (i := 1) rfl hB rfl Tryd.underlying70 (infoOf Tryd.t9 1 (by kernel_rfl) rfl rfl) rfl (by decide) (by decide) rfl rfl rfl rfl (strsL_snoc _ _) (by omega) (fun _ _ => trivial) ?_)
          | refine VO.op rfl (OpE.append1 (i := 2) rfl hB rfl Tryd.underlying70 (infoOf Tryd.t9 1 (by kernel_rfl) rfl rfl) rfl (by decide) (by decide) rfl rfl rfl rfl (strsL_snoc _ _) (by omega) (fun _ _ => trivial) ?_)
        intro u2
        refine VO.val rfl rfl (OpV.move (.inr rfl) rfl) ?_
        refine VO.nil ?_
        show VC _ _ _ _ _
        refine VC.region ?_
        refine VO.val rfl rfl (OpV.add rfl rfl rfl (by unfold fits; omega)) ?_
        refine VO.val rfl rfl (OpV.move (.inl rfl) rfl) ?_
        refine VO.nil ?_
        first
          | exact Exists.intro (⟨(u2, q + 1), by show q + 1 ≤ _; omega⟩) (And.intro (Le.mk hB [0, 1] ⟨rfl, rfl, rfl, rfl, rfl, rfl, trivial⟩ rfl (by dsimp only; first | (rw [fm_take (by omega), beyO_t (by assumption), List.length_append]; rfl) | (rw [fm_take (by omega), beyO_f (by assumption), Option.toList_none, List.append_nil]; rfl)) (Nat.le_refl _)) (by first | omega | (show _ < _; omega) | (simp only []; omega)))
          | exact Exists.intro (⟨(u, q + 1), by show q + 1 ≤ _; omega⟩) (And.intro (Le.mk hB [0, 1] ⟨rfl, rfl, rfl, rfl, rfl, rfl, trivial⟩ rfl (by dsimp only; first | (rw [fm_take (by omega), beyO_t (by assumption), List.length_append]; rfl) | (rw [fm_take (by omega), beyO_f (by assumption), Option.toList_none, List.append_nil]; rfl)) (Nat.le_refl _)) (by first | omega | (show _ < _; omega) | (simp only []; omega)))
      · have aH2 := aH2b
        try simp only [decide_eq_true_eq, decide_eq_false_iff_not, Bool.not_eq_true', Bool.not_eq_false', Int.not_lt, Int.not_le] at aH2
        refine VC.skip ?_
        show VC _ _ _ _ _
        refine VC.region ?_
        refine VO.val rfl rfl (OpV.add rfl rfl rfl (by unfold fits; omega)) ?_
        refine VO.val rfl rfl (OpV.move (.inl rfl) rfl) ?_
        refine VO.nil ?_
        first
          | exact Exists.intro (⟨(u2, q + 1), by show q + 1 ≤ _; omega⟩) (And.intro (Le.mk hB [0, 1] ⟨rfl, rfl, rfl, rfl, rfl, rfl, trivial⟩ rfl (by dsimp only; first | (rw [fm_take (by omega), beyO_t (by assumption), List.length_append]; rfl) | (rw [fm_take (by omega), beyO_f (by assumption), Option.toList_none, List.append_nil]; rfl)) (Nat.le_refl _)) (by first | omega | (show _ < _; omega) | (simp only []; omega)))
          | exact Exists.intro (⟨(u, q + 1), by show q + 1 ≤ _; omega⟩) (And.intro (Le.mk hB [0, 1] ⟨rfl, rfl, rfl, rfl, rfl, rfl, trivial⟩ rfl (by dsimp only; first | (rw [fm_take (by omega), beyO_t (by assumption), List.length_append]; rfl) | (rw [fm_take (by omega), beyO_f (by assumption), Option.toList_none, List.append_nil]; rfl)) (Nat.le_refl _)) (by first | omega | (show _ < _; omega) | (simp only []; omega)))
    · have aH1 := aH1b
      try simp only [decide_eq_true_eq, decide_eq_false_iff_not, Bool.not_eq_true', Bool.not_eq_false', Int.not_lt, Int.not_le] at aH1
      refine VC.exit ?_
      show VC _ _ _ _ _
      refine VC.seq ?_
      have hqe : l.take q = l := List.take_of_length_le (by omega)
      rw [hqe]
      refine VC.region ?_
      refine VO.val rfl rfl (OpV.move (.inl rfl) rfl) ?_
      refine VO.val rfl rfl (OpV.move (.inr rfl) rfl) ?_
      refine VO.val rfl rfl (OpV.move (.inr rfl) rfl) ?_
      refine VO.nil ?_
      show VC _ _ _ _ _
      refine VC.ret ?_
      exact Exists.intro _ (And.intro (RetN.two Tryd.results28 (ResN.rowS (i := 1) rfl rfl rfl) (ResN.v rfl)) (by rw [beyondR, if_pos h00, h00, ← hll]))
end Go.Proofs.YtgikefjbdhnffaaDoor
