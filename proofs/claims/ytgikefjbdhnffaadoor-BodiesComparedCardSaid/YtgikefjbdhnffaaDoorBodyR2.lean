/- Walks: the reference's crowded placements and those beyond an edge (the lists). -/
import Derived.Test.YtgikefjbdhnffaaDoorBodyR
namespace Go.Proofs.YtgikefjbdhnffaaDoor
open Go.RowKit
set_option linter.unusedVariables false
set_option linter.unusedSimpArgs false
def refO (b : List BodyS) (n : Int) (c d : PlaceS) : Option PairS := (lyO b c).bind fun x => (lyO b d).bind (pairO n x)
theorem ly_name {b : List BodyS} {c : PlaceS} {x : LyS} (h : lyO b c = some x) : x.name = c.name := by
  unfold lyO at h
  cases e : mget (bodM b) c.part with
  | none => rw [e] at h; cases h
  | some d => rw [e] at h; cases h; rfl
theorem refO_a {b : List BodyS} {n : Int} {c d : PlaceS} (h : (lyO b c).isSome = false) : refO b n c d = none := by
  unfold refO
  cases e : lyO b c with
  | none => rfl
  | some x => rw [e] at h; cases h
theorem refO_b {b : List BodyS} {n : Int} {c d : PlaceS} (h : (lyO b d).isSome = false) : refO b n c d = none := by
  unfold refO
  cases e : lyO b d with
  | none => cases lyO b c <;> rfl
  | some x => rw [e] at h; cases h
theorem refO_at {b : List BodyS} {n : Int} {c d : PlaceS} (h1 : (lyO b c).isSome = true) (h2 : (lyO b d).isSome = true) : refO b n c d = pairO n (bxR b c) (bxR b d) ∧ (bxR b c).name = c.name ∧ (bxR b d).name = d.name := by
  unfold refO bxR
  cases e1 : lyO b c with
  | none => rw [e1] at h1; cases h1
  | some x =>
    cases e2 : lyO b d with
    | none => rw [e2] at h2; cases h2
    | some y => exact ⟨rfl, ly_name e1, ly_name e2⟩
theorem max_sw {a b c : Int} {v : Bool} (h : decide (max a b < c) = v) : decide (max b a < c) = v := by rw [Int.max_comm]; exact h
theorem refO_t {b : List BodyS} {n : Int} {c d : PlaceS} (h1 : (lyO b c).isSome = true) (h2 : (lyO b d).isSome = true)
    (h3 : decide (max ((bxR b d).left - (bxR b c).right) ((bxR b c).left - (bxR b d).right) < 2 * n) = true) (h4 : decide (max ((bxR b d).lower - (bxR b c).high) ((bxR b c).lower - (bxR b d).high) < 2 * n) = true) : refO b n c d = some ⟨c.name, d.name⟩ := by
  obtain ⟨k1, k2, k3⟩ := refO_at (n := n) h1 h2
  rw [k1, pairO_t (max_sw h3) (max_sw h4), k2, k3]
theorem refO_c {b : List BodyS} {n : Int} {c d : PlaceS} (h1 : (lyO b c).isSome = true) (h2 : (lyO b d).isSome = true)
    (h3 : decide (max ((bxR b d).left - (bxR b c).right) ((bxR b c).left - (bxR b d).right) < 2 * n) = false) : refO b n c d = none := by
  rw [(refO_at (n := n) h1 h2).1, pairO_a (max_sw h3)]
theorem refO_d {b : List BodyS} {n : Int} {c d : PlaceS} (h1 : (lyO b c).isSome = true) (h2 : (lyO b d).isSome = true)
    (h4 : decide (max ((bxR b d).lower - (bxR b c).high) ((bxR b c).lower - (bxR b d).high) < 2 * n) = false) : refO b n c d = none := by
  rw [(refO_at (n := n) h1 h2).1, pairO_b (max_sw h4)]
theorem bxR_bd {p : ProdS} {b : List BodyS} (h1 : prodF p = 0) (h2 : bodiesF b = 0) {q : Nat} (hq : q < p.places.length) : LyBd (bxR b (p.places.getD q default)) := by
  unfold bxR
  cases e : lyO b (p.places.getD q default) with
  | none => exact ⟨⟨by show (-500000 : Int) ≤ 0; decide, by show (0 : Int) ≤ 1500000; decide⟩, ⟨by show (-500000 : Int) ≤ 0; decide, by show (0 : Int) ≤ 1500000; decide⟩, ⟨by show (-500000 : Int) ≤ 0; decide, by show (0 : Int) ≤ 1500000; decide⟩, ⟨by show (-500000 : Int) ≤ 0; decide, by show (0 : Int) ≤ 1500000; decide⟩⟩
  | some x => exact lyO_bd h1 h2 (getD_mem hq _) e
def accQ (b : List BodyS) (n : Int) (l : List PlaceS) (q r : Nat) : List PairS := pairsR (refO b n) l q ++ ((l.drop (q + 1)).take r).filterMap (refO b n (l.getD q default))
theorem accQ_0 (b : List BodyS) (n : Int) (l : List PlaceS) (q : Nat) : accQ b n l q 0 = pairsR (refO b n) l q := by simp [accQ]
theorem accQ_t {b : List BodyS} {n : Int} {l : List PlaceS} {q r : Nat} (h : r < (l.drop (q + 1)).length) {z : PairS} (e : refO b n (l.getD q default) ((l.drop (q + 1)).getD r default) = some z) : accQ b n l q (r + 1) = accQ b n l q r ++ [z] := by
  rw [accQ, fm_take h, e, accQ, List.append_assoc]; rfl
theorem accQ_f {b : List BodyS} {n : Int} {l : List PlaceS} {q r : Nat} (h : r < (l.drop (q + 1)).length) (e : refO b n (l.getD q default) ((l.drop (q + 1)).getD r default) = none) : accQ b n l q (r + 1) = accQ b n l q r := by
  rw [accQ, fm_take h, e, accQ]; simp
theorem accQ_all {b : List BodyS} {n : Int} {l : List PlaceS} {q r : Nat} (h : (l.drop (q + 1)).length ≤ r) : accQ b n l q r = pairsR (refO b n) l (q + 1) := by
  rw [accQ, List.take_of_length_le h, pairsR_succ]
theorem accQ_len {b : List BodyS} {n : Int} {l : List PlaceS} {q r : Nat} (hq : q < l.length) (hl : l.length ≤ 1000) : (accQ b n l q r).length ≤ 2000000 := by
  rw [accQ, List.length_append]
  have h1 := pairsR_len (refO b n) l q
  have h2 := List.length_filterMap_le (refO b n (l.getD q default)) ((l.drop (q + 1)).take r)
  have h3 := List.length_take_le r (l.drop (q + 1))
  have h4 : (l.drop (q + 1)).length ≤ l.length := by simp
  have h5 : ((l.drop (q + 1)).take r).length ≤ (l.drop (q + 1)).length := by simp; omega
  have h6 : q * l.length ≤ 1000 * 1000 := Nat.mul_le_mul (by omega) hl
  omega
theorem crowd_ref (p : ProdS) (b : List BodyS) (n : Int) : crowdRef p b n = pairsL (refO b n) p.places := rfl
set_option maxRecDepth 100000 in
set_option maxHeartbeats 8000000 in
theorem rf_CrowdedOf {p : ProdS} {b : List BodyS} {n : Int} (hs : SmP p) (hb : SmB b) (h00 : bodsE p b n = 0) :
    SpecN Tryd.prog 33 [avProd p, avL b, avI n] (fun y => y = avL (crowdR p b n)) := by
  refine SpecN.of_VCN Tryd.func33 rfl Tryd.ntmps33 (Nat.le_of_ble_eq_true rfl) fun w A hB => ?_
  have hnew : True := trivial
  refine VC.seq ?_
  have hz := bodsE_0 h00
  have hlen : p.places.length ≤ 1000 := (prodOk hz.1).len
  have hbd : ∀ q, q < p.places.length → LyBd (bxR b (p.places.getD q default)) := fun q hq => bxR_bd hz.1 hz.2.1 hq
  have hpl : ∀ q, q < p.places.length → (0 ≤ (p.places.getD q default).x ∧ (p.places.getD q default).x ≤ 500000) ∧ (0 ≤ (p.places.getD q default).y ∧ (p.places.getD q default).y ≤ 500000) ∧ (0 ≤ (p.places.getD q default).quarter ∧ (p.places.getD q default).quarter ≤ 3) := fun q hq => place_bd hz.1 hq
  refine VC.region ?_
  refine VO.op rfl (OpE.box rfl hB rfl rfl rfl ?_)
  intro g3
  refine VO.val rfl rfl (OpV.move (.inr rfl) rfl) ?_
  refine VO.nil ?_
  show VC _ _ _ _ _
  refine VC.seq ?_
  refine VC.region ?_
  refine VO.val rfl rfl (OpV.move (.inr rfl) rfl) ?_
  refine VO.nil ?_
  show VC _ _ _ _ _
  refine VC.seq ?_
  refine VC.seq ?_
  refine VC.region ?_
  first
    | refine VO.val rfl rfl (OpV.fieldAddr_atO 3 rfl Tryd.underlying44 rfl rfl Tryd.sizeOf42 rfl rfl) ?_
    | refine VO.val rfl rfl (OpV.fieldAddrO 3 rfl Tryd.underlying44 rfl rfl Tryd.sizeOf42 rfl) ?_
  refine VO.val rfl rfl (OpV.load_own (i := 0) rfl hB Tryd.isAgg42 rfl rfl rfl (fun h => h)) ?_
  first
    | refine VO.val rfl rfl (OpV.len_im rfl Tryd.underlying42 rfl) ?_
    | refine VO.val rfl rfl (OpV.len_v rfl Tryd.underlying42 rfl) ?_
    | refine VO.val rfl rfl (OpV.len_row (i := 0) rfl Tryd.underlying42 rfl rfl) ?_
  refine VO.val rfl rfl (OpV.move (.inl rfl) rfl) ?_
  refine VO.nil ?_
  show VC _ _ _ _ _
  refine VC.block ?_
  refine VC.le _ (Le.nilRow 2 81) ?_
  refine VC.loopK [(1, _), (2, _), (3, _), (18, _), (19, _)] ⟨rfl, rfl, rfl, rfl, rfl, trivial⟩ ({z : Value × Nat // z.2 ≤ p.places.length}) (fun (i : {z : Value × Nat // z.2 ≤ p.places.length}) => match i with | ⟨⟨u, q⟩, hq⟩ => [(7, .v u), (20, avI (q : Int))]) (fun (i : {z : Value × Nat // z.2 ≤ p.places.length}) => match i with | ⟨⟨u, q⟩, hq⟩ => [.box g3 ⟨[avS p.key, avI p.wide, avI p.high, avL p.places], 44, 4⟩, .row u (pairsR (refO b n) p.places q).length 2 (rowL (pairsR (refO b n) p.places q)) 81]) (fun (i : {z : Value × Nat // z.2 ≤ p.places.length}) => match i with | ⟨⟨u, q⟩, hq⟩ => 0) (fun (i : {z : Value × Nat // z.2 ≤ p.places.length}) => match i with | ⟨⟨u, q⟩, hq⟩ => p.places.length - q) ⟨(.slice none 0 0, 0), Nat.zero_le _⟩ (Le.mk hB [0, 1] ⟨rfl, rfl, rfl, rfl, rfl, rfl, rfl, trivial⟩ rfl rfl (Nat.le_refl _)) ?_
  rintro ⟨⟨u, q⟩, hq⟩
  show VC _ _ _ _ ⟨[(7, .v u), (20, avI (q : Int))] ++ [(1, _), (2, _), (3, _), (18, _), (19, _)], [.box g3 ⟨[avS p.key, avI p.wide, avI p.high, avL p.places], 44, 4⟩, .row u (pairsR (refO b n) p.places q).length 2 (rowL (pairsR (refO b n) p.places q)) 81], 0⟩
  simp only at hq
  refine VC.seq ?_
  refine VC.region ?_
  refine VO.val rfl rfl (OpV.lss rfl rfl rfl) ?_
  refine VO.nil ?_
  show VC _ _ _ _ _
  refine VC.seq ?_
  refine VC.cond rfl (fun aH1b => ?_) (fun aH1b => ?_)
  · have aH1 := aH1b
    try simp only [decide_eq_true_eq, decide_eq_false_iff_not, Bool.not_eq_true', Bool.not_eq_false', Int.not_lt, Int.not_le] at aH1
    refine VC.skip ?_
    show VC _ _ _ _ _
    refine VC.seq ?_
    refine VC.block ?_
    refine VC.seq ?_
    refine VC.region ?_
    refine VO.val rfl rfl (OpV.move (.inl rfl) rfl) ?_
    first
      | refine VO.val rfl rfl (OpV.indexAddr_E rfl Tryd.underlying42 Tryd.sizeOf100 rfl rfl rfl (by omega)) ?_
      | refine VO.val rfl rfl (OpV.indexAddr_E rfl Tryd.underlying42 Tryd.sizeOf100 rfl rfl (Int.toNat_of_nonneg (by omega)).symm (by omega)) ?_
      | refine VO.val rfl rfl (OpV.indexAddr_q rfl Tryd.underlying42 Tryd.sizeOf100 rfl rfl rfl (by omega)) ?_
      | refine VO.val rfl rfl (OpV.indexAddr_q rfl Tryd.underlying42 Tryd.sizeOf100 rfl rfl (Int.toNat_of_nonneg (by omega)).symm (by omega)) ?_
      | refine VO.val rfl rfl (OpV.indexAddr_im rfl Tryd.underlying42 Tryd.sizeOf100 rfl rfl (by omega) (by omega)) ?_
    first
      | refine VO.val rfl rfl (OpV.loadK_at rfl hB OutW.no Tryd.isAgg100 Tryd.sizeOf100 rfl rfl) ?_
      | refine VO.val rfl rfl (OpV.loadK_own (i := 0) rfl hB Tryd.isAgg100 Tryd.sizeOf100 rfl rfl rfl (fun h => h)) ?_
      | refine VO.val rfl rfl (OpV.loadK_own (i := 1) rfl hB Tryd.isAgg100 Tryd.sizeOf100 rfl rfl rfl (fun h => h)) ?_
    refine VO.op rfl (OpE.alloc rfl hB rfl Tryd.zeroValue100 rfl ?_)
    intro g9
    refine VO.val rfl rfl (OpV.move (.inr rfl) rfl) ?_
    refine VO.op rfl (OpE.store (i := 2) rfl hB rfl Tryd.sizeOf100 rfl rfl rfl rfl rfl rfl (Nat.le_of_ble_eq_true rfl) trivial ?_)
    refine VO.nil ?_
    show VC _ _ _ _ _
    refine VC.seq ?_
    refine VC.region ?_
    first
      | refine VO.val rfl rfl (OpV.fieldAddr_atO 3 rfl Tryd.underlying44 rfl rfl Tryd.sizeOf42 rfl rfl) ?_
      | refine VO.val rfl rfl (OpV.fieldAddrO 3 rfl Tryd.underlying44 rfl rfl Tryd.sizeOf42 rfl) ?_
    first
      | refine VO.val rfl rfl (OpV.load_at rfl hB OutW.no Tryd.isAgg42 rfl rfl) ?_
      | refine VO.val rfl rfl (OpV.load_own (i := 0) rfl hB Tryd.isAgg42 rfl rfl rfl (fun h => h)) ?_
      | refine VO.val rfl rfl (OpV.load_own (i := 1) rfl hB Tryd.isAgg42 rfl rfl rfl (fun h => h)) ?_
      | refine VO.val rfl rfl (OpV.load_own (i := 2) rfl hB Tryd.isAgg42 rfl rfl rfl (fun h => h)) ?_
    refine VO.val rfl rfl (OpV.move (.inl rfl) rfl) ?_
    refine VO.val rfl rfl (OpV.add rfl rfl rfl (by unfold fits; omega)) ?_
    first
      | refine VO.val rfl rfl (OpV.slice_ints (l := q + 1) rfl Tryd.underlying42 Tryd.sizeOf100 rfl ⟨_, _, rfl, by omega⟩ rfl (by omega) (by omega)) ?_
      | refine VO.val rfl rfl (OpV.slice_strs (l := q + 1) rfl Tryd.underlying42 Tryd.sizeOf100 rfl ⟨_, _, rfl, by omega⟩ rfl (by omega) (by omega)) ?_
      | refine VO.val rfl rfl (OpV.slice_M (l := q + 1) rfl Tryd.underlying42 Tryd.sizeOf100 rfl ⟨_, _, rfl, by omega⟩ rfl (by omega) (by omega)) ?_
      | refine VO.val rfl rfl (OpV.slice_L (l := q + 1) rfl Tryd.underlying42 Tryd.sizeOf100 rfl ⟨_, _, rfl, by omega⟩ rfl (by omega) (by omega)) ?_
      | refine VO.val rfl rfl (OpV.slice_im (l := q + 1) rfl Tryd.underlying42 Tryd.sizeOf100 rfl ⟨_, _, rfl, by omega⟩ rfl (by omega) (by omega)) ?_
      | refine VO.val rfl rfl (OpV.slice_own (l := q + 1) rfl Tryd.underlying42 Tryd.sizeOf100 rfl ⟨_, _, rfl, by omega⟩ rfl (by omega) (by omega) (by omega)) ?_
    refine VO.le _ (Le.recast (t := 29) (y := avL (p.places.drop (q + 1))) rfl (fun w Z u h => by rw [List.take_length] at h; exact h)) ?_
    first
      | refine VO.val rfl rfl (OpV.len_im rfl Tryd.underlying42 rfl) ?_
      | refine VO.val rfl rfl (OpV.len_v rfl Tryd.underlying42 rfl) ?_
      | refine VO.val rfl rfl (OpV.len_row (i := 0) rfl Tryd.underlying42 rfl rfl) ?_
      | refine VO.val rfl rfl (OpV.len_row (i := 1) rfl Tryd.underlying42 rfl rfl) ?_
      | refine VO.val rfl rfl (OpV.len_row (i := 2) rfl Tryd.underlying42 rfl rfl) ?_
    refine VO.val rfl rfl (OpV.move (.inl rfl) rfl) ?_
    refine VO.nil ?_
    show VC _ _ _ _ _
    refine VC.block ?_
    have hbx := hbd q (by omega)
    refine VC.loopK [(1, _), (2, _), (3, _), (9, _), (18, _), (19, _), (20, _), (29, _), (30, _)] ⟨rfl, rfl, rfl, rfl, rfl, rfl, rfl, rfl, rfl, trivial⟩ ({z : Value × Nat // z.2 ≤ (p.places.drop (q + 1)).length}) (fun (i : {z : Value × Nat // z.2 ≤ (p.places.drop (q + 1)).length}) => match i with | ⟨⟨u, r⟩, hr⟩ => [(7, .v u), (31, avI (r : Int))]) (fun (i : {z : Value × Nat // z.2 ≤ (p.places.drop (q + 1)).length}) => match i with | ⟨⟨u, r⟩, hr⟩ => [.box g3 ⟨[avS p.key, avI p.wide, avI p.high, avL p.places], 44, 4⟩, .row u (accQ b n p.places q r).length 2 (rowL (accQ b n p.places q r)) 81, .box g9 ⟨[avS (p.places.getD q default).name, avS (p.places.getD q default).part, avI (p.places.getD q default).x, avI (p.places.getD q default).y, avI (p.places.getD q default).quarter], 100, 5⟩]) (fun (i : {z : Value × Nat // z.2 ≤ (p.places.drop (q + 1)).length}) => match i with | ⟨⟨u, r⟩, hr⟩ => 0) (fun (i : {z : Value × Nat // z.2 ≤ (p.places.drop (q + 1)).length}) => match i with | ⟨⟨u, r⟩, hr⟩ => (p.places.drop (q + 1)).length - r) ⟨(u, 0), Nat.zero_le _⟩ (Le.mk hB [0, 1, 2] ⟨rfl, rfl, rfl, rfl, rfl, rfl, rfl, rfl, rfl, rfl, rfl, trivial⟩ rfl (by dsimp only; rw [accQ_0]; rfl) (Nat.le_refl _)) ?_
    rintro ⟨⟨u, r⟩, hr⟩
    show VC _ _ _ _ ⟨[(7, .v u), (31, avI (r : Int))] ++ [(1, _), (2, _), (3, _), (9, _), (18, _), (19, _), (20, _), (29, _), (30, _)], [.box g3 ⟨[avS p.key, avI p.wide, avI p.high, avL p.places], 44, 4⟩, .row u (accQ b n p.places q r).length 2 (rowL (accQ b n p.places q r)) 81, .box g9 ⟨[avS (p.places.getD q default).name, avS (p.places.getD q default).part, avI (p.places.getD q default).x, avI (p.places.getD q default).y, avI (p.places.getD q default).quarter], 100, 5⟩], 0⟩
    simp only at hr
    have hdl : (p.places.drop (q + 1)).length = p.places.length - (q + 1) := by simp
    have hal := accQ_len (b := b) (n := n) (r := r) (q := q) (l := p.places) (by omega) hlen
    refine VC.seq ?_
    refine VC.region ?_
    refine VO.val rfl rfl (OpV.lss rfl rfl rfl) ?_
    refine VO.nil ?_
    show VC _ _ _ _ _
    refine VC.seq ?_
    refine VC.cond rfl (fun aH2b => ?_) (fun aH2b => ?_)
    · have aH2 := aH2b
      try simp only [decide_eq_true_eq, decide_eq_false_iff_not, Bool.not_eq_true', Bool.not_eq_false', Int.not_lt, Int.not_le] at aH2
      refine VC.skip ?_
      show VC _ _ _ _ _
      refine VC.seq ?_
      refine VC.block ?_
      refine VC.seq ?_
      refine VC.region ?_
      first
        | refine VO.val rfl rfl (OpV.indexAddr_E rfl Tryd.underlying42 Tryd.sizeOf100 rfl rfl rfl (by omega)) ?_
        | refine VO.val rfl rfl (OpV.indexAddr_E rfl Tryd.underlying42 Tryd.sizeOf100 rfl rfl (Int.toNat_of_nonneg (by omega)).symm (by omega)) ?_
        | refine VO.val rfl rfl (OpV.indexAddr_q rfl Tryd.underlying42 Tryd.sizeOf100 rfl rfl rfl (by omega)) ?_
        | refine VO.val rfl rfl (OpV.indexAddr_q rfl Tryd.underlying42 Tryd.sizeOf100 rfl rfl (Int.toNat_of_nonneg (by omega)).symm (by omega)) ?_
        | refine VO.val rfl rfl (OpV.indexAddr_im rfl Tryd.underlying42 Tryd.sizeOf100 rfl rfl (by omega) (by omega)) ?_
      first
        | refine VO.val rfl rfl (OpV.loadK_at rfl hB OutW.no Tryd.isAgg100 Tryd.sizeOf100 rfl rfl) ?_
        | refine VO.val rfl rfl (OpV.loadK_own (i := 0) rfl hB Tryd.isAgg100 Tryd.sizeOf100 rfl rfl rfl (fun h => h)) ?_
        | refine VO.val rfl rfl (OpV.loadK_own (i := 1) rfl hB Tryd.isAgg100 Tryd.sizeOf100 rfl rfl rfl (fun h => h)) ?_
        | refine VO.val rfl rfl (OpV.loadK_own (i := 2) rfl hB Tryd.isAgg100 Tryd.sizeOf100 rfl rfl rfl (fun h => h)) ?_
      refine VO.op rfl (OpE.alloc rfl hB rfl Tryd.zeroValue100 rfl ?_)
      intro g11
      refine VO.op rfl (OpE.store (i := 3) rfl hB rfl Tryd.sizeOf100 rfl rfl rfl rfl rfl rfl (Nat.le_of_ble_eq_true rfl) trivial ?_)
      refine VO.nil ?_
      show VC _ _ _ _ _
      refine VC.seq ?_
      have hbe : p.places.getD (q + 1 + r) default = (p.places.drop (q + 1)).getD r default := by simp [List.getD_eq_getElem?_getD, List.getElem?_drop]
      have hby := hbd (q + 1 + r) (by omega)
      have hpx := hpl q (by omega)
      have hpy := hpl (q + 1 + r) (by omega)
      rw [hbe] at hby hpy
      have f1 := hbx.a; have f2 := hbx.b; have f3 := hbx.c; have f4 := hbx.d
      have e1 := hby.a; have e2 := hby.b; have e3 := hby.c; have e4 := hby.d
      refine VC.region ?_
      refine VO.val rfl rfl (OpV.move (.inl rfl) rfl) ?_
      first
        | refine VO.val rfl rfl (OpV.loadK_at rfl hB OutW.no Tryd.isAgg100 Tryd.sizeOf100 rfl rfl) ?_
        | refine VO.val rfl rfl (OpV.loadK_own (i := 0) rfl hB Tryd.isAgg100 Tryd.sizeOf100 rfl rfl rfl (fun h => h)) ?_
        | refine VO.val rfl rfl (OpV.loadK_own (i := 1) rfl hB Tryd.isAgg100 Tryd.sizeOf100 rfl rfl rfl (fun h => h)) ?_
        | refine VO.val rfl rfl (OpV.loadK_own (i := 2) rfl hB Tryd.isAgg100 Tryd.sizeOf100 rfl rfl rfl (fun h => h)) ?_
        | refine VO.val rfl rfl (OpV.loadK_own (i := 3) rfl hB Tryd.isAgg100 Tryd.sizeOf100 rfl rfl rfl (fun h => h)) ?_
      refine VO.op rfl (OpE.call rfl hB rfl Tryd.call63 rfl (SpecN.spec (rf_bodyBox (c := p.places.getD q default) hb hz.2.1 hpx)) ?_)
      rintro _ rfl
      refine VO.val rfl rfl (OpV.move (.inl rfl) rfl) ?_
      first
        | refine VO.val rfl rfl (OpV.extract rfl rfl rfl) ?_
        | refine VO.val rfl rfl (OpV.extract_v rfl rfl rfl) ?_
      first
        | refine VO.val rfl rfl (OpV.extract rfl rfl rfl) ?_
        | refine VO.val rfl rfl (OpV.extract_v rfl rfl rfl) ?_
      refine VO.op rfl (OpE.alloc rfl hB rfl Tryd.zeroValue112 rfl ?_)
      intro g12
      refine VO.op rfl (OpE.store (i := 4) rfl hB rfl Tryd.sizeOf112 rfl rfl rfl rfl rfl rfl (Nat.le_of_ble_eq_true rfl) trivial ?_)
      refine VO.val rfl rfl (OpV.move (.inr rfl) rfl) ?_
      refine VO.nil ?_
      show VC _ _ _ _ _
      refine VC.seq ?_
      refine VC.region ?_
      refine VO.val rfl rfl (OpV.move (.inl rfl) rfl) ?_
      refine VO.val rfl rfl (OpV.loadK_own (i := 3) rfl hB Tryd.isAgg100 Tryd.sizeOf100 rfl rfl rfl (fun h => h)) ?_
      refine VO.op rfl (OpE.call rfl hB rfl Tryd.call63 rfl (SpecN.spec (rf_bodyBox (c := (p.places.drop (q + 1)).getD r default) hb hz.2.1 hpy)) ?_)
      rintro _ rfl
      refine VO.val rfl rfl (OpV.move (.inl rfl) rfl) ?_
      first
        | refine VO.val rfl rfl (OpV.extract rfl rfl rfl) ?_
        | refine VO.val rfl rfl (OpV.extract_v rfl rfl rfl) ?_
      first
        | refine VO.val rfl rfl (OpV.extract rfl rfl rfl) ?_
        | refine VO.val rfl rfl (OpV.extract_v rfl rfl rfl) ?_
      refine VO.op rfl (OpE.alloc rfl hB rfl Tryd.zeroValue112 rfl ?_)
      intro g14
      refine VO.op rfl (OpE.store (i := 5) rfl hB rfl Tryd.sizeOf112 rfl rfl rfl rfl rfl rfl (Nat.le_of_ble_eq_true rfl) trivial ?_)
      refine VO.val rfl rfl (OpV.move (.inr rfl) rfl) ?_
      refine VO.nil ?_
      show VC _ _ _ _ _
      refine VC.seq ?_
      refine VC.region ?_
      refine VO.val rfl rfl (OpV.move (.inr rfl) rfl) ?_
      refine VO.le _ (Le.recast (t := 16) (y := .fn 64 []) rfl (fun w Z u h => h.fn0)) ?_
      refine VO.nil ?_
      show VC _ _ _ _ _
      refine VC.seq ?_
      refine VC.le ⟨[(1, _), (2, _), (3, _), (7, _), (9, _), (11, _), (12, _), (13, _), (14, _), (15, _), (16, _), (18, _), (19, _), (20, _), (29, _), (30, _), (31, _)], [.box _ ⟨[_, _, _, _], _, _⟩, .row _ _ _ _ _, .box _ ⟨[_, _, _, _, _], _, _⟩, .box _ ⟨[_, _, _, _, _], _, _⟩, .box _ ⟨[_, _, _, _], _, _⟩, .box _ ⟨[_, _, _, _], _, _⟩], _⟩ (Le.mk hB [0, 1, 2, 3, 4, 5] ⟨rfl, rfl, rfl, rfl, rfl, rfl, rfl, rfl, rfl, rfl, rfl, rfl, rfl, rfl, rfl, rfl, rfl, trivial⟩ rfl rfl (Nat.le_refl _)) ?_
      refine VC.region ?_
      refine VO.val rfl rfl (OpV.move (.inl rfl) rfl) ?_
      refine VO.val rfl rfl (OpV.move (.inl rfl) rfl) ?_
      refine VO.opG rfl rfl rfl rfl (fun aK3b => ?_) (fun aK3b => ?_)
      · replace aK3b : _ = true := aK3b
        have aK3 := aK3b
        try simp only [decide_eq_true_eq, decide_eq_false_iff_not, Bool.not_eq_true', Bool.not_eq_false', Int.not_lt, Int.not_le] at aK3
        refine OpE.val (W := NoB) (OpV.move (.inl rfl) rfl) rfl ?_
        refine VO.val rfl rfl (OpV.pickT rfl rfl rfl rfl aK3b) ?_
        refine VO.val rfl rfl (OpV.move (.inl rfl) rfl) ?_
        refine VO.opG rfl rfl rfl rfl (fun aK4b => ?_) (fun aK4b => ?_)
        · replace aK4b : _ = true := aK4b
          have aK4 := aK4b
          try simp only [decide_eq_true_eq, decide_eq_false_iff_not, Bool.not_eq_true', Bool.not_eq_false', Int.not_lt, Int.not_le] at aK4
          refine OpE.val (W := NoB) (OpV.move (.inl rfl) rfl) rfl ?_
          refine VO.opY rfl rfl rfl rfl aK4b ?_
          first
            | refine OpE.val (W := NoB) (OpV.fieldAddr_atO 0 rfl Tryd.underlying112 rfl rfl Tryd.sizeOf3 rfl rfl) rfl ?_
            | refine OpE.val (W := NoB) (OpV.fieldAddrO 0 rfl Tryd.underlying112 rfl rfl Tryd.sizeOf3 rfl) rfl ?_
          refine VO.opY rfl rfl rfl rfl aK4b ?_
          refine OpE.val (W := NoB) (OpV.load_own (i := 4) rfl hB Tryd.isAgg3 rfl rfl rfl (fun h => h)) rfl ?_
          refine VO.opY rfl rfl rfl rfl aK4b ?_
          first
            | refine OpE.val (W := NoB) (OpV.fieldAddr_atO 2 rfl Tryd.underlying112 rfl rfl Tryd.sizeOf3 rfl rfl) rfl ?_
            | refine OpE.val (W := NoB) (OpV.fieldAddrO 2 rfl Tryd.underlying112 rfl rfl Tryd.sizeOf3 rfl) rfl ?_
          refine VO.opY rfl rfl rfl rfl aK4b ?_
          refine OpE.val (W := NoB) (OpV.load_own (i := 4) rfl hB Tryd.isAgg3 rfl rfl rfl (fun h => h)) rfl ?_
          refine VO.opY rfl rfl rfl rfl aK4b ?_
          first
            | refine OpE.val (W := NoB) (OpV.fieldAddr_atO 0 rfl Tryd.underlying112 rfl rfl Tryd.sizeOf3 rfl rfl) rfl ?_
            | refine OpE.val (W := NoB) (OpV.fieldAddrO 0 rfl Tryd.underlying112 rfl rfl Tryd.sizeOf3 rfl) rfl ?_
          refine VO.opY rfl rfl rfl rfl aK4b ?_
          refine OpE.val (W := NoB) (OpV.load_own (i := 5) rfl hB Tryd.isAgg3 rfl rfl rfl (fun h => h)) rfl ?_
          refine VO.opY rfl rfl rfl rfl aK4b ?_
          first
            | refine OpE.val (W := NoB) (OpV.fieldAddr_atO 2 rfl Tryd.underlying112 rfl rfl Tryd.sizeOf3 rfl rfl) rfl ?_
            | refine OpE.val (W := NoB) (OpV.fieldAddrO 2 rfl Tryd.underlying112 rfl rfl Tryd.sizeOf3 rfl) rfl ?_
          refine VO.opY rfl rfl rfl rfl aK4b ?_
          refine OpE.val (W := NoB) (OpV.load_own (i := 5) rfl hB Tryd.isAgg3 rfl rfl rfl (fun h => h)) rfl ?_
          refine VO.opY rfl rfl rfl rfl aK4b ?_
          refine OpE.callF rfl hB rfl Tryd.call64 rfl rfl (SpecN.spec (rf_apart (a := (bxR b (p.places.getD q default)).left) (b := (bxR b (p.places.getD q default)).right) (c := (bxR b ((p.places.drop (q + 1)).getD r default)).left) (d := (bxR b ((p.places.drop (q + 1)).getD r default)).right) (by omega) (by omega) (by omega) (by omega))) ?_
          rintro _ rfl
          refine VO.opY rfl rfl rfl rfl aK4b ?_
          refine OpE.val (W := NoB) (OpV.move (.inl rfl) rfl) rfl ?_
          refine VO.opY rfl rfl rfl rfl aK4b ?_
          refine OpE.val (W := NoB) (OpV.mul rfl rfl rfl (by unfold fits; omega)) rfl ?_
          refine VO.opY rfl rfl rfl rfl aK4b ?_
          refine OpE.val (W := NoB) (OpV.lss rfl rfl rfl) rfl ?_
          refine VO.val rfl rfl (OpV.pickT rfl rfl rfl rfl aK4b) ?_
          refine VO.val rfl rfl (OpV.move (.inl rfl) rfl) ?_
          refine VO.opG rfl rfl rfl rfl (fun aK5b => ?_) (fun aK5b => ?_)
          · replace aK5b : _ = true := aK5b
            have aK5 := aK5b
            try simp only [decide_eq_true_eq, decide_eq_false_iff_not, Bool.not_eq_true', Bool.not_eq_false', Int.not_lt, Int.not_le] at aK5
            refine OpE.val (W := NoB) (OpV.move (.inl rfl) rfl) rfl ?_
            refine VO.opY rfl rfl rfl rfl aK5b ?_
            first
              | refine OpE.val (W := NoB) (OpV.fieldAddr_atO 1 rfl Tryd.underlying112 rfl rfl Tryd.sizeOf3 rfl rfl) rfl ?_
              | refine OpE.val (W := NoB) (OpV.fieldAddrO 1 rfl Tryd.underlying112 rfl rfl Tryd.sizeOf3 rfl) rfl ?_
            refine VO.opY rfl rfl rfl rfl aK5b ?_
            refine OpE.val (W := NoB) (OpV.load_own (i := 4) rfl hB Tryd.isAgg3 rfl rfl rfl (fun h => h)) rfl ?_
            refine VO.opY rfl rfl rfl rfl aK5b ?_
            first
              | refine OpE.val (W := NoB) (OpV.fieldAddr_atO 3 rfl Tryd.underlying112 rfl rfl Tryd.sizeOf3 rfl rfl) rfl ?_
              | refine OpE.val (W := NoB) (OpV.fieldAddrO 3 rfl Tryd.underlying112 rfl rfl Tryd.sizeOf3 rfl) rfl ?_
            refine VO.opY rfl rfl rfl rfl aK5b ?_
            refine OpE.val (W := NoB) (OpV.load_own (i := 4) rfl hB Tryd.isAgg3 rfl rfl rfl (fun h => h)) rfl ?_
            refine VO.opY rfl rfl rfl rfl aK5b ?_
            first
              | refine OpE.val (W := NoB) (OpV.fieldAddr_atO 1 rfl Tryd.underlying112 rfl rfl Tryd.sizeOf3 rfl rfl) rfl ?_
              | refine OpE.val (W := NoB) (OpV.fieldAddrO 1 rfl Tryd.underlying112 rfl rfl Tryd.sizeOf3 rfl) rfl ?_
            refine VO.opY rfl rfl rfl rfl aK5b ?_
            refine OpE.val (W := NoB) (OpV.load_own (i := 5) rfl hB Tryd.isAgg3 rfl rfl rfl (fun h => h)) rfl ?_
            refine VO.opY rfl rfl rfl rfl aK5b ?_
            first
              | refine OpE.val (W := NoB) (OpV.fieldAddr_atO 3 rfl Tryd.underlying112 rfl rfl Tryd.sizeOf3 rfl rfl) rfl ?_
              | refine OpE.val (W := NoB) (OpV.fieldAddrO 3 rfl Tryd.underlying112 rfl rfl Tryd.sizeOf3 rfl) rfl ?_
            refine VO.opY rfl rfl rfl rfl aK5b ?_
            refine OpE.val (W := NoB) (OpV.load_own (i := 5) rfl hB Tryd.isAgg3 rfl rfl rfl (fun h => h)) rfl ?_
            refine VO.opY rfl rfl rfl rfl aK5b ?_
            refine OpE.callF rfl hB rfl Tryd.call64 rfl rfl (SpecN.spec (rf_apart (a := (bxR b (p.places.getD q default)).lower) (b := (bxR b (p.places.getD q default)).high) (c := (bxR b ((p.places.drop (q + 1)).getD r default)).lower) (d := (bxR b ((p.places.drop (q + 1)).getD r default)).high) (by omega) (by omega) (by omega) (by omega))) ?_
            rintro _ rfl
            refine VO.opY rfl rfl rfl rfl aK5b ?_
            refine OpE.val (W := NoB) (OpV.move (.inl rfl) rfl) rfl ?_
            refine VO.opY rfl rfl rfl rfl aK5b ?_
            refine OpE.val (W := NoB) (OpV.mul rfl rfl rfl (by unfold fits; omega)) rfl ?_
            refine VO.opY rfl rfl rfl rfl aK5b ?_
            refine OpE.val (W := NoB) (OpV.lss rfl rfl rfl) rfl ?_
            refine VO.val rfl rfl (OpV.pickT rfl rfl rfl rfl aK5b) ?_
            refine VO.nil ?_
            show VC _ _ _ _ _
            refine VC.cond rfl (fun aH6b => ?_) (fun aH6b => ?_)
            · have aH6 := aH6b
              try simp only [decide_eq_true_eq, decide_eq_false_iff_not, Bool.not_eq_true', Bool.not_eq_false', Int.not_lt, Int.not_le] at aH6
              refine VC.region ?_
              refine VO.val rfl rfl (OpV.move (.inl rfl) rfl) ?_
              first
                | refine VO.val rfl rfl (OpV.fieldAddr_atO 0 rfl Tryd.underlying100 rfl rfl Tryd.sizeOf9 rfl rfl) ?_
                | refine VO.val rfl rfl (OpV.fieldAddrO 0 rfl Tryd.underlying100 rfl rfl Tryd.sizeOf9 rfl) ?_
              first
                | refine VO.val rfl rfl (OpV.load_at rfl hB OutW.no Tryd.isAgg9 rfl rfl) ?_
                | refine VO.val rfl rfl (OpV.load_own (i := 0) rfl hB Tryd.isAgg9 rfl rfl rfl (fun h => h)) ?_
                | refine VO.val rfl rfl (OpV.load_own (i := 1) rfl hB Tryd.isAgg9 rfl rfl rfl (fun h => h)) ?_
                | refine VO.val rfl rfl (OpV.load_own (i := 2) rfl hB Tryd.isAgg9 rfl rfl rfl (fun h => h)) ?_
                | refine VO.val rfl rfl (OpV.load_own (i := 3) rfl hB Tryd.isAgg9 rfl rfl rfl (fun h => h)) ?_
                | refine VO.val rfl rfl (OpV.load_own (i := 4) rfl hB Tryd.isAgg9 rfl rfl rfl (fun h => h)) ?_
                | refine VO.val rfl rfl (OpV.load_own (i := 5) rfl hB Tryd.isAgg9 rfl rfl rfl (fun h => h)) ?_
              first
                | refine VO.val rfl rfl (OpV.fieldAddr_atO 0 rfl Tryd.underlying100 rfl rfl Tryd.sizeOf9 rfl rfl) ?_
                | refine VO.val rfl rfl (OpV.fieldAddrO 0 rfl Tryd.underlying100 rfl rfl Tryd.sizeOf9 rfl) ?_
              refine VO.val rfl rfl (OpV.load_own (i := 3) rfl hB Tryd.isAgg9 rfl rfl rfl (fun h => h)) ?_
              refine VO.val rfl rfl (OpV.build (pls := #[(0, 1), (1, 1)]) rfl Tryd.zeroValue81 Tryd.underlying81 (fun w => by kernel_rfl) rfl rfl) ?_
              refine VO.op rfl (OpE.buildSlice (zc := #[.string ⟨#[]⟩, .string ⟨#[]⟩]) rfl hB rfl Tryd.underlying67 Tryd.sizeOf81 Tryd.zeroValue81 (by decide) (by decide) (by kernel_rfl) rfl rfl ?_)
              first
                | refine VO.op rfl (OpE.append1 (i := 0) rfl hB rfl Tryd.underlying67 (infoOf Tryd.t81 2 (by kernel_rfl) rfl rfl) rfl (by decide) (by decide) rfl rfl rfl rfl (rowL_snoc _ (⟨(p.places.getD q default).name, ((p.places.drop (q + 1)).getD r default).name⟩ : PairS)) (by omega) (fun _ _ => trivial) ?_)
                | refine VO.op rfl (OpE.append1 (i := 1) rfl hB rfl Tryd.underlying67 (infoOf Tryd.t81 2 (by kernel_rfl) rfl rfl) rfl (by decide) (by decide) rfl rfl rfl rfl (rowL_snoc _ (⟨(p.places.getD q default).name, ((p.places.drop (q + 1)).getD r default).name⟩ : PairS)) (by omega) (fun _ _ => trivial) ?_)
                | refine VO.op rfl (OpE.append1 (i := 2) rfl hB rfl Tryd.underlying67 (infoOf Tryd.t81 2 (by kernel_rfl) rfl rfl) rfl (by decide) (by decide) rfl rfl rfl rfl (rowL_snoc _ (⟨(p.places.getD q default).name, ((p.places.drop (q + 1)).getD r default).name⟩ : PairS)) (by omega) (fun _ _ => trivial) ?_)
                | refine VO.op rfl (OpE.append1 (i := 3) rfl hB rfl Tryd.underlying67 (infoOf Tryd.t81 2 (by kernel_rfl) rfl rfl) rfl (by decide) (by decide) rfl rfl rfl rfl (rowL_snoc _ (⟨(p.places.getD q default).name, ((p.places.drop (q + 1)).getD r default).name⟩ : PairS)) (by omega) (fun _ _ => trivial) ?_)
                | refine VO.op rfl (OpE.append1 (i := 4) rfl hB rfl Tryd.underlying67 (infoOf Tryd.t81 2 (by kernel_rfl) rfl rfl) rfl (by decide) (by decide) rfl rfl rfl rfl (rowL_snoc _ (⟨(p.places.getD q default).name, ((p.places.drop (q + 1)).getD r default).name⟩ : PairS)) (by omega) (fun _ _ => trivial) ?_)
                | refine VO.op rfl (OpE.append1 (i := 5) rfl hB rfl Tryd.underlying67 (infoOf Tryd.t81 2 (by kernel_rfl) rfl rfl) rfl (by decide) (by decide) rfl rfl rfl rfl (rowL_snoc _ (⟨(p.places.getD q default).name, ((p.places.drop (q + 1)).getD r default).name⟩ : PairS)) (by omega) (fun _ _ => trivial) ?_)
              intro u2
              refine VO.val rfl rfl (OpV.move (.inr rfl) rfl) ?_
              refine VO.nil ?_
              show VC _ _ _ _ _
              refine VC.region ?_
              refine VO.val rfl rfl (OpV.add rfl rfl rfl (by unfold fits; omega)) ?_
              refine VO.val rfl rfl (OpV.move (.inl rfl) rfl) ?_
              refine VO.nil ?_
              first
                | exact Exists.intro (⟨(u2, r + 1), by show r + 1 ≤ _; omega⟩) (And.intro (Le.mk hB [0, 1, 2] ⟨rfl, rfl, rfl, rfl, rfl, rfl, rfl, rfl, rfl, rfl, rfl, trivial⟩ rfl (by dsimp only; first | (rw [accQ_t (by omega) (refO_t (by assumption) (by assumption) (by assumption) (by assumption)), List.length_append]; rfl) | (rw [accQ_f (by omega) (refO_a (by assumption))]; rfl) | (rw [accQ_f (by omega) (refO_b (by assumption))]; rfl) | (rw [accQ_f (by omega) (refO_c (by assumption) (by assumption) (by assumption))]; rfl) | (rw [accQ_f (by omega) (refO_d (by assumption) (by assumption) (by assumption))]; rfl)) (Nat.le_refl _)) (by first | omega | (show _ < _; omega) | (simp only []; omega)))
                | exact Exists.intro (⟨(u, r + 1), by show r + 1 ≤ _; omega⟩) (And.intro (Le.mk hB [0, 1, 2] ⟨rfl, rfl, rfl, rfl, rfl, rfl, rfl, rfl, rfl, rfl, rfl, trivial⟩ rfl (by dsimp only; first | (rw [accQ_t (by omega) (refO_t (by assumption) (by assumption) (by assumption) (by assumption)), List.length_append]; rfl) | (rw [accQ_f (by omega) (refO_a (by assumption))]; rfl) | (rw [accQ_f (by omega) (refO_b (by assumption))]; rfl) | (rw [accQ_f (by omega) (refO_c (by assumption) (by assumption) (by assumption))]; rfl) | (rw [accQ_f (by omega) (refO_d (by assumption) (by assumption) (by assumption))]; rfl)) (Nat.le_refl _)) (by first | omega | (show _ < _; omega) | (simp only []; omega)))
            · have aH6 := aH6b
              try simp only [decide_eq_true_eq, decide_eq_false_iff_not, Bool.not_eq_true', Bool.not_eq_false', Int.not_lt, Int.not_le] at aH6
              refine VC.skip ?_
              show VC _ _ _ _ _
              refine VC.region ?_
              refine VO.val rfl rfl (OpV.add rfl rfl rfl (by unfold fits; omega)) ?_
              refine VO.val rfl rfl (OpV.move (.inl rfl) rfl) ?_
              refine VO.nil ?_
              first
                | exact Exists.intro (⟨(u2, r + 1), by show r + 1 ≤ _; omega⟩) (And.intro (Le.mk hB [0, 1, 2] ⟨rfl, rfl, rfl, rfl, rfl, rfl, rfl, rfl, rfl, rfl, rfl, trivial⟩ rfl (by dsimp only; first | (rw [accQ_t (by omega) (refO_t (by assumption) (by assumption) (by assumption) (by assumption)), List.length_append]; rfl) | (rw [accQ_f (by omega) (refO_a (by assumption))]; rfl) | (rw [accQ_f (by omega) (refO_b (by assumption))]; rfl) | (rw [accQ_f (by omega) (refO_c (by assumption) (by assumption) (by assumption))]; rfl) | (rw [accQ_f (by omega) (refO_d (by assumption) (by assumption) (by assumption))]; rfl)) (Nat.le_refl _)) (by first | omega | (show _ < _; omega) | (simp only []; omega)))
                | exact Exists.intro (⟨(u, r + 1), by show r + 1 ≤ _; omega⟩) (And.intro (Le.mk hB [0, 1, 2] ⟨rfl, rfl, rfl, rfl, rfl, rfl, rfl, rfl, rfl, rfl, rfl, trivial⟩ rfl (by dsimp only; first | (rw [accQ_t (by omega) (refO_t (by assumption) (by assumption) (by assumption) (by assumption)), List.length_append]; rfl) | (rw [accQ_f (by omega) (refO_a (by assumption))]; rfl) | (rw [accQ_f (by omega) (refO_b (by assumption))]; rfl) | (rw [accQ_f (by omega) (refO_c (by assumption) (by assumption) (by assumption))]; rfl) | (rw [accQ_f (by omega) (refO_d (by assumption) (by assumption) (by assumption))]; rfl)) (Nat.le_refl _)) (by first | omega | (show _ < _; omega) | (simp only []; omega)))
          · replace aK5b : _ = false := aK5b
            have aK5 := aK5b
            try simp only [decide_eq_true_eq, decide_eq_false_iff_not, Bool.not_eq_true', Bool.not_eq_false', Int.not_lt, Int.not_le] at aK5
            refine VO.opX rfl rfl rfl rfl aK5b ?_
            refine VO.opX rfl rfl rfl rfl aK5b ?_
            refine VO.opX rfl rfl rfl rfl aK5b ?_
            refine VO.opX rfl rfl rfl rfl aK5b ?_
            refine VO.opX rfl rfl rfl rfl aK5b ?_
            refine VO.opX rfl rfl rfl rfl aK5b ?_
            refine VO.opX rfl rfl rfl rfl aK5b ?_
            refine VO.opX rfl rfl rfl rfl aK5b ?_
            refine VO.opX rfl rfl rfl rfl aK5b ?_
            refine VO.opX rfl rfl rfl rfl aK5b ?_
            refine VO.opX rfl rfl rfl rfl aK5b ?_
            refine VO.opX rfl rfl rfl rfl aK5b ?_
            refine VO.val rfl rfl (OpV.pickF rfl rfl rfl rfl aK5b) ?_
            refine VO.nil ?_
            show VC _ _ _ _ _
            refine VC.condF rfl rfl ?_
            refine VC.skip ?_
            show VC _ _ _ _ _
            refine VC.region ?_
            refine VO.val rfl rfl (OpV.add rfl rfl rfl (by unfold fits; omega)) ?_
            refine VO.val rfl rfl (OpV.move (.inl rfl) rfl) ?_
            refine VO.nil ?_
            first
              | exact Exists.intro (⟨(u2, r + 1), by show r + 1 ≤ _; omega⟩) (And.intro (Le.mk hB [0, 1, 2] ⟨rfl, rfl, rfl, rfl, rfl, rfl, rfl, rfl, rfl, rfl, rfl, trivial⟩ rfl (by dsimp only; first | (rw [accQ_t (by omega) (refO_t (by assumption) (by assumption) (by assumption) (by assumption)), List.length_append]; rfl) | (rw [accQ_f (by omega) (refO_a (by assumption))]; rfl) | (rw [accQ_f (by omega) (refO_b (by assumption))]; rfl) | (rw [accQ_f (by omega) (refO_c (by assumption) (by assumption) (by assumption))]; rfl) | (rw [accQ_f (by omega) (refO_d (by assumption) (by assumption) (by assumption))]; rfl)) (Nat.le_refl _)) (by first | omega | (show _ < _; omega) | (simp only []; omega)))
              | exact Exists.intro (⟨(u, r + 1), by show r + 1 ≤ _; omega⟩) (And.intro (Le.mk hB [0, 1, 2] ⟨rfl, rfl, rfl, rfl, rfl, rfl, rfl, rfl, rfl, rfl, rfl, trivial⟩ rfl (by dsimp only; first | (rw [accQ_t (by omega) (refO_t (by assumption) (by assumption) (by assumption) (by assumption)), List.length_append]; rfl) | (rw [accQ_f (by omega) (refO_a (by assumption))]; rfl) | (rw [accQ_f (by omega) (refO_b (by assumption))]; rfl) | (rw [accQ_f (by omega) (refO_c (by assumption) (by assumption) (by assumption))]; rfl) | (rw [accQ_f (by omega) (refO_d (by assumption) (by assumption) (by assumption))]; rfl)) (Nat.le_refl _)) (by first | omega | (show _ < _; omega) | (simp only []; omega)))
        · replace aK4b : _ = false := aK4b
          have aK4 := aK4b
          try simp only [decide_eq_true_eq, decide_eq_false_iff_not, Bool.not_eq_true', Bool.not_eq_false', Int.not_lt, Int.not_le] at aK4
          refine VO.opX rfl rfl rfl rfl aK4b ?_
          refine VO.opX rfl rfl rfl rfl aK4b ?_
          refine VO.opX rfl rfl rfl rfl aK4b ?_
          refine VO.opX rfl rfl rfl rfl aK4b ?_
          refine VO.opX rfl rfl rfl rfl aK4b ?_
          refine VO.opX rfl rfl rfl rfl aK4b ?_
          refine VO.opX rfl rfl rfl rfl aK4b ?_
          refine VO.opX rfl rfl rfl rfl aK4b ?_
          refine VO.opX rfl rfl rfl rfl aK4b ?_
          refine VO.opX rfl rfl rfl rfl aK4b ?_
          refine VO.opX rfl rfl rfl rfl aK4b ?_
          refine VO.opX rfl rfl rfl rfl aK4b ?_
          refine VO.val rfl rfl (OpV.pickF rfl rfl rfl rfl aK4b) ?_
          refine VO.val rfl rfl (OpV.move (.inl rfl) rfl) ?_
          refine VO.opX rfl rfl rfl rfl rfl ?_
          refine VO.opX rfl rfl rfl rfl rfl ?_
          refine VO.opX rfl rfl rfl rfl rfl ?_
          refine VO.opX rfl rfl rfl rfl rfl ?_
          refine VO.opX rfl rfl rfl rfl rfl ?_
          refine VO.opX rfl rfl rfl rfl rfl ?_
          refine VO.opX rfl rfl rfl rfl rfl ?_
          refine VO.opX rfl rfl rfl rfl rfl ?_
          refine VO.opX rfl rfl rfl rfl rfl ?_
          refine VO.opX rfl rfl rfl rfl rfl ?_
          refine VO.opX rfl rfl rfl rfl rfl ?_
          refine VO.opX rfl rfl rfl rfl rfl ?_
          refine VO.opX rfl rfl rfl rfl rfl ?_
          refine VO.val rfl rfl (OpV.pickF rfl rfl rfl rfl rfl) ?_
          refine VO.nil ?_
          show VC _ _ _ _ _
          refine VC.condF rfl rfl ?_
          refine VC.skip ?_
          show VC _ _ _ _ _
          refine VC.region ?_
          refine VO.val rfl rfl (OpV.add rfl rfl rfl (by unfold fits; omega)) ?_
          refine VO.val rfl rfl (OpV.move (.inl rfl) rfl) ?_
          refine VO.nil ?_
          first
            | exact Exists.intro (⟨(u2, r + 1), by show r + 1 ≤ _; omega⟩) (And.intro (Le.mk hB [0, 1, 2] ⟨rfl, rfl, rfl, rfl, rfl, rfl, rfl, rfl, rfl, rfl, rfl, trivial⟩ rfl (by dsimp only; first | (rw [accQ_t (by omega) (refO_t (by assumption) (by assumption) (by assumption) (by assumption)), List.length_append]; rfl) | (rw [accQ_f (by omega) (refO_a (by assumption))]; rfl) | (rw [accQ_f (by omega) (refO_b (by assumption))]; rfl) | (rw [accQ_f (by omega) (refO_c (by assumption) (by assumption) (by assumption))]; rfl) | (rw [accQ_f (by omega) (refO_d (by assumption) (by assumption) (by assumption))]; rfl)) (Nat.le_refl _)) (by first | omega | (show _ < _; omega) | (simp only []; omega)))
            | exact Exists.intro (⟨(u, r + 1), by show r + 1 ≤ _; omega⟩) (And.intro (Le.mk hB [0, 1, 2] ⟨rfl, rfl, rfl, rfl, rfl, rfl, rfl, rfl, rfl, rfl, rfl, trivial⟩ rfl (by dsimp only; first | (rw [accQ_t (by omega) (refO_t (by assumption) (by assumption) (by assumption) (by assumption)), List.length_append]; rfl) | (rw [accQ_f (by omega) (refO_a (by assumption))]; rfl) | (rw [accQ_f (by omega) (refO_b (by assumption))]; rfl) | (rw [accQ_f (by omega) (refO_c (by assumption) (by assumption) (by assumption))]; rfl) | (rw [accQ_f (by omega) (refO_d (by assumption) (by assumption) (by assumption))]; rfl)) (Nat.le_refl _)) (by first | omega | (show _ < _; omega) | (simp only []; omega)))
      · replace aK3b : _ = false := aK3b
        have aK3 := aK3b
        try simp only [decide_eq_true_eq, decide_eq_false_iff_not, Bool.not_eq_true', Bool.not_eq_false', Int.not_lt, Int.not_le] at aK3
        refine VO.val rfl rfl (OpV.pickF rfl rfl rfl rfl aK3b) ?_
        refine VO.val rfl rfl (OpV.move (.inl rfl) rfl) ?_
        refine VO.opX rfl rfl rfl rfl rfl ?_
        refine VO.opX rfl rfl rfl rfl rfl ?_
        refine VO.opX rfl rfl rfl rfl rfl ?_
        refine VO.opX rfl rfl rfl rfl rfl ?_
        refine VO.opX rfl rfl rfl rfl rfl ?_
        refine VO.opX rfl rfl rfl rfl rfl ?_
        refine VO.opX rfl rfl rfl rfl rfl ?_
        refine VO.opX rfl rfl rfl rfl rfl ?_
        refine VO.opX rfl rfl rfl rfl rfl ?_
        refine VO.opX rfl rfl rfl rfl rfl ?_
        refine VO.opX rfl rfl rfl rfl rfl ?_
        refine VO.opX rfl rfl rfl rfl rfl ?_
        refine VO.opX rfl rfl rfl rfl rfl ?_
        refine VO.val rfl rfl (OpV.pickF rfl rfl rfl rfl rfl) ?_
        refine VO.val rfl rfl (OpV.move (.inl rfl) rfl) ?_
        refine VO.opX rfl rfl rfl rfl rfl ?_
        refine VO.opX rfl rfl rfl rfl rfl ?_
        refine VO.opX rfl rfl rfl rfl rfl ?_
        refine VO.opX rfl rfl rfl rfl rfl ?_
        refine VO.opX rfl rfl rfl rfl rfl ?_
        refine VO.opX rfl rfl rfl rfl rfl ?_
        refine VO.opX rfl rfl rfl rfl rfl ?_
        refine VO.opX rfl rfl rfl rfl rfl ?_
        refine VO.opX rfl rfl rfl rfl rfl ?_
        refine VO.opX rfl rfl rfl rfl rfl ?_
        refine VO.opX rfl rfl rfl rfl rfl ?_
        refine VO.opX rfl rfl rfl rfl rfl ?_
        refine VO.opX rfl rfl rfl rfl rfl ?_
        refine VO.val rfl rfl (OpV.pickF rfl rfl rfl rfl rfl) ?_
        refine VO.nil ?_
        show VC _ _ _ _ _
        refine VC.condF rfl rfl ?_
        refine VC.skip ?_
        show VC _ _ _ _ _
        refine VC.region ?_
        refine VO.val rfl rfl (OpV.add rfl rfl rfl (by unfold fits; omega)) ?_
        refine VO.val rfl rfl (OpV.move (.inl rfl) rfl) ?_
        refine VO.nil ?_
        first
          | exact Exists.intro (⟨(u2, r + 1), by show r + 1 ≤ _; omega⟩) (And.intro (Le.mk hB [0, 1, 2] ⟨rfl, rfl, rfl, rfl, rfl, rfl, rfl, rfl, rfl, rfl, rfl, trivial⟩ rfl (by dsimp only; first | (rw [accQ_t (by omega) (refO_t (by assumption) (by assumption) (by assumption) (by assumption)), List.length_append]; rfl) | (rw [accQ_f (by omega) (refO_a (by assumption))]; rfl) | (rw [accQ_f (by omega) (refO_b (by assumption))]; rfl) | (rw [accQ_f (by omega) (refO_c (by assumption) (by assumption) (by assumption))]; rfl) | (rw [accQ_f (by omega) (refO_d (by assumption) (by assumption) (by assumption))]; rfl)) (Nat.le_refl _)) (by first | omega | (show _ < _; omega) | (simp only []; omega)))
          | exact Exists.intro (⟨(u, r + 1), by show r + 1 ≤ _; omega⟩) (And.intro (Le.mk hB [0, 1, 2] ⟨rfl, rfl, rfl, rfl, rfl, rfl, rfl, rfl, rfl, rfl, rfl, trivial⟩ rfl (by dsimp only; first | (rw [accQ_t (by omega) (refO_t (by assumption) (by assumption) (by assumption) (by assumption)), List.length_append]; rfl) | (rw [accQ_f (by omega) (refO_a (by assumption))]; rfl) | (rw [accQ_f (by omega) (refO_b (by assumption))]; rfl) | (rw [accQ_f (by omega) (refO_c (by assumption) (by assumption) (by assumption))]; rfl) | (rw [accQ_f (by omega) (refO_d (by assumption) (by assumption) (by assumption))]; rfl)) (Nat.le_refl _)) (by first | omega | (show _ < _; omega) | (simp only []; omega)))
    · have aH2 := aH2b
      try simp only [decide_eq_true_eq, decide_eq_false_iff_not, Bool.not_eq_true', Bool.not_eq_false', Int.not_lt, Int.not_le] at aH2
      refine VC.exit ?_
      show VC _ _ _ _ _
      rw [accQ_all (by omega)]
      refine VC.region ?_
      refine VO.val rfl rfl (OpV.add rfl rfl rfl (by unfold fits; omega)) ?_
      refine VO.val rfl rfl (OpV.move (.inl rfl) rfl) ?_
      refine VO.nil ?_
      exact Exists.intro (⟨(u, q + 1), by show q + 1 ≤ _; omega⟩) (And.intro (Le.mk hB [0, 1] ⟨rfl, rfl, rfl, rfl, rfl, rfl, rfl, trivial⟩ rfl rfl (Nat.le_refl _)) (by first | omega | (show _ < _; omega) | (simp only []; omega)))
  · have aH1 := aH1b
    try simp only [decide_eq_true_eq, decide_eq_false_iff_not, Bool.not_eq_true', Bool.not_eq_false', Int.not_lt, Int.not_le] at aH1
    refine VC.exit ?_
    show VC _ _ _ _ _
    refine VC.seq ?_
    have hqe : q = p.places.length := by omega
    rw [hqe, pairsR_all]
    refine VC.region ?_
    refine VO.val rfl rfl (OpV.move (.inl rfl) rfl) ?_
    refine VO.val rfl rfl (OpV.move (.inr rfl) rfl) ?_
    refine VO.nil ?_
    show VC _ _ _ _ _
    refine VC.ret ?_
    exact Exists.intro _ (And.intro (RetN.one Tryd.results33 (ResN.rowT (i := 1) rfl rfl rfl (flat_pair _))) (by rw [crowdR, if_pos h00, crowd_eq, crowd_ref]))
def bey (b : List BodyS) (p : ProdS) (n : Int) (c : PlaceS) : Option ByteArray := (lyO b c).bind (beyondO p n)
theorem bey_a {b : List BodyS} {p : ProdS} {n : Int} {c : PlaceS} (h : (lyO b c).isSome = false) : bey b p n c = none := by
  unfold bey
  cases e : lyO b c with
  | none => rfl
  | some x => rw [e] at h; cases h
theorem bey_at {b : List BodyS} {p : ProdS} {n : Int} {c : PlaceS} (h1 : (lyO b c).isSome = true) : bey b p n c = beyondO p n (bxR b c) ∧ (bxR b c).name = c.name := by
  unfold bey bxR
  cases e1 : lyO b c with
  | none => rw [e1] at h1; cases h1
  | some x => exact ⟨rfl, ly_name e1⟩
theorem min_sw {a b c d e : Int} {v : Bool} (h : decide (min (min (min a b) c) d < e) = v) : decide (min (min (min a c) b) d < e) = v := by
  rw [show min (min (min a c) b) d = min (min (min a b) c) d by omega]; exact h
theorem bey_t {b : List BodyS} {p : ProdS} {n : Int} {c : PlaceS} (h1 : (lyO b c).isSome = true) (h : decide (min (min (min (bxR b c).left (bxR b c).lower) (2 * p.wide - (bxR b c).right)) (2 * p.high - (bxR b c).high) < 2 * n) = true) : bey b p n c = some c.name := by
  obtain ⟨k1, k2⟩ := bey_at (p := p) (n := n) h1
  rw [k1, beyO_t (min_sw h), k2]
theorem bey_f {b : List BodyS} {p : ProdS} {n : Int} {c : PlaceS} (h1 : (lyO b c).isSome = true) (h : decide (min (min (min (bxR b c).left (bxR b c).lower) (2 * p.wide - (bxR b c).right)) (2 * p.high - (bxR b c).high) < 2 * n) = false) : bey b p n c = none := by
  rw [(bey_at (p := p) (n := n) h1).1, beyO_f (min_sw h)]
set_option maxRecDepth 100000 in
set_option maxHeartbeats 8000000 in
theorem rf_BeyondOf {p : ProdS} {b : List BodyS} {n : Int} (hs : SmP p) (hb : SmB b) (h00 : bodsE p b n = 0) :
    SpecN Tryd.prog 34 [avProd p, avL b, avI n] (fun y => y = avStrs (beyondR p b n)) := by
  refine SpecN.of_VCN Tryd.func34 rfl Tryd.ntmps34 (Nat.le_of_ble_eq_true rfl) fun w A hB => ?_
  have hnew : True := trivial
  refine VC.seq ?_
  have hz := bodsE_0 h00
  have hok := prodOk hz.1
  have hw := hok.wide
  have hh := hok.high
  have hlen := hok.len
  refine VC.region ?_
  refine VO.op rfl (OpE.box rfl hB rfl rfl rfl ?_)
  intro g3
  refine VO.val rfl rfl (OpV.move (.inr rfl) rfl) ?_
  refine VO.nil ?_
  show VC _ _ _ _ _
  refine VC.seq ?_
  refine VC.region ?_
  refine VO.val rfl rfl (OpV.move (.inr rfl) rfl) ?_
  refine VO.nil ?_
  show VC _ _ _ _ _
  refine VC.seq ?_
  refine VC.seq ?_
  refine VC.region ?_
  first
    | refine VO.val rfl rfl (OpV.fieldAddr_atO 3 rfl Tryd.underlying44 rfl rfl Tryd.sizeOf42 rfl rfl) ?_
    | refine VO.val rfl rfl (OpV.fieldAddrO 3 rfl Tryd.underlying44 rfl rfl Tryd.sizeOf42 rfl) ?_
  refine VO.val rfl rfl (OpV.load_own (i := 0) rfl hB Tryd.isAgg42 rfl rfl rfl (fun h => h)) ?_
  first
    | refine VO.val rfl rfl (OpV.len_im rfl Tryd.underlying42 rfl) ?_
    | refine VO.val rfl rfl (OpV.len_v rfl Tryd.underlying42 rfl) ?_
    | refine VO.val rfl rfl (OpV.len_row (i := 0) rfl Tryd.underlying42 rfl rfl) ?_
  refine VO.val rfl rfl (OpV.move (.inl rfl) rfl) ?_
  refine VO.nil ?_
  show VC _ _ _ _ _
  refine VC.block ?_
  refine VC.le _ (Le.nilRow 1 9) ?_
  refine VC.loopK [(1, _), (2, _), (3, _), (13, _), (14, _)] ⟨rfl, rfl, rfl, rfl, rfl, trivial⟩ ({z : Value × Nat // z.2 ≤ p.places.length}) (fun (i : {z : Value × Nat // z.2 ≤ p.places.length}) => match i with | ⟨⟨u, q⟩, hq⟩ => [(7, .v u), (15, avI (q : Int))]) (fun (i : {z : Value × Nat // z.2 ≤ p.places.length}) => match i with | ⟨⟨u, q⟩, hq⟩ => [boxProd g3 p 44, .row u ((p.places.take q).filterMap (bey b p n)).length 1 (strsL ((p.places.take q).filterMap (bey b p n))) 9]) (fun (i : {z : Value × Nat // z.2 ≤ p.places.length}) => match i with | ⟨⟨u, q⟩, hq⟩ => 0) (fun (i : {z : Value × Nat // z.2 ≤ p.places.length}) => match i with | ⟨⟨u, q⟩, hq⟩ => p.places.length - q) ⟨(.slice none 0 0, 0), Nat.zero_le _⟩ (Le.mk hB [0, 1] ⟨rfl, rfl, rfl, rfl, rfl, rfl, rfl, trivial⟩ rfl rfl (Nat.le_refl _)) ?_
  rintro ⟨⟨u, q⟩, hq⟩
  show VC _ _ _ _ ⟨[(7, .v u), (15, avI (q : Int))] ++ [(1, _), (2, _), (3, _), (13, _), (14, _)], [boxProd g3 p 44, .row u ((p.places.take q).filterMap (bey b p n)).length 1 (strsL ((p.places.take q).filterMap (bey b p n))) 9], 0⟩
  simp only at hq
  have hfl := List.length_filterMap_le (bey b p n) (p.places.take q)
  have htl := List.length_take_le q p.places
  refine VC.seq ?_
  refine VC.region ?_
  refine VO.val rfl rfl (OpV.lss rfl rfl rfl) ?_
  refine VO.nil ?_
  show VC _ _ _ _ _
  refine VC.seq ?_
  refine VC.cond rfl (fun aH1b => ?_) (fun aH1b => ?_)
  · have aH1 := aH1b
    try simp only [decide_eq_true_eq, decide_eq_false_iff_not, Bool.not_eq_true', Bool.not_eq_false', Int.not_lt, Int.not_le] at aH1
    refine VC.skip ?_
    show VC _ _ _ _ _
    refine VC.seq ?_
    refine VC.block ?_
    refine VC.seq ?_
    refine VC.region ?_
    first
      | refine VO.val rfl rfl (OpV.indexAddr_E rfl Tryd.underlying42 Tryd.sizeOf100 rfl rfl rfl (by omega)) ?_
      | refine VO.val rfl rfl (OpV.indexAddr_E rfl Tryd.underlying42 Tryd.sizeOf100 rfl rfl (Int.toNat_of_nonneg (by omega)).symm (by omega)) ?_
      | refine VO.val rfl rfl (OpV.indexAddr_q rfl Tryd.underlying42 Tryd.sizeOf100 rfl rfl rfl (by omega)) ?_
      | refine VO.val rfl rfl (OpV.indexAddr_q rfl Tryd.underlying42 Tryd.sizeOf100 rfl rfl (Int.toNat_of_nonneg (by omega)).symm (by omega)) ?_
      | refine VO.val rfl rfl (OpV.indexAddr_im rfl Tryd.underlying42 Tryd.sizeOf100 rfl rfl (by omega) (by omega)) ?_
    first
      | refine VO.val rfl rfl (OpV.loadK_at rfl hB OutW.no Tryd.isAgg100 Tryd.sizeOf100 rfl rfl) ?_
      | refine VO.val rfl rfl (OpV.loadK_own (i := 0) rfl hB Tryd.isAgg100 Tryd.sizeOf100 rfl rfl rfl (fun h => h)) ?_
      | refine VO.val rfl rfl (OpV.loadK_own (i := 1) rfl hB Tryd.isAgg100 Tryd.sizeOf100 rfl rfl rfl (fun h => h)) ?_
    refine VO.op rfl (OpE.alloc rfl hB rfl Tryd.zeroValue100 rfl ?_)
    intro g9
    refine VO.op rfl (OpE.store (i := 2) rfl hB rfl Tryd.sizeOf100 rfl rfl rfl rfl rfl rfl (Nat.le_of_ble_eq_true rfl) trivial ?_)
    refine VO.nil ?_
    show VC _ _ _ _ _
    refine VC.seq ?_
    have hbx := bxR_bd (b := b) hz.1 hz.2.1 (q := q) (by omega)
    have f1 := hbx.a
    have f2 := hbx.b
    have f3 := hbx.c
    have f4 := hbx.d
    refine VC.region ?_
    refine VO.val rfl rfl (OpV.move (.inl rfl) rfl) ?_
    refine VO.val rfl rfl (OpV.loadK_own (i := 2) rfl hB Tryd.isAgg100 Tryd.sizeOf100 rfl rfl rfl (fun h => h)) ?_
    refine VO.op rfl (OpE.call rfl hB rfl Tryd.call63 rfl (SpecN.spec (rf_bodyBox (c := p.places.getD q default) hb hz.2.1 (place_bd hz.1 (by omega)))) ?_)
    rintro _ rfl
    refine VO.val rfl rfl (OpV.move (.inl rfl) rfl) ?_
    first
      | refine VO.val rfl rfl (OpV.extract rfl rfl rfl) ?_
      | refine VO.val rfl rfl (OpV.extract_v rfl rfl rfl) ?_
    first
      | refine VO.val rfl rfl (OpV.extract rfl rfl rfl) ?_
      | refine VO.val rfl rfl (OpV.extract_v rfl rfl rfl) ?_
    refine VO.op rfl (OpE.alloc rfl hB rfl Tryd.zeroValue112 rfl ?_)
    intro g10
    refine VO.op rfl (OpE.store (i := 3) rfl hB rfl Tryd.sizeOf112 rfl rfl rfl rfl rfl rfl (Nat.le_of_ble_eq_true rfl) trivial ?_)
    refine VO.val rfl rfl (OpV.move (.inr rfl) rfl) ?_
    refine VO.nil ?_
    show VC _ _ _ _ _
    refine VC.seq ?_
    refine VC.region ?_
    refine VO.val rfl rfl (OpV.move (.inl rfl) rfl) ?_
    refine VO.val rfl rfl (OpV.move (.inl rfl) rfl) ?_
    refine VO.opG rfl rfl rfl rfl (fun aK2b => ?_) (fun aK2b => ?_)
    · replace aK2b : _ = true := aK2b
      have aK2 := aK2b
      try simp only [decide_eq_true_eq, decide_eq_false_iff_not, Bool.not_eq_true', Bool.not_eq_false', Int.not_lt, Int.not_le] at aK2
      first
        | refine OpE.val (W := NoB) (OpV.fieldAddr_atO 0 rfl Tryd.underlying112 rfl rfl Tryd.sizeOf3 rfl rfl) rfl ?_
        | refine OpE.val (W := NoB) (OpV.fieldAddrO 0 rfl Tryd.underlying112 rfl rfl Tryd.sizeOf3 rfl) rfl ?_
      refine VO.opY rfl rfl rfl rfl aK2b ?_
      refine OpE.val (W := NoB) (OpV.load_own (i := 3) rfl hB Tryd.isAgg3 rfl rfl rfl (fun h => h)) rfl ?_
      refine VO.opY rfl rfl rfl rfl aK2b ?_
      first
        | refine OpE.val (W := NoB) (OpV.fieldAddr_atO 1 rfl Tryd.underlying112 rfl rfl Tryd.sizeOf3 rfl rfl) rfl ?_
        | refine OpE.val (W := NoB) (OpV.fieldAddrO 1 rfl Tryd.underlying112 rfl rfl Tryd.sizeOf3 rfl) rfl ?_
      refine VO.opY rfl rfl rfl rfl aK2b ?_
      refine OpE.val (W := NoB) (OpV.load_own (i := 3) rfl hB Tryd.isAgg3 rfl rfl rfl (fun h => h)) rfl ?_
      refine VO.opY rfl rfl rfl rfl aK2b ?_
      first
        | refine OpE.val (W := NoB) (OpV.fieldAddr_atO 1 rfl Tryd.underlying44 rfl rfl Tryd.sizeOf3 rfl rfl) rfl ?_
        | refine OpE.val (W := NoB) (OpV.fieldAddrO 1 rfl Tryd.underlying44 rfl rfl Tryd.sizeOf3 rfl) rfl ?_
      refine VO.opY rfl rfl rfl rfl aK2b ?_
      first
        | refine OpE.val (W := NoB) (OpV.load_at rfl hB OutW.no Tryd.isAgg3 rfl rfl) rfl ?_
        | refine OpE.val (W := NoB) (OpV.load_own (i := 0) rfl hB Tryd.isAgg3 rfl rfl rfl (fun h => h)) rfl ?_
        | refine OpE.val (W := NoB) (OpV.load_own (i := 1) rfl hB Tryd.isAgg3 rfl rfl rfl (fun h => h)) rfl ?_
        | refine OpE.val (W := NoB) (OpV.load_own (i := 2) rfl hB Tryd.isAgg3 rfl rfl rfl (fun h => h)) rfl ?_
        | refine OpE.val (W := NoB) (OpV.load_own (i := 3) rfl hB Tryd.isAgg3 rfl rfl rfl (fun h => h)) rfl ?_
      refine VO.opY rfl rfl rfl rfl aK2b ?_
      refine OpE.val (W := NoB) (OpV.mul rfl rfl rfl (by unfold fits; omega)) rfl ?_
      refine VO.opY rfl rfl rfl rfl aK2b ?_
      first
        | refine OpE.val (W := NoB) (OpV.fieldAddr_atO 2 rfl Tryd.underlying112 rfl rfl Tryd.sizeOf3 rfl rfl) rfl ?_
        | refine OpE.val (W := NoB) (OpV.fieldAddrO 2 rfl Tryd.underlying112 rfl rfl Tryd.sizeOf3 rfl) rfl ?_
      refine VO.opY rfl rfl rfl rfl aK2b ?_
      refine OpE.val (W := NoB) (OpV.load_own (i := 3) rfl hB Tryd.isAgg3 rfl rfl rfl (fun h => h)) rfl ?_
      refine VO.opY rfl rfl rfl rfl aK2b ?_
      refine OpE.val (W := NoB) (OpV.sub rfl rfl rfl (by unfold fits; omega)) rfl ?_
      refine VO.opY rfl rfl rfl rfl aK2b ?_
      first
        | refine OpE.val (W := NoB) (OpV.fieldAddr_atO 2 rfl Tryd.underlying44 rfl rfl Tryd.sizeOf3 rfl rfl) rfl ?_
        | refine OpE.val (W := NoB) (OpV.fieldAddrO 2 rfl Tryd.underlying44 rfl rfl Tryd.sizeOf3 rfl) rfl ?_
      refine VO.opY rfl rfl rfl rfl aK2b ?_
      first
        | refine OpE.val (W := NoB) (OpV.load_at rfl hB OutW.no Tryd.isAgg3 rfl rfl) rfl ?_
        | refine OpE.val (W := NoB) (OpV.load_own (i := 0) rfl hB Tryd.isAgg3 rfl rfl rfl (fun h => h)) rfl ?_
        | refine OpE.val (W := NoB) (OpV.load_own (i := 1) rfl hB Tryd.isAgg3 rfl rfl rfl (fun h => h)) rfl ?_
        | refine OpE.val (W := NoB) (OpV.load_own (i := 2) rfl hB Tryd.isAgg3 rfl rfl rfl (fun h => h)) rfl ?_
        | refine OpE.val (W := NoB) (OpV.load_own (i := 3) rfl hB Tryd.isAgg3 rfl rfl rfl (fun h => h)) rfl ?_
      refine VO.opY rfl rfl rfl rfl aK2b ?_
      refine OpE.val (W := NoB) (OpV.mul rfl rfl rfl (by unfold fits; omega)) rfl ?_
      refine VO.opY rfl rfl rfl rfl aK2b ?_
      first
        | refine OpE.val (W := NoB) (OpV.fieldAddr_atO 3 rfl Tryd.underlying112 rfl rfl Tryd.sizeOf3 rfl rfl) rfl ?_
        | refine OpE.val (W := NoB) (OpV.fieldAddrO 3 rfl Tryd.underlying112 rfl rfl Tryd.sizeOf3 rfl) rfl ?_
      refine VO.opY rfl rfl rfl rfl aK2b ?_
      refine OpE.val (W := NoB) (OpV.load_own (i := 3) rfl hB Tryd.isAgg3 rfl rfl rfl (fun h => h)) rfl ?_
      refine VO.opY rfl rfl rfl rfl aK2b ?_
      refine OpE.val (W := NoB) (OpV.sub rfl rfl rfl (by unfold fits; omega)) rfl ?_
      refine VO.opY rfl rfl rfl rfl aK2b ?_
      refine OpE.val (W := NoB) (OpV.min4 rfl rfl rfl rfl rfl) rfl ?_
      refine VO.opY rfl rfl rfl rfl aK2b ?_
      refine OpE.val (W := NoB) (OpV.move (.inl rfl) rfl) rfl ?_
      refine VO.opY rfl rfl rfl rfl aK2b ?_
      refine OpE.val (W := NoB) (OpV.mul rfl rfl rfl (by unfold fits; omega)) rfl ?_
      refine VO.opY rfl rfl rfl rfl aK2b ?_
      refine OpE.val (W := NoB) (OpV.lss rfl rfl rfl) rfl ?_
      refine VO.val rfl rfl (OpV.pickT rfl rfl rfl rfl aK2b) ?_
      refine VO.nil ?_
      show VC _ _ _ _ _
      refine VC.cond rfl (fun aH3b => ?_) (fun aH3b => ?_)
      · have aH3 := aH3b
        try simp only [decide_eq_true_eq, decide_eq_false_iff_not, Bool.not_eq_true', Bool.not_eq_false', Int.not_lt, Int.not_le] at aH3
        refine VC.region ?_
        refine VO.val rfl rfl (OpV.move (.inl rfl) rfl) ?_
        first
          | refine VO.val rfl rfl (OpV.fieldAddr_atO 0 rfl Tryd.underlying100 rfl rfl Tryd.sizeOf9 rfl rfl) ?_
          | refine VO.val rfl rfl (OpV.fieldAddrO 0 rfl Tryd.underlying100 rfl rfl Tryd.sizeOf9 rfl) ?_
        refine VO.val rfl rfl (OpV.load_own (i := 2) rfl hB Tryd.isAgg9 rfl rfl rfl (fun h => h)) ?_
        refine VO.op rfl (OpE.buildSlice (zc := #[.string ⟨#[]⟩]) rfl hB rfl Tryd.underlying70 Tryd.sizeOf9 Tryd.zeroValue9 (by decide) (by decide) (by kernel_rfl) rfl rfl ?_)
        first
          | refine VO.op rfl (OpE.append1 (i := 0) rfl hB rfl Tryd.underlying70 (infoOf Tryd.t9 1 (by kernel_rfl) rfl rfl) rfl (by decide) (by decide) rfl rfl rfl rfl (strsL_snoc _ _) (by omega) (fun _ _ => trivial) ?_)
          | refine VO.op rfl (OpE.append1 (i := 1) rfl hB rfl Tryd.underlying70 (infoOf Tryd.t9 1 (by kernel_rfl) rfl rfl) rfl (by decide) (by decide) rfl rfl rfl rfl (strsL_snoc _ _) (by omega) (fun _ _ => trivial) ?_)
          | refine VO.op rfl (OpE.append1 (i := 2) rfl hB rfl Tryd.underlying70 (infoOf Tryd.t9 1 (by kernel_rfl) rfl rfl) rfl (by decide) (by decide) rfl rfl rfl rfl (strsL_snoc _ _) (by omega) (fun _ _ => trivial) ?_)
          | refine VO.op rfl (OpE.append1 (i := 3) rfl hB rfl Tryd.underlying70 (infoOf Tryd.t9 1 (by kernel_rfl) rfl rfl) rfl (by decide) (by decide) rfl rfl rfl rfl (strsL_snoc _ _) (by omega) (fun _ _ => trivial) ?_)
        intro u2
        refine VO.val rfl rfl (OpV.move (.inr rfl) rfl) ?_
        refine VO.nil ?_
        show VC _ _ _ _ _
        refine VC.region ?_
        refine VO.val rfl rfl (OpV.add rfl rfl rfl (by unfold fits; omega)) ?_
        refine VO.val rfl rfl (OpV.move (.inl rfl) rfl) ?_
        refine VO.nil ?_
        first
          | exact Exists.intro (⟨(u2, q + 1), by show q + 1 ≤ _; omega⟩) (And.intro (Le.mk hB [0, 1] ⟨rfl, rfl, rfl, rfl, rfl, rfl, rfl, trivial⟩ rfl (by dsimp only; first | (rw [fm_take (by omega), bey_t (by assumption) (by assumption), List.length_append]; rfl) | (rw [fm_take (by omega), bey_a (by assumption), Option.toList_none, List.append_nil]; rfl) | (rw [fm_take (by omega), bey_f (by assumption) (by assumption), Option.toList_none, List.append_nil]; rfl)) (Nat.le_refl _)) (by first | omega | (show _ < _; omega) | (simp only []; omega)))
          | exact Exists.intro (⟨(u, q + 1), by show q + 1 ≤ _; omega⟩) (And.intro (Le.mk hB [0, 1] ⟨rfl, rfl, rfl, rfl, rfl, rfl, rfl, trivial⟩ rfl (by dsimp only; first | (rw [fm_take (by omega), bey_t (by assumption) (by assumption), List.length_append]; rfl) | (rw [fm_take (by omega), bey_a (by assumption), Option.toList_none, List.append_nil]; rfl) | (rw [fm_take (by omega), bey_f (by assumption) (by assumption), Option.toList_none, List.append_nil]; rfl)) (Nat.le_refl _)) (by first | omega | (show _ < _; omega) | (simp only []; omega)))
      · have aH3 := aH3b
        try simp only [decide_eq_true_eq, decide_eq_false_iff_not, Bool.not_eq_true', Bool.not_eq_false', Int.not_lt, Int.not_le] at aH3
        refine VC.skip ?_
        show VC _ _ _ _ _
        refine VC.region ?_
        refine VO.val rfl rfl (OpV.add rfl rfl rfl (by unfold fits; omega)) ?_
        refine VO.val rfl rfl (OpV.move (.inl rfl) rfl) ?_
        refine VO.nil ?_
        first
          | exact Exists.intro (⟨(u2, q + 1), by show q + 1 ≤ _; omega⟩) (And.intro (Le.mk hB [0, 1] ⟨rfl, rfl, rfl, rfl, rfl, rfl, rfl, trivial⟩ rfl (by dsimp only; first | (rw [fm_take (by omega), bey_t (by assumption) (by assumption), List.length_append]; rfl) | (rw [fm_take (by omega), bey_a (by assumption), Option.toList_none, List.append_nil]; rfl) | (rw [fm_take (by omega), bey_f (by assumption) (by assumption), Option.toList_none, List.append_nil]; rfl)) (Nat.le_refl _)) (by first | omega | (show _ < _; omega) | (simp only []; omega)))
          | exact Exists.intro (⟨(u, q + 1), by show q + 1 ≤ _; omega⟩) (And.intro (Le.mk hB [0, 1] ⟨rfl, rfl, rfl, rfl, rfl, rfl, rfl, trivial⟩ rfl (by dsimp only; first | (rw [fm_take (by omega), bey_t (by assumption) (by assumption), List.length_append]; rfl) | (rw [fm_take (by omega), bey_a (by assumption), Option.toList_none, List.append_nil]; rfl) | (rw [fm_take (by omega), bey_f (by assumption) (by assumption), Option.toList_none, List.append_nil]; rfl)) (Nat.le_refl _)) (by first | omega | (show _ < _; omega) | (simp only []; omega)))
    · replace aK2b : _ = false := aK2b
      have aK2 := aK2b
      try simp only [decide_eq_true_eq, decide_eq_false_iff_not, Bool.not_eq_true', Bool.not_eq_false', Int.not_lt, Int.not_le] at aK2
      refine VO.opX rfl rfl rfl rfl aK2b ?_
      refine VO.opX rfl rfl rfl rfl aK2b ?_
      refine VO.opX rfl rfl rfl rfl aK2b ?_
      refine VO.opX rfl rfl rfl rfl aK2b ?_
      refine VO.opX rfl rfl rfl rfl aK2b ?_
      refine VO.opX rfl rfl rfl rfl aK2b ?_
      refine VO.opX rfl rfl rfl rfl aK2b ?_
      refine VO.opX rfl rfl rfl rfl aK2b ?_
      refine VO.opX rfl rfl rfl rfl aK2b ?_
      refine VO.opX rfl rfl rfl rfl aK2b ?_
      refine VO.opX rfl rfl rfl rfl aK2b ?_
      refine VO.opX rfl rfl rfl rfl aK2b ?_
      refine VO.opX rfl rfl rfl rfl aK2b ?_
      refine VO.opX rfl rfl rfl rfl aK2b ?_
      refine VO.opX rfl rfl rfl rfl aK2b ?_
      refine VO.opX rfl rfl rfl rfl aK2b ?_
      refine VO.opX rfl rfl rfl rfl aK2b ?_
      refine VO.opX rfl rfl rfl rfl aK2b ?_
      refine VO.opX rfl rfl rfl rfl aK2b ?_
      refine VO.val rfl rfl (OpV.pickF rfl rfl rfl rfl aK2b) ?_
      refine VO.nil ?_
      show VC _ _ _ _ _
      refine VC.condF rfl rfl ?_
      refine VC.skip ?_
      show VC _ _ _ _ _
      refine VC.region ?_
      refine VO.val rfl rfl (OpV.add rfl rfl rfl (by unfold fits; omega)) ?_
      refine VO.val rfl rfl (OpV.move (.inl rfl) rfl) ?_
      refine VO.nil ?_
      first
        | exact Exists.intro (⟨(u2, q + 1), by show q + 1 ≤ _; omega⟩) (And.intro (Le.mk hB [0, 1] ⟨rfl, rfl, rfl, rfl, rfl, rfl, rfl, trivial⟩ rfl (by dsimp only; first | (rw [fm_take (by omega), bey_t (by assumption) (by assumption), List.length_append]; rfl) | (rw [fm_take (by omega), bey_a (by assumption), Option.toList_none, List.append_nil]; rfl) | (rw [fm_take (by omega), bey_f (by assumption) (by assumption), Option.toList_none, List.append_nil]; rfl)) (Nat.le_refl _)) (by first | omega | (show _ < _; omega) | (simp only []; omega)))
        | exact Exists.intro (⟨(u, q + 1), by show q + 1 ≤ _; omega⟩) (And.intro (Le.mk hB [0, 1] ⟨rfl, rfl, rfl, rfl, rfl, rfl, rfl, trivial⟩ rfl (by dsimp only; first | (rw [fm_take (by omega), bey_t (by assumption) (by assumption), List.length_append]; rfl) | (rw [fm_take (by omega), bey_a (by assumption), Option.toList_none, List.append_nil]; rfl) | (rw [fm_take (by omega), bey_f (by assumption) (by assumption), Option.toList_none, List.append_nil]; rfl)) (Nat.le_refl _)) (by first | omega | (show _ < _; omega) | (simp only []; omega)))
  · have aH1 := aH1b
    try simp only [decide_eq_true_eq, decide_eq_false_iff_not, Bool.not_eq_true', Bool.not_eq_false', Int.not_lt, Int.not_le] at aH1
    refine VC.exit ?_
    show VC _ _ _ _ _
    refine VC.seq ?_
    have hqe : p.places.take q = p.places := List.take_of_length_le (by omega)
    rw [hqe]
    refine VC.region ?_
    refine VO.val rfl rfl (OpV.move (.inl rfl) rfl) ?_
    refine VO.val rfl rfl (OpV.move (.inr rfl) rfl) ?_
    refine VO.nil ?_
    show VC _ _ _ _ _
    refine VC.ret ?_
    exact Exists.intro _ (And.intro (RetN.one Tryd.results34 (ResN.rowS (i := 1) rfl rfl rfl)) (by rw [beyondR, if_pos h00, beyond_eq]; rfl))
end Go.Proofs.YtgikefjbdhnffaaDoor
