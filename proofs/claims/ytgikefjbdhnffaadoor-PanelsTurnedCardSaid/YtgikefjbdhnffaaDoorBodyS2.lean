/- Walks: the bodies of a product; crowded placements, placements beyond an edge. -/
import Derived.Test.YtgikefjbdhnffaaDoorBodyS
namespace Go.Proofs.YtgikefjbdhnffaaDoor
open Go.RowKit
set_option linter.unusedVariables false
set_option linter.unusedSimpArgs false
theorem OpV.min4 {P : Program} {B : Bs} {W : Nat → Prop} {s : St'} {o : Oper} {x y z u : Operand} {ts : Array TypeId} {a b c d : Int} (ho : o.op = .call { callee := .builtin .min, args := #[x, y, z, u], argTypes := ts })
    (hx : evO s x = some (.v (.int .i64 a))) (hy : evO s y = some (.v (.int .i64 b))) (hz : evO s z = some (.v (.int .i64 c))) (hu : evO s u = some (.v (.int .i64 d))) : OpV P B W s o (.v (.int .i64 (min (min (min a b) c) d))) := by
  have m2 : ∀ p q : Int, Builtin.min2 (.int .i64 p) (.int .i64 q) = pure (.int .i64 (min p q)) := fun p q => by
    have : (if q < p then q else p) = min p q := by rw [Int.min_def]; split <;> split <;> omega
    rw [← this]; rfl
  refine OpV.conc (fun e w hr w' hcw => ?_)
  simp [execOp, ho, resolve, invoke, builtin, hr.evv hx, hr.evv hy, hr.evv hz, hr.evv hu, Builtin.min_, m2, List.foldlM]
abbrev eB : BodyS → AV := fun x => .agg [avS x.part, avI x.wide, avI x.high]
def z0B : BodyS := ⟨⟨#[]⟩, 0, 0⟩
theorem flat_ly (xs : List LyS) : FlatA (rowL xs) := flat_rowL (fun x j hj => by
  match j, hj with
  | 0, _ => exact ⟨_, rfl⟩
  | 1, _ => exact ⟨_, rfl⟩
  | 2, _ => exact ⟨_, rfl⟩
  | 3, _ => exact ⟨_, rfl⟩
  | 4, _ => exact ⟨_, rfl⟩) xs
theorem flat_pair (xs : List PairS) : FlatA (rowL xs) := flat_rowL (fun x j hj => by
  match j, hj with
  | 0, _ => exact ⟨_, rfl⟩
  | 1, _ => exact ⟨_, rfl⟩) xs
theorem zero_body {w : World} {Z : Nat → Prop} {u : Value} (h : Rep w Z (.v (.agg #[.string ⟨#[]⟩, .int .i64 0, .int .i64 0])) u) : Rep w Z (eB z0B) u := by
  rw [h.eq_v]
  refine .agg _ _ rfl fun j hj => ?_
  match j, hj with
  | 0, _ => exact .v _
  | 1, _ => exact .v _
  | 2, _ => exact .v _
theorem look_none {w : World} {Z : Nat → Prop} {u : Value} (h : Rep w Z (.tup [.v (.agg #[.string ⟨#[]⟩, .int .i64 0, .int .i64 0]), avB false]) u) : Rep w Z (.tup [eB z0B, avB false]) u := by
  cases h with
  | tup cs us hl hr =>
    refine .tup _ _ hl fun j hj => ?_
    match j, hj with
    | 0, _ => exact zero_body (hr 0 (by simp))
    | 1, _ => exact hr 1 (by simp)
theorem bodM_mem : ∀ {l : List BodyS} {m : List (ByteArray × BodyS)} {k : ByteArray} {x : BodyS}, mget (l.foldl (fun m x => mput m x.part x) m) k = some x → x ∈ l ∨ mget m k = some x
  | [], m, k, x, h => .inr h
  | y :: l, m, k, x, h => by
    rcases bodM_mem (l := l) h with h | h
    · exact .inl (List.mem_cons_of_mem _ h)
    · rw [mget_mput] at h
      split at h
      · cases h; exact .inl (List.mem_cons_self ..)
      · exact .inr h
theorem bodM_in {b : List BodyS} {k : ByteArray} {x : BodyS} (h : mget (bodM b) k = some x) : x ∈ b := by
  rcases bodM_mem h with h | h
  · exact h
  · simp [mget] at h
theorem body_bd {b : List BodyS} (h : bodiesF b = 0) {x : BodyS} (hx : x ∈ b) : (1 ≤ x.wide ∧ x.wide ≤ 500000) ∧ 1 ≤ x.high ∧ x.high ≤ 500000 := by
  obtain ⟨j, hj, rfl⟩ := List.getElem_of_mem hx
  have := (bodyE_zero ((bodOk h).all j hj)).1
  rwa [List.getD_eq_getElem?_getD, List.getElem?_eq_getElem hj] at this
theorem bWH_bd {q : Int} {x : BodyS} (h : (1 ≤ x.wide ∧ x.wide ≤ 500000) ∧ 1 ≤ x.high ∧ x.high ≤ 500000) : (1 ≤ bW q x ∧ bW q x ≤ 500000) ∧ 1 ≤ bH q x ∧ bH q x ≤ 500000 := by
  unfold bW bH
  split <;> omega
theorem bodsE_1 {p : ProdS} {b : List BodyS} {n : Int} (h : prodF p ≠ 0) : bodsE p b n = prodF p := if_pos h
theorem bodsE_2 {p : ProdS} {b : List BodyS} {n : Int} (h : prodF p = 0) (h2 : bodiesF b ≠ 0) : bodsE p b n = bodiesF b := by rw [bodsE, if_neg (by omega), if_pos h2]
theorem bodsE_3 {p : ProdS} {b : List BodyS} {n : Int} (h : prodF p = 0) (h2 : bodiesF b = 0) : bodsE p b n = gapF n := by rw [bodsE, if_neg (by omega), if_neg (by omega)]
theorem bodsE_0 {p : ProdS} {b : List BodyS} {n : Int} (h : bodsE p b n = 0) : prodF p = 0 ∧ bodiesF b = 0 ∧ 0 ≤ n ∧ n ≤ 500000 := by
  unfold bodsE at h
  split at h
  · rename_i h1; exact absurd h h1
  · split at h
    · rename_i h1; exact absurd h h1
    · rename_i h1 h2
      unfold gapF at h
      split at h
      · cases h
      · rename_i h3
        simp only [outR, Bool.or_eq_true, decide_eq_true_eq, not_or] at h3
        exact ⟨by omega, by omega, by omega, by omega⟩
theorem lyR_no {p : ProdS} {b : List BodyS} {n : Int} (h : bodsE p b n ≠ 0) : lyR p b n = [] := if_neg h
theorem lyR_ok {p : ProdS} {b : List BodyS} {n : Int} (h : bodsE p b n = 0) : lyR p b n = lyL p b := if_pos h
theorem gapF_1 {n : Int} (h : (decide (n < 0) || decide (500000 < n)) = true) : gapF n = 1 := if_pos h
theorem gapF_0 {n : Int} (h : (decide (n < 0) || decide (500000 < n)) = false) : gapF n = 0 := if_neg (by show ¬ (decide (n < 0) || decide (500000 < n)) = true; rw [h]; simp)
theorem place_bd {p : ProdS} (h : prodF p = 0) {q : Nat} (hq : q < p.places.length) : (0 ≤ (p.places.getD q default).x ∧ (p.places.getD q default).x ≤ 500000) ∧ (0 ≤ (p.places.getD q default).y ∧ (p.places.getD q default).y ≤ 500000) ∧ (0 ≤ (p.places.getD q default).quarter ∧ (p.places.getD q default).quarter ≤ 3) := by
  have h1 := prodOk h
  have h2 := placeE_zero (h1.all q hq)
  have h3 := h1.wide
  have h4 := h1.high
  omega
theorem ly_none {p : ProdS} {b : List BodyS} {r : Nat} (h : r < p.places.length) (e : (mget (bodM b) (p.places.getD r default).part).isSome = false) : (p.places.take (r + 1)).filterMap (lyO b) = (p.places.take r).filterMap (lyO b) := by
  rw [lyL_take h]
  cases e2 : mget (bodM b) (p.places.getD r default).part with
  | none => simp
  | some x => rw [e2] at e; cases e
theorem ly_some {p : ProdS} {b : List BodyS} {r : Nat} (h : r < p.places.length) (e : (mget (bodM b) (p.places.getD r default).part).isSome = true) : (p.places.take (r + 1)).filterMap (lyO b) = (p.places.take r).filterMap (lyO b) ++ [lyOf (p.places.getD r default) (mgetD (bodM b) (p.places.getD r default).part z0B)] := by
  rw [lyL_take h]
  unfold mgetD
  cases e2 : mget (bodM b) (p.places.getD r default).part with
  | none => rw [e2] at e; cases e
  | some x => rfl
theorem mgetD_in {b : List BodyS} {k : ByteArray} (e : (mget (bodM b) k).isSome = true) : mgetD (bodM b) k z0B ∈ b := by
  unfold mgetD
  cases e2 : mget (bodM b) k with
  | none => rw [e2] at e; cases e
  | some x => exact bodM_in e2
set_option maxRecDepth 100000 in
set_option maxHeartbeats 4000000 in
theorem panel_bodies {p : ProdS} {b : List BodyS} {n : Int} (hs : SmP p) (hb : SmB b) :
    SpecN Tryd.prog 61 [avProd p, avL b, avI n] (fun y => y = .tup [avL (lyR p b n), avI (bodsE p b n)]) := by
  refine SpecN.of_VCN Tryd.func61 rfl Tryd.ntmps61 (Nat.le_of_ble_eq_true rfl) fun w A hB => ?_
  have hnew : True := trivial
  refine VC.seq ?_
  have hl := hs.len
  have hlb := hb.len
  refine VC.region ?_
  refine VO.op rfl (OpE.box rfl hB rfl rfl rfl ?_)
  intro g3
  refine VO.val rfl rfl (OpV.move (.inr rfl) rfl) ?_
  refine VO.val rfl rfl (OpV.move (.inr rfl) rfl) ?_
  refine VO.nil ?_
  show VC _ _ _ _ _
  refine VC.seq ?_
  refine VC.seq ?_
  refine VC.region ?_
  refine VO.val rfl rfl (OpV.loadK_own (i := 0) rfl hB Tryd.isAgg44 Tryd.sizeOf44 rfl rfl rfl (fun h => h)) ?_
  refine VO.op rfl (OpE.call rfl hB rfl Tryd.call68 rfl (SpecN.spec (panel_CheckProduct hs)) ?_)
  rintro _ rfl
  refine VO.val rfl rfl (OpV.move (.inr rfl) rfl) ?_
  refine VO.nil ?_
  show VC _ _ _ _ _
  refine VC.seq ?_
  refine VC.region ?_
  refine VO.val rfl rfl (OpV.move (.inl rfl) rfl) ?_
  refine VO.val rfl rfl (OpV.neq rfl rfl rfl) ?_
  refine VO.nil ?_
  show VC _ _ _ _ _
  refine VC.cond rfl (fun h0b => ?_) (fun h0b => ?_)
  · have h0 := h0b
    try simp only [decide_eq_true_eq, decide_eq_false_iff_not, Bool.not_eq_true', Bool.not_eq_false', Int.not_lt, Int.not_le] at h0
    refine VC.seq ?_
    refine VC.region ?_
    refine VO.val rfl rfl (OpV.move (.inl rfl) rfl) ?_
    refine VO.val rfl rfl (OpV.move (.inr rfl) rfl) ?_
    refine VO.val rfl rfl (OpV.move (.inr rfl) rfl) ?_
    refine VO.nil ?_
    show VC _ _ _ _ _
    refine VC.ret ?_
    exact Exists.intro _ (And.intro (RetN.two Tryd.results61 (ResN.nilE rfl) (ResN.v rfl)) (by rw [lyR_no (by rw [bodsE_1 h0]; exact h0), bodsE_1 h0]; rfl))
  · have h0 := h0b
    try simp only [decide_eq_true_eq, decide_eq_false_iff_not, Bool.not_eq_true', Bool.not_eq_false', Int.not_lt, Int.not_le] at h0
    have h00 : prodF p = 0 := by omega
    refine VC.skip ?_
    show VC _ _ _ _ _
    refine VC.seq ?_
    refine VC.seq ?_
    refine VC.region ?_
    refine VO.val rfl rfl (OpV.move (.inl rfl) rfl) ?_
    refine VO.op rfl (OpE.call rfl hB rfl Tryd.call75 rfl (SpecN.spec (panel_bodiesFault hb)) ?_)
    rintro _ rfl
    refine VO.val rfl rfl (OpV.move (.inr rfl) rfl) ?_
    refine VO.nil ?_
    show VC _ _ _ _ _
    refine VC.seq ?_
    refine VC.region ?_
    refine VO.val rfl rfl (OpV.move (.inl rfl) rfl) ?_
    refine VO.val rfl rfl (OpV.neq rfl rfl rfl) ?_
    refine VO.nil ?_
    show VC _ _ _ _ _
    refine VC.cond rfl (fun h1b => ?_) (fun h1b => ?_)
    · have h1 := h1b
      try simp only [decide_eq_true_eq, decide_eq_false_iff_not, Bool.not_eq_true', Bool.not_eq_false', Int.not_lt, Int.not_le] at h1
      refine VC.seq ?_
      refine VC.region ?_
      refine VO.val rfl rfl (OpV.move (.inl rfl) rfl) ?_
      refine VO.val rfl rfl (OpV.move (.inr rfl) rfl) ?_
      refine VO.val rfl rfl (OpV.move (.inr rfl) rfl) ?_
      refine VO.nil ?_
      show VC _ _ _ _ _
      refine VC.ret ?_
      exact Exists.intro _ (And.intro (RetN.two Tryd.results61 (ResN.nilE rfl) (ResN.v rfl)) (by rw [lyR_no (by rw [bodsE_2 h00 h1]; exact h1), bodsE_2 h00 h1]; rfl))
    · have h1 := h1b
      try simp only [decide_eq_true_eq, decide_eq_false_iff_not, Bool.not_eq_true', Bool.not_eq_false', Int.not_lt, Int.not_le] at h1
      have h11 : bodiesF b = 0 := by omega
      refine VC.skip ?_
      show VC _ _ _ _ _
      refine VC.seq ?_
      refine VC.seq ?_
      refine VC.region ?_
      refine VO.val rfl rfl (OpV.move (.inl rfl) rfl) ?_
      refine VO.op rfl (OpE.call rfl hB rfl Tryd.call73 rfl (SpecN.spec (kit_Outside)) ?_)
      rintro _ rfl
      refine VO.nil ?_
      show VC _ _ _ _ _
      refine VC.cond rfl (fun h2b => ?_) (fun h2b => ?_)
      · have h2 := h2b
        try simp only [decide_eq_true_eq, decide_eq_false_iff_not, Bool.not_eq_true', Bool.not_eq_false', Int.not_lt, Int.not_le] at h2
        refine VC.seq ?_
        refine VC.region ?_
        refine VO.val rfl rfl (OpV.move (.inr rfl) rfl) ?_
        refine VO.val rfl rfl (OpV.move (.inr rfl) rfl) ?_
        refine VO.nil ?_
        show VC _ _ _ _ _
        refine VC.ret ?_
        exact Exists.intro _ (And.intro (RetN.two Tryd.results61 (ResN.nilE rfl) (ResN.v rfl)) (by rw [lyR_no (by rw [bodsE_3 h00 h11, gapF_1 h2b]; decide), bodsE_3 h00 h11, gapF_1 h2b]; rfl))
      · have h2 := h2b
        try simp only [decide_eq_true_eq, decide_eq_false_iff_not, Bool.not_eq_true', Bool.not_eq_false', Int.not_lt, Int.not_le] at h2
        have hall : bodsE p b n = 0 := by rw [bodsE_3 h00 h11, gapF_0 h2b]
        refine VC.skip ?_
        show VC _ _ _ _ _
        refine VC.seq ?_
        refine VC.region ?_
        refine VO.op rfl (OpE.makeMap (kvS) (eB) rfl hB rfl ?_)
        intro g32
        refine VO.val rfl rfl (OpV.move (.inr rfl) rfl) ?_
        refine VO.nil ?_
        show VC _ _ _ _ _
        refine VC.seq ?_
        refine VC.seq ?_
        refine VC.region ?_
        refine VO.val rfl rfl (OpV.move (.inl rfl) rfl) ?_
        first
          | refine VO.val rfl rfl (OpV.len_im rfl Tryd.underlying64 rfl) ?_
          | refine VO.val rfl rfl (OpV.len_v rfl Tryd.underlying64 rfl) ?_
          | refine VO.val rfl rfl (OpV.len_row (i := 0) rfl Tryd.underlying64 rfl rfl) ?_
          | refine VO.val rfl rfl (OpV.len_row (i := 1) rfl Tryd.underlying64 rfl rfl) ?_
        refine VO.val rfl rfl (OpV.move (.inl rfl) rfl) ?_
        refine VO.nil ?_
        show VC _ _ _ _ _
        refine VC.block ?_
        refine VC.loopK [(3, _), (10, _), (33, _), (34, _)] ⟨rfl, rfl, rfl, rfl, trivial⟩ ({q : Nat // q ≤ b.length}) (fun (i : {q : Nat // q ≤ b.length}) => match i with | ⟨q, hq⟩ => [(35, avI (q : Int))]) (fun (i : {q : Nat // q ≤ b.length}) => match i with | ⟨q, hq⟩ => [boxProd g3 p 44, mapE kvS g32 eB (bodM (b.take q))]) (fun (i : {q : Nat // q ≤ b.length}) => match i with | ⟨q, hq⟩ => 0) (fun (i : {q : Nat // q ≤ b.length}) => match i with | ⟨q, hq⟩ => b.length - q) ⟨0, Nat.zero_le _⟩ (Le.mk hB [0, 1] ⟨rfl, rfl, rfl, rfl, rfl, trivial⟩ rfl rfl (Nat.le_refl _)) ?_
        rintro ⟨q, hq⟩
        show VC _ _ _ _ ⟨[(35, avI (q : Int))] ++ [(3, _), (10, _), (33, _), (34, _)], [boxProd g3 p 44, mapE kvS g32 eB (bodM (b.take q))], 0⟩
        refine VC.seq ?_
        refine VC.region ?_
        refine VO.val rfl rfl (OpV.lss rfl rfl rfl) ?_
        refine VO.nil ?_
        show VC _ _ _ _ _
        refine VC.seq ?_
        refine VC.cond rfl (fun aH1b => ?_) (fun aH1b => ?_)
        · have aH1 := aH1b
          try simp only [decide_eq_true_eq, decide_eq_false_iff_not, Bool.not_eq_true', Bool.not_eq_false', Int.not_lt, Int.not_le] at aH1
          refine VC.skip ?_
          show VC _ _ _ _ _
          refine VC.seq ?_
          refine VC.block ?_
          refine VC.seq ?_
          refine VC.region ?_
          first
            | refine VO.val rfl rfl (OpV.indexAddr_E rfl Tryd.underlying64 Tryd.sizeOf117 rfl rfl rfl (by omega)) ?_
            | refine VO.val rfl rfl (OpV.indexAddr_E rfl Tryd.underlying64 Tryd.sizeOf117 rfl rfl (Int.toNat_of_nonneg (by omega)).symm (by omega)) ?_
            | refine VO.val rfl rfl (OpV.indexAddr_q rfl Tryd.underlying64 Tryd.sizeOf117 rfl rfl rfl (by omega)) ?_
            | refine VO.val rfl rfl (OpV.indexAddr_q rfl Tryd.underlying64 Tryd.sizeOf117 rfl rfl (Int.toNat_of_nonneg (by omega)).symm (by omega)) ?_
            | refine VO.val rfl rfl (OpV.indexAddr_im rfl Tryd.underlying64 Tryd.sizeOf117 rfl rfl (by omega) (by omega)) ?_
          first
            | refine VO.val rfl rfl (OpV.loadK_at rfl hB OutW.no Tryd.isAgg117 Tryd.sizeOf117 rfl rfl) ?_
            | refine VO.val rfl rfl (OpV.loadK_own (i := 0) rfl hB Tryd.isAgg117 Tryd.sizeOf117 rfl rfl rfl (fun h => h)) ?_
            | refine VO.val rfl rfl (OpV.loadK_own (i := 1) rfl hB Tryd.isAgg117 Tryd.sizeOf117 rfl rfl rfl (fun h => h)) ?_
          refine VO.op rfl (OpE.alloc rfl hB rfl Tryd.zeroValue117 rfl ?_)
          intro g12
          refine VO.op rfl (OpE.store (i := 2) rfl hB rfl Tryd.sizeOf117 rfl rfl rfl rfl rfl rfl (Nat.le_of_ble_eq_true rfl) trivial ?_)
          refine VO.nil ?_
          show VC _ _ _ _ _
          refine VC.region ?_
          refine VO.val rfl rfl (OpV.move (.inl rfl) rfl) ?_
          first
            | refine VO.val rfl rfl (OpV.fieldAddr_atO 0 rfl Tryd.underlying117 rfl rfl Tryd.sizeOf9 rfl rfl) ?_
            | refine VO.val rfl rfl (OpV.fieldAddrO 0 rfl Tryd.underlying117 rfl rfl Tryd.sizeOf9 rfl) ?_
          refine VO.val rfl rfl (OpV.load_own (i := 2) rfl hB Tryd.isAgg9 rfl rfl rfl (fun h => h)) ?_
          refine VO.val rfl rfl (OpV.loadK_own (i := 2) rfl hB Tryd.isAgg117 Tryd.sizeOf117 rfl rfl rfl (fun h => h)) ?_
          first
            | refine VO.op rfl (OpE.mapUpdate (i := 0) (xx := b.getD q default) rfl hB rfl Tryd.underlying136 (KeyOk.str Tryd.underlying9) rfl (KeyE.v rfl) rfl rfl trivial ?_)
            | refine VO.op rfl (OpE.mapUpdate (i := 1) (xx := b.getD q default) rfl hB rfl Tryd.underlying136 (KeyOk.str Tryd.underlying9) rfl (KeyE.v rfl) rfl rfl trivial ?_)
            | refine VO.op rfl (OpE.mapUpdate (i := 2) (xx := b.getD q default) rfl hB rfl Tryd.underlying136 (KeyOk.str Tryd.underlying9) rfl (KeyE.v rfl) rfl rfl trivial ?_)
          refine VO.nil ?_
          show VC _ _ _ _ _
          refine VC.region ?_
          refine VO.val rfl rfl (OpV.add rfl rfl rfl (by unfold fits; omega)) ?_
          refine VO.val rfl rfl (OpV.move (.inl rfl) rfl) ?_
          refine VO.nil ?_
          exact Exists.intro (⟨q + 1, by omega⟩) (And.intro (Le.mk hB [0, 1] ⟨rfl, rfl, rfl, rfl, rfl, trivial⟩ rfl (by dsimp only; rw [bodM_take (by omega)]; rfl) (Nat.le_refl _)) (by first | omega | (show _ < _; omega) | (simp only []; omega)))
        · have aH1 := aH1b
          try simp only [decide_eq_true_eq, decide_eq_false_iff_not, Bool.not_eq_true', Bool.not_eq_false', Int.not_lt, Int.not_le] at aH1
          refine VC.exit ?_
          show VC _ _ _ _ _
          refine VC.seq ?_
          have hqe : b.take q = b := List.take_of_length_le (by omega)
          rw [hqe]
          refine VC.region ?_
          refine VO.val rfl rfl (OpV.move (.inr rfl) rfl) ?_
          refine VO.nil ?_
          show VC _ _ _ _ _
          refine VC.seq ?_
          refine VC.seq ?_
          refine VC.region ?_
          first
            | refine VO.val rfl rfl (OpV.fieldAddr_atO 3 rfl Tryd.underlying44 rfl rfl Tryd.sizeOf42 rfl rfl) ?_
            | refine VO.val rfl rfl (OpV.fieldAddrO 3 rfl Tryd.underlying44 rfl rfl Tryd.sizeOf42 rfl) ?_
          first
            | refine VO.val rfl rfl (OpV.load_at rfl hB OutW.no Tryd.isAgg42 rfl rfl) ?_
            | refine VO.val rfl rfl (OpV.load_own (i := 0) rfl hB Tryd.isAgg42 rfl rfl rfl (fun h => h)) ?_
            | refine VO.val rfl rfl (OpV.load_own (i := 1) rfl hB Tryd.isAgg42 rfl rfl rfl (fun h => h)) ?_
          first
            | refine VO.val rfl rfl (OpV.len_im rfl Tryd.underlying42 rfl) ?_
            | refine VO.val rfl rfl (OpV.len_v rfl Tryd.underlying42 rfl) ?_
            | refine VO.val rfl rfl (OpV.len_row (i := 0) rfl Tryd.underlying42 rfl rfl) ?_
            | refine VO.val rfl rfl (OpV.len_row (i := 1) rfl Tryd.underlying42 rfl rfl) ?_
          refine VO.val rfl rfl (OpV.move (.inl rfl) rfl) ?_
          refine VO.nil ?_
          show VC _ _ _ _ _
          refine VC.block ?_
          refine VC.le _ (Le.nilRow 5 123) ?_
          refine VC.loopK [(10, _), (45, _), (46, _)] ⟨rfl, rfl, rfl, trivial⟩ ({z : Value × Nat // z.2 ≤ p.places.length}) (fun (i : {z : Value × Nat // z.2 ≤ p.places.length}) => match i with | ⟨⟨u, r⟩, hr⟩ => [(13, .v u), (47, avI (r : Int))]) (fun (i : {z : Value × Nat // z.2 ≤ p.places.length}) => match i with | ⟨⟨u, r⟩, hr⟩ => [mapE kvS g32 eB (bodM b), .row u ((p.places.take r).filterMap (lyO b)).length 5 (rowL ((p.places.take r).filterMap (lyO b))) 123]) (fun (i : {z : Value × Nat // z.2 ≤ p.places.length}) => match i with | ⟨⟨u, r⟩, hr⟩ => 0) (fun (i : {z : Value × Nat // z.2 ≤ p.places.length}) => match i with | ⟨⟨u, r⟩, hr⟩ => p.places.length - r) ⟨(.slice none 0 0, 0), Nat.zero_le _⟩ (Le.mk hB [1, 2] ⟨rfl, rfl, rfl, rfl, rfl, trivial⟩ rfl rfl (Nat.le_refl _)) ?_
          rintro ⟨⟨u, r⟩, hr⟩
          show VC _ _ _ _ ⟨[(13, .v u), (47, avI (r : Int))] ++ [(10, _), (45, _), (46, _)], [mapE kvS g32 eB (bodM b), .row u ((p.places.take r).filterMap (lyO b)).length 5 (rowL ((p.places.take r).filterMap (lyO b))) 123], 0⟩
          simp only at hr
          have hfl := List.length_filterMap_le (lyO b) (p.places.take r)
          have htl := List.length_take_le r p.places
          refine VC.seq ?_
          refine VC.region ?_
          refine VO.val rfl rfl (OpV.lss rfl rfl rfl) ?_
          refine VO.nil ?_
          show VC _ _ _ _ _
          refine VC.seq ?_
          refine VC.cond rfl (fun aH2b => ?_) (fun aH2b => ?_)
          · have aH2 := aH2b
            try simp only [decide_eq_true_eq, decide_eq_false_iff_not, Bool.not_eq_true', Bool.not_eq_false', Int.not_lt, Int.not_le] at aH2
            refine VC.skip ?_
            show VC _ _ _ _ _
            refine VC.seq ?_
            refine VC.block ?_
            refine VC.seq ?_
            refine VC.region ?_
            first
              | refine VO.val rfl rfl (OpV.indexAddr_E rfl Tryd.underlying42 Tryd.sizeOf100 rfl rfl rfl (by omega)) ?_
              | refine VO.val rfl rfl (OpV.indexAddr_E rfl Tryd.underlying42 Tryd.sizeOf100 rfl rfl (Int.toNat_of_nonneg (by omega)).symm (by omega)) ?_
              | refine VO.val rfl rfl (OpV.indexAddr_q rfl Tryd.underlying42 Tryd.sizeOf100 rfl rfl rfl (by omega)) ?_
              | refine VO.val rfl rfl (OpV.indexAddr_q rfl Tryd.underlying42 Tryd.sizeOf100 rfl rfl (Int.toNat_of_nonneg (by omega)).symm (by omega)) ?_
              | refine VO.val rfl rfl (OpV.indexAddr_im rfl Tryd.underlying42 Tryd.sizeOf100 rfl rfl (by omega) (by omega)) ?_
            first
              | refine VO.val rfl rfl (OpV.loadK_at rfl hB OutW.no Tryd.isAgg100 Tryd.sizeOf100 rfl rfl) ?_
              | refine VO.val rfl rfl (OpV.loadK_own (i := 0) rfl hB Tryd.isAgg100 Tryd.sizeOf100 rfl rfl rfl (fun h => h)) ?_
              | refine VO.val rfl rfl (OpV.loadK_own (i := 1) rfl hB Tryd.isAgg100 Tryd.sizeOf100 rfl rfl rfl (fun h => h)) ?_
            refine VO.op rfl (OpE.alloc rfl hB rfl Tryd.zeroValue100 rfl ?_)
            intro g15
            refine VO.op rfl (OpE.store (i := 2) rfl hB rfl Tryd.sizeOf100 rfl rfl rfl rfl rfl rfl (Nat.le_of_ble_eq_true rfl) trivial ?_)
            refine VO.nil ?_
            show VC _ _ _ _ _
            refine VC.seq ?_
            refine VC.region ?_
            refine VO.val rfl rfl (OpV.move (.inl rfl) rfl) ?_
            first
              | refine VO.val rfl rfl (OpV.fieldAddr_atO 1 rfl Tryd.underlying100 rfl rfl Tryd.sizeOf9 rfl rfl) ?_
              | refine VO.val rfl rfl (OpV.fieldAddrO 1 rfl Tryd.underlying100 rfl rfl Tryd.sizeOf9 rfl) ?_
            refine VO.val rfl rfl (OpV.load_own (i := 2) rfl hB Tryd.isAgg9 rfl rfl rfl (fun h => h)) ?_
            first
              | refine VO.val rfl rfl (OpV.lookup_ok (i := 0) rfl hB Tryd.underlying136 (KeyOk.str Tryd.underlying9) Tryd.zeroValue117 rfl (KeyE.v rfl) rfl (fun h => h)) ?_
              | refine VO.val rfl rfl (OpV.lookup_ok (i := 1) rfl hB Tryd.underlying136 (KeyOk.str Tryd.underlying9) Tryd.zeroValue117 rfl (KeyE.v rfl) rfl (fun h => h)) ?_
              | refine VO.val rfl rfl (OpV.lookup_ok (i := 2) rfl hB Tryd.underlying136 (KeyOk.str Tryd.underlying9) Tryd.zeroValue117 rfl (KeyE.v rfl) rfl (fun h => h)) ?_
            refine VO.le _ (Le.recast (t := 55) (y := .tup [eB (mgetD (bodM b) (p.places.getD r default).part z0B), avB (mget (bodM b) (p.places.getD r default).part).isSome]) rfl (fun w Z u h => by unfold mgetD; revert h; cases mget (bodM b) (p.places.getD r default).part with | some v => exact id | none => exact look_none)) ?_
            refine VO.val rfl rfl (OpV.move (.inl rfl) rfl) ?_
            first
              | refine VO.val rfl rfl (OpV.extract rfl rfl rfl) ?_
              | refine VO.val rfl rfl (OpV.extract_v rfl rfl rfl) ?_
            first
              | refine VO.val rfl rfl (OpV.extract rfl rfl rfl) ?_
              | refine VO.val rfl rfl (OpV.extract_v rfl rfl rfl) ?_
            refine VO.op rfl (OpE.alloc rfl hB rfl Tryd.zeroValue117 rfl ?_)
            intro g16
            refine VO.op rfl (OpE.store (i := 3) rfl hB rfl Tryd.sizeOf117 rfl rfl rfl rfl rfl rfl (Nat.le_of_ble_eq_true rfl) trivial ?_)
            refine VO.val rfl rfl (OpV.move (.inr rfl) rfl) ?_
            refine VO.nil ?_
            show VC _ _ _ _ _
            refine VC.seq ?_
            refine VC.seq ?_
            refine VC.region ?_
            refine VO.val rfl rfl (OpV.move (.inl rfl) rfl) ?_
            refine VO.val rfl rfl (OpV.not rfl rfl) ?_
            refine VO.nil ?_
            show VC _ _ _ _ _
            refine VC.cond rfl (fun h5b => ?_) (fun h5b => ?_)
            · have h5 := h5b
              try simp only [decide_eq_true_eq, decide_eq_false_iff_not, Bool.not_eq_true', Bool.not_eq_false', Int.not_lt, Int.not_le] at h5
              have h5b : (mget (bodM b) (p.places.getD r default).part).isSome = false := by simpa using h5
              refine VC.exit ?_
              show VC _ _ _ _ _
              refine VC.region ?_
              refine VO.val rfl rfl (OpV.add rfl rfl rfl (by unfold fits; omega)) ?_
              refine VO.val rfl rfl (OpV.move (.inl rfl) rfl) ?_
              refine VO.nil ?_
              first
                | exact Exists.intro (⟨(u2, r + 1), by show r + 1 ≤ _; omega⟩) (And.intro (Le.mk hB [0, 1] ⟨rfl, rfl, rfl, rfl, rfl, trivial⟩ rfl (by dsimp only; first | (rw [ly_some (by omega) h5t]; rw [List.length_append]; rfl) | (rw [ly_none (by omega) h5b]; rfl)) (Nat.le_refl _)) (by first | omega | (show _ < _; omega) | (simp only []; omega)))
                | exact Exists.intro (⟨(u, r + 1), by show r + 1 ≤ _; omega⟩) (And.intro (Le.mk hB [0, 1] ⟨rfl, rfl, rfl, rfl, rfl, trivial⟩ rfl (by dsimp only; first | (rw [ly_some (by omega) h5t]; rw [List.length_append]; rfl) | (rw [ly_none (by omega) h5b]; rfl)) (Nat.le_refl _)) (by first | omega | (show _ < _; omega) | (simp only []; omega)))
            · have h5 := h5b
              try simp only [decide_eq_true_eq, decide_eq_false_iff_not, Bool.not_eq_true', Bool.not_eq_false', Int.not_lt, Int.not_le] at h5
              have h5t : (mget (bodM b) (p.places.getD r default).part).isSome = true := by simpa using h5
              have hbd := body_bd h11 (mgetD_in h5t)
              have hpl := place_bd h00 (q := r) (by omega)
              obtain ⟨d, hd⟩ : ∃ d, mgetD (bodM b) (p.places.getD r default).part z0B = d := ⟨_, rfl⟩
              rw [hd] at hbd
              have hwh := bWH_bd (q := (p.places.getD r default).quarter) hbd
              refine VC.skip ?_
              show VC _ _ _ _ _
              refine VC.seq ?_
              refine VC.draw (fun _ => NoB) hB (by kernel_rfl) ?_
              first
                | refine VA.take (i := 0) rfl (by kernel_rfl) (by kernel_rfl) (by kernel_rfl) rfl rfl (OpV.fieldAddr_atO 1 rfl Tryd.underlying117 rfl rfl Tryd.sizeOf3 rfl rfl) ?_
                | refine VA.take (i := 0) rfl (by kernel_rfl) (by kernel_rfl) (by kernel_rfl) rfl rfl (OpV.fieldAddrO 1 rfl Tryd.underlying117 rfl rfl Tryd.sizeOf3 rfl) ?_
              refine VA.take (i := 1) rfl (by kernel_rfl) (by kernel_rfl) (by kernel_rfl) rfl rfl (OpV.load_own (i := 3) rfl hB Tryd.isAgg3 rfl rfl rfl Wi.not0) ?_
              first
                | refine VA.take (i := 2) rfl (by kernel_rfl) (by kernel_rfl) (by kernel_rfl) rfl rfl (OpV.fieldAddr_atO 2 rfl Tryd.underlying117 rfl rfl Tryd.sizeOf3 rfl rfl) ?_
                | refine VA.take (i := 2) rfl (by kernel_rfl) (by kernel_rfl) (by kernel_rfl) rfl rfl (OpV.fieldAddrO 2 rfl Tryd.underlying117 rfl rfl Tryd.sizeOf3 rfl) ?_
              refine VA.take (i := 3) rfl (by kernel_rfl) (by kernel_rfl) (by kernel_rfl) rfl rfl (OpV.load_own (i := 3) rfl hB Tryd.isAgg3 rfl rfl rfl Wi.not0) ?_
              refine VA.take (i := 4) rfl (by kernel_rfl) (by kernel_rfl) (by kernel_rfl) rfl rfl (OpV.move (.inr rfl) rfl) ?_
              refine VA.take (i := 5) rfl (by kernel_rfl) (by kernel_rfl) (by kernel_rfl) rfl rfl (OpV.move (.inr rfl) rfl) ?_
              refine VA.done (by kernel_rfl) ?_
              show VC _ _ _ _ _
              refine VC.seq ?_
              refine VC.seq ?_
              refine VC.region ?_
              first
                | refine VO.val rfl rfl (OpV.fieldAddr_atO 4 rfl Tryd.underlying100 rfl rfl Tryd.sizeOf3 rfl rfl) ?_
                | refine VO.val rfl rfl (OpV.fieldAddrO 4 rfl Tryd.underlying100 rfl rfl Tryd.sizeOf3 rfl) ?_
              refine VO.val rfl rfl (OpV.load_own (i := 2) rfl hB Tryd.isAgg3 rfl rfl rfl (fun h => h)) ?_
              refine VO.val rfl rfl (OpV.rem rfl rfl rfl (by omega) (by have h9 := Int.tmod_eq_emod_of_nonneg (a := (p.places.getD r default).quarter) (b := 2) (by omega); unfold fits; omega)) ?_
              refine VO.val rfl rfl (OpV.eql rfl rfl rfl) ?_
              refine VO.nil ?_
              show VC _ _ _ _ _
              refine VC.cond rfl (fun h6b => ?_) (fun h6b => ?_)
              · have h6 := h6b
                try simp only [decide_eq_true_eq, decide_eq_false_iff_not, Bool.not_eq_true', Bool.not_eq_false', Int.not_lt, Int.not_le] at h6
                refine VC.region ?_
                refine VO.val rfl rfl (OpV.move (.inl rfl) rfl) ?_
                refine VO.val rfl rfl (OpV.move (.inl rfl) rfl) ?_
                refine VO.val rfl rfl (OpV.move (.inr rfl) rfl) ?_
                refine VO.val rfl rfl (OpV.move (.inr rfl) rfl) ?_
                refine VO.nil ?_
                show VC _ _ _ _ _
                first
                  | refine VC.le _ (Le.recast (t := 18) (y := avI (bW (p.places.getD r default).quarter (mgetD (bodM b) (p.places.getD r default).part z0B))) rfl (fun w Z u h => by rw [bW, if_pos h6]; exact h)) ?_
                  | refine VC.le _ (Le.recast (t := 18) (y := avI (bW (p.places.getD r default).quarter (mgetD (bodM b) (p.places.getD r default).part z0B))) rfl (fun w Z u h => by rw [bW, if_neg h6]; exact h)) ?_
                first
                  | refine VC.le _ (Le.recast (t := 19) (y := avI (bH (p.places.getD r default).quarter (mgetD (bodM b) (p.places.getD r default).part z0B))) rfl (fun w Z u h => by rw [bH, if_pos h6]; exact h)) ?_
                  | refine VC.le _ (Le.recast (t := 19) (y := avI (bH (p.places.getD r default).quarter (mgetD (bodM b) (p.places.getD r default).part z0B))) rfl (fun w Z u h => by rw [bH, if_neg h6]; exact h)) ?_
                refine VC.region ?_
                refine VO.val rfl rfl (OpV.move (.inl rfl) rfl) ?_
                first
                  | refine VO.val rfl rfl (OpV.fieldAddr_atO 0 rfl Tryd.underlying100 rfl rfl Tryd.sizeOf9 rfl rfl) ?_
                  | refine VO.val rfl rfl (OpV.fieldAddrO 0 rfl Tryd.underlying100 rfl rfl Tryd.sizeOf9 rfl) ?_
                refine VO.val rfl rfl (OpV.load_own (i := 2) rfl hB Tryd.isAgg9 rfl rfl rfl (fun h => h)) ?_
                first
                  | refine VO.val rfl rfl (OpV.fieldAddr_atO 2 rfl Tryd.underlying100 rfl rfl Tryd.sizeOf3 rfl rfl) ?_
                  | refine VO.val rfl rfl (OpV.fieldAddrO 2 rfl Tryd.underlying100 rfl rfl Tryd.sizeOf3 rfl) ?_
                refine VO.val rfl rfl (OpV.load_own (i := 2) rfl hB Tryd.isAgg3 rfl rfl rfl (fun h => h)) ?_
                refine VO.val rfl rfl (OpV.mul rfl rfl rfl (by unfold fits; omega)) ?_
                refine VO.val rfl rfl (OpV.move (.inl rfl) rfl) ?_
                refine VO.val rfl rfl (OpV.sub rfl rfl rfl (by rw [← hd] at hwh; unfold fits; omega)) ?_
                first
                  | refine VO.val rfl rfl (OpV.fieldAddr_atO 2 rfl Tryd.underlying100 rfl rfl Tryd.sizeOf3 rfl rfl) ?_
                  | refine VO.val rfl rfl (OpV.fieldAddrO 2 rfl Tryd.underlying100 rfl rfl Tryd.sizeOf3 rfl) ?_
                refine VO.val rfl rfl (OpV.load_own (i := 2) rfl hB Tryd.isAgg3 rfl rfl rfl (fun h => h)) ?_
                refine VO.val rfl rfl (OpV.mul rfl rfl rfl (by unfold fits; omega)) ?_
                refine VO.val rfl rfl (OpV.move (.inl rfl) rfl) ?_
                refine VO.val rfl rfl (OpV.add rfl rfl rfl (by rw [← hd] at hwh; unfold fits; omega)) ?_
                first
                  | refine VO.val rfl rfl (OpV.fieldAddr_atO 3 rfl Tryd.underlying100 rfl rfl Tryd.sizeOf3 rfl rfl) ?_
                  | refine VO.val rfl rfl (OpV.fieldAddrO 3 rfl Tryd.underlying100 rfl rfl Tryd.sizeOf3 rfl) ?_
                refine VO.val rfl rfl (OpV.load_own (i := 2) rfl hB Tryd.isAgg3 rfl rfl rfl (fun h => h)) ?_
                refine VO.val rfl rfl (OpV.mul rfl rfl rfl (by unfold fits; omega)) ?_
                refine VO.val rfl rfl (OpV.move (.inl rfl) rfl) ?_
                refine VO.val rfl rfl (OpV.sub rfl rfl rfl (by rw [← hd] at hwh; unfold fits; omega)) ?_
                first
                  | refine VO.val rfl rfl (OpV.fieldAddr_atO 3 rfl Tryd.underlying100 rfl rfl Tryd.sizeOf3 rfl rfl) ?_
                  | refine VO.val rfl rfl (OpV.fieldAddrO 3 rfl Tryd.underlying100 rfl rfl Tryd.sizeOf3 rfl) ?_
                refine VO.val rfl rfl (OpV.load_own (i := 2) rfl hB Tryd.isAgg3 rfl rfl rfl (fun h => h)) ?_
                refine VO.val rfl rfl (OpV.mul rfl rfl rfl (by unfold fits; omega)) ?_
                refine VO.val rfl rfl (OpV.move (.inl rfl) rfl) ?_
                refine VO.val rfl rfl (OpV.add rfl rfl rfl (by rw [← hd] at hwh; unfold fits; omega)) ?_
                refine VO.val rfl rfl (OpV.build (pls := #[(0, 1), (1, 1), (2, 1), (3, 1), (4, 1)]) rfl Tryd.zeroValue123 Tryd.underlying123 (fun w => by kernel_rfl) rfl rfl) ?_
                refine VO.op rfl (OpE.buildSlice (zc := #[.string ⟨#[]⟩, .int .i64 0, .int .i64 0, .int .i64 0, .int .i64 0]) rfl hB rfl Tryd.underlying119 Tryd.sizeOf123 Tryd.zeroValue123 (by decide) (by decide) (by kernel_rfl) rfl rfl ?_)
                first
                  | refine VO.op rfl (OpE.append1 (i := 0) rfl hB rfl Tryd.underlying119 (infoOf Tryd.t123 5 (by kernel_rfl) rfl rfl) rfl (by decide) (by decide) rfl rfl rfl rfl (rowL_snoc _ (lyOf (p.places.getD r default) (mgetD (bodM b) (p.places.getD r default).part z0B))) (by omega) (fun _ _ => trivial) ?_)
                  | refine VO.op rfl (OpE.append1 (i := 1) rfl hB rfl Tryd.underlying119 (infoOf Tryd.t123 5 (by kernel_rfl) rfl rfl) rfl (by decide) (by decide) rfl rfl rfl rfl (rowL_snoc _ (lyOf (p.places.getD r default) (mgetD (bodM b) (p.places.getD r default).part z0B))) (by omega) (fun _ _ => trivial) ?_)
                  | refine VO.op rfl (OpE.append1 (i := 2) rfl hB rfl Tryd.underlying119 (infoOf Tryd.t123 5 (by kernel_rfl) rfl rfl) rfl (by decide) (by decide) rfl rfl rfl rfl (rowL_snoc _ (lyOf (p.places.getD r default) (mgetD (bodM b) (p.places.getD r default).part z0B))) (by omega) (fun _ _ => trivial) ?_)
                  | refine VO.op rfl (OpE.append1 (i := 3) rfl hB rfl Tryd.underlying119 (infoOf Tryd.t123 5 (by kernel_rfl) rfl rfl) rfl (by decide) (by decide) rfl rfl rfl rfl (rowL_snoc _ (lyOf (p.places.getD r default) (mgetD (bodM b) (p.places.getD r default).part z0B))) (by omega) (fun _ _ => trivial) ?_)
                intro u2
                refine VO.val rfl rfl (OpV.move (.inr rfl) rfl) ?_
                refine VO.nil ?_
                show VC _ _ _ _ _
                refine VC.region ?_
                refine VO.val rfl rfl (OpV.add rfl rfl rfl (by unfold fits; omega)) ?_
                refine VO.val rfl rfl (OpV.move (.inl rfl) rfl) ?_
                refine VO.nil ?_
                first
                  | exact Exists.intro (⟨(u2, r + 1), by show r + 1 ≤ _; omega⟩) (And.intro (Le.mk hB [0, 1] ⟨rfl, rfl, rfl, rfl, rfl, trivial⟩ rfl (by dsimp only; first | (rw [ly_some (by omega) h5t]; rw [List.length_append]; rfl) | (rw [ly_none (by omega) h5b]; rfl)) (Nat.le_refl _)) (by first | omega | (show _ < _; omega) | (simp only []; omega)))
                  | exact Exists.intro (⟨(u, r + 1), by show r + 1 ≤ _; omega⟩) (And.intro (Le.mk hB [0, 1] ⟨rfl, rfl, rfl, rfl, rfl, trivial⟩ rfl (by dsimp only; first | (rw [ly_some (by omega) h5t]; rw [List.length_append]; rfl) | (rw [ly_none (by omega) h5b]; rfl)) (Nat.le_refl _)) (by first | omega | (show _ < _; omega) | (simp only []; omega)))
              · have h6 := h6b
                try simp only [decide_eq_true_eq, decide_eq_false_iff_not, Bool.not_eq_true', Bool.not_eq_false', Int.not_lt, Int.not_le] at h6
                refine VC.skip ?_
                show VC _ _ _ _ _
                first
                  | refine VC.le _ (Le.recast (t := 18) (y := avI (bW (p.places.getD r default).quarter (mgetD (bodM b) (p.places.getD r default).part z0B))) rfl (fun w Z u h => by rw [bW, if_pos h6]; exact h)) ?_
                  | refine VC.le _ (Le.recast (t := 18) (y := avI (bW (p.places.getD r default).quarter (mgetD (bodM b) (p.places.getD r default).part z0B))) rfl (fun w Z u h => by rw [bW, if_neg h6]; exact h)) ?_
                first
                  | refine VC.le _ (Le.recast (t := 19) (y := avI (bH (p.places.getD r default).quarter (mgetD (bodM b) (p.places.getD r default).part z0B))) rfl (fun w Z u h => by rw [bH, if_pos h6]; exact h)) ?_
                  | refine VC.le _ (Le.recast (t := 19) (y := avI (bH (p.places.getD r default).quarter (mgetD (bodM b) (p.places.getD r default).part z0B))) rfl (fun w Z u h => by rw [bH, if_neg h6]; exact h)) ?_
                refine VC.region ?_
                refine VO.val rfl rfl (OpV.move (.inl rfl) rfl) ?_
                first
                  | refine VO.val rfl rfl (OpV.fieldAddr_atO 0 rfl Tryd.underlying100 rfl rfl Tryd.sizeOf9 rfl rfl) ?_
                  | refine VO.val rfl rfl (OpV.fieldAddrO 0 rfl Tryd.underlying100 rfl rfl Tryd.sizeOf9 rfl) ?_
                refine VO.val rfl rfl (OpV.load_own (i := 2) rfl hB Tryd.isAgg9 rfl rfl rfl (fun h => h)) ?_
                first
                  | refine VO.val rfl rfl (OpV.fieldAddr_atO 2 rfl Tryd.underlying100 rfl rfl Tryd.sizeOf3 rfl rfl) ?_
                  | refine VO.val rfl rfl (OpV.fieldAddrO 2 rfl Tryd.underlying100 rfl rfl Tryd.sizeOf3 rfl) ?_
                refine VO.val rfl rfl (OpV.load_own (i := 2) rfl hB Tryd.isAgg3 rfl rfl rfl (fun h => h)) ?_
                refine VO.val rfl rfl (OpV.mul rfl rfl rfl (by unfold fits; omega)) ?_
                refine VO.val rfl rfl (OpV.move (.inl rfl) rfl) ?_
                refine VO.val rfl rfl (OpV.sub rfl rfl rfl (by rw [← hd] at hwh; unfold fits; omega)) ?_
                first
                  | refine VO.val rfl rfl (OpV.fieldAddr_atO 2 rfl Tryd.underlying100 rfl rfl Tryd.sizeOf3 rfl rfl) ?_
                  | refine VO.val rfl rfl (OpV.fieldAddrO 2 rfl Tryd.underlying100 rfl rfl Tryd.sizeOf3 rfl) ?_
                refine VO.val rfl rfl (OpV.load_own (i := 2) rfl hB Tryd.isAgg3 rfl rfl rfl (fun h => h)) ?_
                refine VO.val rfl rfl (OpV.mul rfl rfl rfl (by unfold fits; omega)) ?_
                refine VO.val rfl rfl (OpV.move (.inl rfl) rfl) ?_
                refine VO.val rfl rfl (OpV.add rfl rfl rfl (by rw [← hd] at hwh; unfold fits; omega)) ?_
                first
                  | refine VO.val rfl rfl (OpV.fieldAddr_atO 3 rfl Tryd.underlying100 rfl rfl Tryd.sizeOf3 rfl rfl) ?_
                  | refine VO.val rfl rfl (OpV.fieldAddrO 3 rfl Tryd.underlying100 rfl rfl Tryd.sizeOf3 rfl) ?_
                refine VO.val rfl rfl (OpV.load_own (i := 2) rfl hB Tryd.isAgg3 rfl rfl rfl (fun h => h)) ?_
                refine VO.val rfl rfl (OpV.mul rfl rfl rfl (by unfold fits; omega)) ?_
                refine VO.val rfl rfl (OpV.move (.inl rfl) rfl) ?_
                refine VO.val rfl rfl (OpV.sub rfl rfl rfl (by rw [← hd] at hwh; unfold fits; omega)) ?_
                first
                  | refine VO.val rfl rfl (OpV.fieldAddr_atO 3 rfl Tryd.underlying100 rfl rfl Tryd.sizeOf3 rfl rfl) ?_
                  | refine VO.val rfl rfl (OpV.fieldAddrO 3 rfl Tryd.underlying100 rfl rfl Tryd.sizeOf3 rfl) ?_
                refine VO.val rfl rfl (OpV.load_own (i := 2) rfl hB Tryd.isAgg3 rfl rfl rfl (fun h => h)) ?_
                refine VO.val rfl rfl (OpV.mul rfl rfl rfl (by unfold fits; omega)) ?_
                refine VO.val rfl rfl (OpV.move (.inl rfl) rfl) ?_
                refine VO.val rfl rfl (OpV.add rfl rfl rfl (by rw [← hd] at hwh; unfold fits; omega)) ?_
                refine VO.val rfl rfl (OpV.build (pls := #[(0, 1), (1, 1), (2, 1), (3, 1), (4, 1)]) rfl Tryd.zeroValue123 Tryd.underlying123 (fun w => by kernel_rfl) rfl rfl) ?_
                refine VO.op rfl (OpE.buildSlice (zc := #[.string ⟨#[]⟩, .int .i64 0, .int .i64 0, .int .i64 0, .int .i64 0]) rfl hB rfl Tryd.underlying119 Tryd.sizeOf123 Tryd.zeroValue123 (by decide) (by decide) (by kernel_rfl) rfl rfl ?_)
                first
                  | refine VO.op rfl (OpE.append1 (i := 0) rfl hB rfl Tryd.underlying119 (infoOf Tryd.t123 5 (by kernel_rfl) rfl rfl) rfl (by decide) (by decide) rfl rfl rfl rfl (rowL_snoc _ (lyOf (p.places.getD r default) (mgetD (bodM b) (p.places.getD r default).part z0B))) (by omega) (fun _ _ => trivial) ?_)
                  | refine VO.op rfl (OpE.append1 (i := 1) rfl hB rfl Tryd.underlying119 (infoOf Tryd.t123 5 (by kernel_rfl) rfl rfl) rfl (by decide) (by decide) rfl rfl rfl rfl (rowL_snoc _ (lyOf (p.places.getD r default) (mgetD (bodM b) (p.places.getD r default).part z0B))) (by omega) (fun _ _ => trivial) ?_)
                  | refine VO.op rfl (OpE.append1 (i := 2) rfl hB rfl Tryd.underlying119 (infoOf Tryd.t123 5 (by kernel_rfl) rfl rfl) rfl (by decide) (by decide) rfl rfl rfl rfl (rowL_snoc _ (lyOf (p.places.getD r default) (mgetD (bodM b) (p.places.getD r default).part z0B))) (by omega) (fun _ _ => trivial) ?_)
                  | refine VO.op rfl (OpE.append1 (i := 3) rfl hB rfl Tryd.underlying119 (infoOf Tryd.t123 5 (by kernel_rfl) rfl rfl) rfl (by decide) (by decide) rfl rfl rfl rfl (rowL_snoc _ (lyOf (p.places.getD r default) (mgetD (bodM b) (p.places.getD r default).part z0B))) (by omega) (fun _ _ => trivial) ?_)
                intro u2
                refine VO.val rfl rfl (OpV.move (.inr rfl) rfl) ?_
                refine VO.nil ?_
                show VC _ _ _ _ _
                refine VC.region ?_
                refine VO.val rfl rfl (OpV.add rfl rfl rfl (by unfold fits; omega)) ?_
                refine VO.val rfl rfl (OpV.move (.inl rfl) rfl) ?_
                refine VO.nil ?_
                first
                  | exact Exists.intro (⟨(u2, r + 1), by show r + 1 ≤ _; omega⟩) (And.intro (Le.mk hB [0, 1] ⟨rfl, rfl, rfl, rfl, rfl, trivial⟩ rfl (by dsimp only; first | (rw [ly_some (by omega) h5t]; rw [List.length_append]; rfl) | (rw [ly_none (by omega) h5b]; rfl)) (Nat.le_refl _)) (by first | omega | (show _ < _; omega) | (simp only []; omega)))
                  | exact Exists.intro (⟨(u, r + 1), by show r + 1 ≤ _; omega⟩) (And.intro (Le.mk hB [0, 1] ⟨rfl, rfl, rfl, rfl, rfl, trivial⟩ rfl (by dsimp only; first | (rw [ly_some (by omega) h5t]; rw [List.length_append]; rfl) | (rw [ly_none (by omega) h5b]; rfl)) (Nat.le_refl _)) (by first | omega | (show _ < _; omega) | (simp only []; omega)))
          · have aH2 := aH2b
            try simp only [decide_eq_true_eq, decide_eq_false_iff_not, Bool.not_eq_true', Bool.not_eq_false', Int.not_lt, Int.not_le] at aH2
            refine VC.exit ?_
            show VC _ _ _ _ _
            refine VC.seq ?_
            have hre : r = p.places.length := by omega
            have hrt : p.places.take r = p.places := List.take_of_length_le (by omega)
            rw [hrt]
            refine VC.region ?_
            refine VO.val rfl rfl (OpV.move (.inl rfl) rfl) ?_
            refine VO.val rfl rfl (OpV.move (.inr rfl) rfl) ?_
            refine VO.val rfl rfl (OpV.move (.inr rfl) rfl) ?_
            refine VO.nil ?_
            show VC _ _ _ _ _
            refine VC.ret ?_
            exact Exists.intro _ (And.intro (RetN.two Tryd.results61 (ResN.rowT (i := 1) (xs := lyL p b) rfl rfl rfl (flat_ly _)) (ResN.v rfl)) (by rw [lyR_ok hall, hall]))
end Go.Proofs.YtgikefjbdhnffaaDoor
