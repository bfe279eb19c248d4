/- Part 4 of a proof: the walks and laws that it needs. -/
import Derived.Test.YtcploodfholkkaaGreatDoorZM3
set_option linter.unusedVariables false
set_option linter.unusedSimpArgs false
namespace Go.Proofs.YtcploodfholkkaaGreatDoor
open Go.RowKit
set_option maxRecDepth 100000
section
abbrev eB : BodyS → AV := fun x => .agg [avS x.part, avI x.wide, avI x.high]
def z0B : BodyS := ⟨⟨#[]⟩, 0, 0⟩
theorem flat_ly (xs : List LyS) : FlatA (rowL xs) := flat_rowL (fun x j hj => by
 match j, hj with
 | 0, _ => exact ⟨_, rfl⟩
 | 1, _ => exact ⟨_, rfl⟩
 | 2, _ => exact ⟨_, rfl⟩
 | 3, _ => exact ⟨_, rfl⟩
 | 4, _ => exact ⟨_, rfl⟩) xs
theorem zero_body {w : World} {Z : Nat → Prop} {u : Value} (h : Rep w Z (.v (.agg #[.string ⟨#[]⟩, .int .i64 0, .int .i64 0])) u) : Rep w Z (eB z0B) u := by
 rw [h.eq_v]
 refine .agg _ _ rfl fun j hj => ?_
 match j, hj with
 | 0, _ => exact .v _
 | 1, _ => exact .v _
 | 2, _ => exact .v _
theorem look_none {w : World} {Z : Nat → Prop} {u : Value} (h : Rep w Z (.tup [.v (.agg #[.string ⟨#[]⟩, .int .i64 0, .int .i64 0]), avB false]) u) : Rep w Z (.tup [eB z0B, avB false]) u := by
 cases h with
 | tup cs us hl hr =>
  refine .tup _ _ hl fun j hj => ?_
  match j, hj with
  | 0, _ => exact zero_body (hr 0 (by simp))
  | 1, _ => exact hr 1 (by simp)
theorem bodM_mem : ∀ {l : List BodyS} {m : List (ByteArray × BodyS)} {k : ByteArray} {x : BodyS}, mget (l.foldl (fun m x => mput m x.part x) m) k = some x → x ∈ l ∨ mget m k = some x
 | [], m, k, x, h => .inr h
 | y :: l, m, k, x, h => by
  rcases bodM_mem (l := l) h with h | h
  ·exact .inl (List.mem_cons_of_mem _ h)
  ·rw [mget_mput] at h
   split at h
   ·cases h; exact .inl (List.mem_cons_self ..)
   ·exact .inr h
theorem bodM_in {b : List BodyS} {k : ByteArray} {x : BodyS} (h : mget (bodM b) k = some x) : x ∈ b := by
 rcases bodM_mem h with h | h
 ·exact h
 ·simp [mget] at h
theorem body_bd {b : List BodyS} (h : bodiesF b = 0) {x : BodyS} (hx : x ∈ b) : (1 ≤ x.wide ∧ x.wide ≤ 500000) ∧ 1 ≤ x.high ∧ x.high ≤ 500000 := by
 obtain ⟨j, hj, rfl⟩ := List.getElem_of_mem hx
 have := (bodyE_zero ((bodOk h).all j hj)).1
 rwa [List.getD_eq_getElem?_getD, List.getElem?_eq_getElem hj] at this
theorem bWH_bd {q : Int} {x : BodyS} (h : (1 ≤ x.wide ∧ x.wide ≤ 500000) ∧ 1 ≤ x.high ∧ x.high ≤ 500000) : (1 ≤ bW q x ∧ bW q x ≤ 500000) ∧ 1 ≤ bH q x ∧ bH q x ≤ 500000 := by
 unfold bW bH
 split <;> omega
theorem bodsE_1 {p : ProdS} {b : List BodyS} {n : Int} (h : prodF p ≠ 0) : bodsE p b n = prodF p := if_pos h
theorem bodsE_2 {p : ProdS} {b : List BodyS} {n : Int} (h : prodF p = 0) (h2 : bodiesF b ≠ 0) : bodsE p b n = bodiesF b := by rw [bodsE, if_neg (by omega), if_pos h2]
theorem bodsE_3 {p : ProdS} {b : List BodyS} {n : Int} (h : prodF p = 0) (h2 : bodiesF b = 0) : bodsE p b n = gapF n := by rw [bodsE, if_neg (by omega), if_neg (by omega)]
theorem bodsE_0 {p : ProdS} {b : List BodyS} {n : Int} (h : bodsE p b n = 0) : prodF p = 0 ∧ bodiesF b = 0 ∧ 0 ≤ n ∧ n ≤ 500000 := by
 unfold bodsE at h
 split at h
 ·rename_i h1; exact absurd h h1
 ·split at h
  ·rename_i h1; exact absurd h h1
  ·rename_i h1 h2
   unfold gapF at h
   split at h
   ·cases h
   ·rename_i h3
    simp only [outR, Bool.or_eq_true, decide_eq_true_eq, not_or] at h3
    exact ⟨by omega, by omega, by omega, by omega⟩
theorem lyR_no {p : ProdS} {b : List BodyS} {n : Int} (h : bodsE p b n ≠ 0) : lyR p b n = [] := if_neg h
theorem lyR_ok {p : ProdS} {b : List BodyS} {n : Int} (h : bodsE p b n = 0) : lyR p b n = lyL p b := if_pos h
theorem gapF_1 {n : Int} (h : (decide (n < 0) || decide (500000 < n)) = true) : gapF n = 1 := if_pos h
theorem gapF_0 {n : Int} (h : (decide (n < 0) || decide (500000 < n)) = false) : gapF n = 0 := if_neg (by show ¬ (decide (n < 0) || decide (500000 < n)) = true; rw [h]; simp)
theorem place_bd {p : ProdS} (h : prodF p = 0) {q : Nat} (hq : q < p.places.length) : (0 ≤ (p.places.getD q default).x ∧ (p.places.getD q default).x ≤ 500000) ∧ (0 ≤ (p.places.getD q default).y ∧ (p.places.getD q default).y ≤ 500000) ∧ (0 ≤ (p.places.getD q default).quarter ∧ (p.places.getD q default).quarter ≤ 3) := by
 have h1 := prodOk h
 have h2 := placeE_zero (h1.all q hq)
 have h3 := h1.wide
 have h4 := h1.high
 omega
theorem ly_none {p : ProdS} {b : List BodyS} {r : Nat} (h : r < p.places.length) (e : (mget (bodM b) (p.places.getD r default).part).isSome = false) : (p.places.take (r + 1)).filterMap (lyO b) = (p.places.take r).filterMap (lyO b) := by
 rw [lyL_take h]
 cases e2 : mget (bodM b) (p.places.getD r default).part with
 | none => simp
 | some x => rw [e2] at e; cases e
theorem ly_some {p : ProdS} {b : List BodyS} {r : Nat} (h : r < p.places.length) (e : (mget (bodM b) (p.places.getD r default).part).isSome = true) : (p.places.take (r + 1)).filterMap (lyO b) = (p.places.take r).filterMap (lyO b) ++ [lyOf (p.places.getD r default) (mgetD (bodM b) (p.places.getD r default).part z0B)] := by
 rw [lyL_take h]
 unfold mgetD
 cases e2 : mget (bodM b) (p.places.getD r default).part with
 | none => rw [e2] at e; cases e
 | some x => rfl
theorem mgetD_in {b : List BodyS} {k : ByteArray} (e : (mget (bodM b) k).isSome = true) : mgetD (bodM b) k z0B ∈ b := by
 unfold mgetD
 cases e2 : mget (bodM b) k with
 | none => rw [e2] at e; cases e
 | some x => exact bodM_in e2
set_option maxHeartbeats 4000000 in
theorem panel_bodies {p : ProdS} {b : List BodyS} {n : Int} (hs : SmP p) (hb : SmB b) :
    SpecN Tryz.prog 80 [avProd p, avL b, avI n] (fun y => y = .tup [avL (lyR p b n), avI (bodsE p b n)]) := by
  refine SpecN.of_VCN Tryz.func80 rfl Tryz.ntmps80 (Nle rfl) fun w A hB => ?_
  refine VC.seq ?_
  have hl := hs.len
  have hlb := hb.len
  refine VC.region ?_
  refine VO.op rfl (OpE.box rfl hB rfl rfl rfl ?_)
  intro g3
  refine VO.mb ?_
  refine VO.mb ?_
  refine VO.nil ?_
  refine VC.seq ?_
  refine VC.sr ?_
  refine VO.vv (OpV.loadK_own (i := 0) rfl hB Tryz.isAgg28 Tryz.sizeOf28 rfl rfl rfl (fun h => h)) ?_
  refine VO.op rfl (OpE.call rfl hB rfl Tryz.call159 rfl (SpecN.spec (panel_CheckProduct hs)) ?_)
  rintro _ rfl
  refine VO.mb ?_
  refine VO.nil ?_
  refine VC.sr ?_
  refine VO.mw ?_
  refine VO.vv (OpV.neq rfl rfl rfl) ?_
  refine VO.nil ?_
  refine VC.cond rfl (fun h0b => ?_) (fun h0b => ?_)
  · have h0 := h0b
    try simp only [qq] at h0
    refine VC.sr ?_
    refine VO.mw ?_
    refine VO.mb ?_
    refine VO.mb ?_
    refine VO.nil ?_
    refine VC.ret ?_
    exact Exists.intro _ (And.intro (RetN.two Tryz.results80 (ResN.nilE rfl) (ResN.v rfl)) (by rw [lyR_no (by rw [bodsE_1 h0]; exact h0), bodsE_1 h0]; rfl))
  · have h0 := h0b
    try simp only [qq] at h0
    have h00 : prodF p = 0 := by omega
    refine VC.skip ?_
    refine VC.seq ?_
    refine VC.sr ?_
    refine VO.mw ?_
    refine VO.op rfl (OpE.call rfl hB rfl Tryz.call164 rfl (SpecN.spec (panel_bodiesFault hb)) ?_)
    rintro _ rfl
    refine VO.mb ?_
    refine VO.nil ?_
    refine VC.sr ?_
    refine VO.mw ?_
    refine VO.vv (OpV.neq rfl rfl rfl) ?_
    refine VO.nil ?_
    refine VC.cond rfl (fun h1b => ?_) (fun h1b => ?_)
    · have h1 := h1b
      try simp only [qq] at h1
      refine VC.sr ?_
      refine VO.mw ?_
      refine VO.mb ?_
      refine VO.mb ?_
      refine VO.nil ?_
      refine VC.ret ?_
      exact Exists.intro _ (And.intro (RetN.two Tryz.results80 (ResN.nilE rfl) (ResN.v rfl)) (by rw [lyR_no (by rw [bodsE_2 h00 h1]; exact h1), bodsE_2 h00 h1]; rfl))
    · have h1 := h1b
      try simp only [qq] at h1
      have h11 : bodiesF b = 0 := by omega
      refine VC.skip ?_
      refine VC.seq ?_
      refine VC.sr ?_
      refine VO.mw ?_
      refine VO.op rfl (OpE.call rfl hB rfl Tryz.call161 rfl (SpecN.spec (kit_Outside)) ?_)
      rintro _ rfl
      refine VO.nil ?_
      refine VC.cond rfl (fun h2b => ?_) (fun h2b => ?_)
      · have h2 := h2b
        try simp only [qq] at h2
        refine VC.sr ?_
        refine VO.mb ?_
        refine VO.mb ?_
        refine VO.nil ?_
        refine VC.ret ?_
        exact Exists.intro _ (And.intro (RetN.two Tryz.results80 (ResN.nilE rfl) (ResN.v rfl)) (by rw [lyR_no (by rw [bodsE_3 h00 h11, gapF_1 h2b]; decide), bodsE_3 h00 h11, gapF_1 h2b]; rfl))
      · have h2 := h2b
        try simp only [qq] at h2
        have hall : bodsE p b n = 0 := by rw [bodsE_3 h00 h11, gapF_0 h2b]
        refine VC.skip ?_
        refine VC.sr ?_
        refine VO.op rfl (OpE.makeMap (kvS) (eB) rfl hB rfl ?_)
        intro g32
        refine VO.mb ?_
        refine VO.nil ?_
        refine VC.seq ?_
        refine VC.sr ?_
        refine VO.mw ?_
        refine VO.vv (OpV.len_im rfl Tryz.underlying51 rfl) ?_
        refine VO.mw ?_
        refine VO.nil ?_
        refine VC.block ?_
        refine VC.loopK [(3, _), (10, _), (33, _), (34, _)] ⟨rfl, rfl, rfl, rfl, trivial⟩ ({q : Nat // q ≤ b.length}) (fun (iZ : {q : Nat // q ≤ b.length}) => match iZ with | ⟨q, hq⟩ => [(35, avI (q : Int))]) (fun (iZ : {q : Nat // q ≤ b.length}) => match iZ with | ⟨q, hq⟩ => [boxProd g3 p 28, mapE kvS g32 eB (bodM (b.take q))]) (fun (iZ : {q : Nat // q ≤ b.length}) => match iZ with | ⟨q, hq⟩ => 0) (fun (iZ : {q : Nat // q ≤ b.length}) => match iZ with | ⟨q, hq⟩ => b.length - q) ⟨0, Nat.zero_le _⟩ (Le.mk hB [0, 1] ⟨rfl, rfl, rfl, rfl, rfl, trivial⟩ rfl rfl (Nat.le_refl _)) ?_
        rintro ⟨q, hq⟩
        show VC _ _ _ _ ⟨[(35, avI (q : Int))] ++ [(3, _), (10, _), (33, _), (34, _)], [boxProd g3 p 28, mapE kvS g32 eB (bodM (b.take q))], 0⟩
        refine VC.sr ?_
        refine VO.vv (OpV.lss rfl rfl rfl) ?_
        refine VO.nil ?_
        refine VC.seq ?_
        refine VC.cond rfl (fun aH1b => ?_) (fun aH1b => ?_)
        · have aH1 := aH1b
          try simp only [qq] at aH1
          refine VC.skip ?_
          refine VC.seq ?_
          refine VC.block ?_
          refine VC.sr ?_
          refine VO.vv (OpV.indexAddr_E rfl Tryz.underlying51 Tryz.sizeOf63 rfl rfl rfl (by omega)) ?_
          refine VO.vv (OpV.loadK_at rfl hB OutW.no Tryz.isAgg63 Tryz.sizeOf63 rfl rfl) ?_
          refine VO.op rfl (OpE.alloc rfl hB rfl Tryz.zeroValue63 rfl ?_)
          intro g12
          refine VO.op rfl (OpE.store (i := 2) rfl hB rfl Tryz.sizeOf63 rfl rfl rfl rfl rfl rfl (Nle rfl) trivial ?_)
          refine VO.nil ?_
          refine VC.region ?_
          refine VO.mw ?_
          refine VO.vv (OpV.fieldAddrO 0 rfl Tryz.underlying63 rfl rfl Tryz.sizeOf9 rfl) ?_
          refine VO.vv (OpV.load_own (i := 2) rfl hB Tryz.isAgg9 rfl rfl rfl (fun h => h)) ?_
          refine VO.vv (OpV.loadK_own (i := 2) rfl hB Tryz.isAgg63 Tryz.sizeOf63 rfl rfl rfl (fun h => h)) ?_
          refine VO.op rfl (OpE.mapUpdate (i := 1) (xx := b.getD q default) rfl hB rfl Tryz.underlying270 (KeyOk.str Tryz.underlying9) rfl (KeyE.v rfl) rfl rfl trivial ?_)
          refine VO.nil ?_
          refine VC.region ?_
          refine VO.vv (OpV.add rfl rfl rfl (by unfold fits; omega)) ?_
          refine VO.mw ?_
          refine VO.nil ?_
          exact Exists.intro (⟨q + 1, by omega⟩) (And.intro (Le.mk hB [0, 1] ⟨rfl, rfl, rfl, rfl, rfl, trivial⟩ rfl (by dsimp only; rw [bodM_take (by omega)]; rfl) (Nat.le_refl _)) (by first | omega | (show _ < _; omega) | (simp only []; omega)))
        · have aH1 := aH1b
          try simp only [qq] at aH1
          refine VC.exit ?_
          refine VC.seq ?_
          have hqe : b.take q = b := List.take_of_length_le (by omega)
          rw [hqe]
          refine VC.region ?_
          refine VO.mb ?_
          refine VO.nil ?_
          refine VC.seq ?_
          refine VC.sr ?_
          refine VO.vv (OpV.fieldAddrO 3 rfl Tryz.underlying28 rfl rfl Tryz.sizeOf26 rfl) ?_
          refine VO.vv (OpV.load_own (i := 0) rfl hB Tryz.isAgg26 rfl rfl rfl (fun h => h)) ?_
          refine VO.vv (OpV.len_im rfl Tryz.underlying26 rfl) ?_
          refine VO.mw ?_
          refine VO.nil ?_
          refine VC.block ?_
          refine VC.le _ (Le.nilRow 5 163) ?_
          refine VC.loopK [(10, _), (45, _), (46, _)] ⟨rfl, rfl, rfl, trivial⟩ ({z : Value × Nat // z.2 ≤ p.places.length}) (fun (iZ : {z : Value × Nat // z.2 ≤ p.places.length}) => match iZ with | ⟨⟨u, r⟩, hr⟩ => [(13, .v u), (47, avI (r : Int))]) (fun (iZ : {z : Value × Nat // z.2 ≤ p.places.length}) => match iZ with | ⟨⟨u, r⟩, hr⟩ => [mapE kvS g32 eB (bodM b), .row u ((p.places.take r).filterMap (lyO b)).length 5 (rowL ((p.places.take r).filterMap (lyO b))) 163]) (fun (iZ : {z : Value × Nat // z.2 ≤ p.places.length}) => match iZ with | ⟨⟨u, r⟩, hr⟩ => 0) (fun (iZ : {z : Value × Nat // z.2 ≤ p.places.length}) => match iZ with | ⟨⟨u, r⟩, hr⟩ => p.places.length - r) ⟨(.slice none 0 0, 0), Nat.zero_le _⟩ (Le.mk hB [1, 2] ⟨rfl, rfl, rfl, rfl, rfl, trivial⟩ rfl rfl (Nat.le_refl _)) ?_
          rintro ⟨⟨u, r⟩, hr⟩
          show VC _ _ _ _ ⟨[(13, .v u), (47, avI (r : Int))] ++ [(10, _), (45, _), (46, _)], [mapE kvS g32 eB (bodM b), .row u ((p.places.take r).filterMap (lyO b)).length 5 (rowL ((p.places.take r).filterMap (lyO b))) 163], 0⟩
          simp only at hr
          have hfl := List.length_filterMap_le (lyO b) (p.places.take r)
          have htl := List.length_take_le r p.places
          refine VC.sr ?_
          refine VO.vv (OpV.lss rfl rfl rfl) ?_
          refine VO.nil ?_
          refine VC.seq ?_
          refine VC.cond rfl (fun aH2b => ?_) (fun aH2b => ?_)
          · have aH2 := aH2b
            try simp only [qq] at aH2
            refine VC.skip ?_
            refine VC.seq ?_
            refine VC.block ?_
            refine VC.sr ?_
            refine VO.vv (OpV.indexAddr_E rfl Tryz.underlying26 Tryz.sizeOf152 rfl rfl rfl (by omega)) ?_
            refine VO.vv (OpV.loadK_at rfl hB OutW.no Tryz.isAgg152 Tryz.sizeOf152 rfl rfl) ?_
            refine VO.op rfl (OpE.alloc rfl hB rfl Tryz.zeroValue152 rfl ?_)
            intro g15
            refine VO.op rfl (OpE.store (i := 2) rfl hB rfl Tryz.sizeOf152 rfl rfl rfl rfl rfl rfl (Nle rfl) trivial ?_)
            refine VO.nil ?_
            refine VC.sr ?_
            refine VO.mw ?_
            refine VO.vv (OpV.fieldAddrO 1 rfl Tryz.underlying152 rfl rfl Tryz.sizeOf9 rfl) ?_
            refine VO.vv (OpV.load_own (i := 2) rfl hB Tryz.isAgg9 rfl rfl rfl (fun h => h)) ?_
            refine VO.vv (OpV.lookup_ok (i := 0) rfl hB Tryz.underlying270 (KeyOk.str Tryz.underlying9) Tryz.zeroValue63 rfl (KeyE.v rfl) rfl (fun h => h)) ?_
            refine VO.le _ (Le.recast (t := 55) (y := .tup [eB (mgetD (bodM b) (p.places.getD r default).part z0B), avB (mget (bodM b) (p.places.getD r default).part).isSome]) rfl (fun w Z u h => by unfold mgetD; revert h; cases mget (bodM b) (p.places.getD r default).part with | some v => exact id | none => exact look_none)) ?_
            refine VO.mw ?_
            refine VO.vv (OpV.extract rfl rfl rfl) ?_
            refine VO.vv (OpV.extract rfl rfl rfl) ?_
            refine VO.op rfl (OpE.alloc rfl hB rfl Tryz.zeroValue63 rfl ?_)
            intro g16
            refine VO.op rfl (OpE.store (i := 3) rfl hB rfl Tryz.sizeOf63 rfl rfl rfl rfl rfl rfl (Nle rfl) trivial ?_)
            refine VO.mb ?_
            refine VO.nil ?_
            refine VC.seq ?_
            refine VC.sr ?_
            refine VO.mw ?_
            refine VO.vv (OpV.not rfl rfl) ?_
            refine VO.nil ?_
            refine VC.cond rfl (fun h5b => ?_) (fun h5b => ?_)
            · have h5 := h5b
              try simp only [qq] at h5
              have h5b : (mget (bodM b) (p.places.getD r default).part).isSome = false := by simpa using h5
              refine VC.exit ?_
              refine VC.region ?_
              refine VO.vv (OpV.add rfl rfl rfl (by unfold fits; omega)) ?_
              refine VO.mw ?_
              refine VO.nil ?_
              exact Exists.intro (⟨(u, r + 1), by show r + 1 ≤ _; omega⟩) (And.intro (Le.mk hB [0, 1] ⟨rfl, rfl, rfl, rfl, rfl, trivial⟩ rfl (by dsimp only; first | (rw [ly_some (by omega) h5t]; rw [List.length_append]; rfl) | (rw [ly_none (by omega) h5b]; rfl)) (Nat.le_refl _)) (by first | omega | (show _ < _; omega) | (simp only []; omega)))
            · have h5 := h5b
              try simp only [qq] at h5
              have h5t : (mget (bodM b) (p.places.getD r default).part).isSome = true := by simpa using h5
              have hbd := body_bd h11 (mgetD_in h5t)
              have hpl := place_bd h00 (q := r) (by omega)
              obtain ⟨d, hd⟩ : ∃ d, mgetD (bodM b) (p.places.getD r default).part z0B = d := ⟨_, rfl⟩
              rw [hd] at hbd
              have hwh := bWH_bd (q := (p.places.getD r default).quarter) hbd
              refine VC.skip ?_
              refine VC.seq ?_
              refine VC.draw (fun _ => NoB) hB (by kernel_rfl) ?_
              refine VA.tk (i := 0) rfl (OpV.fieldAddrO 1 rfl Tryz.underlying63 rfl rfl Tryz.sizeOf3 rfl) ?_
              refine VA.tk (i := 1) rfl (OpV.load_own (i := 3) rfl hB Tryz.isAgg3 rfl rfl rfl Wi.not0) ?_
              refine VA.tk (i := 2) rfl (OpV.fieldAddrO 2 rfl Tryz.underlying63 rfl rfl Tryz.sizeOf3 rfl) ?_
              refine VA.tk (i := 3) rfl (OpV.load_own (i := 3) rfl hB Tryz.isAgg3 rfl rfl rfl Wi.not0) ?_
              refine VA.tk (i := 4) rfl (OpV.move (.inr rfl) rfl) ?_
              refine VA.tk (i := 5) rfl (OpV.move (.inr rfl) rfl) ?_
              refine VA.done (by kernel_rfl) ?_
              refine VC.seq ?_
              refine VC.sr ?_
              refine VO.vv (OpV.fieldAddrO 4 rfl Tryz.underlying152 rfl rfl Tryz.sizeOf3 rfl) ?_
              refine VO.vv (OpV.load_own (i := 2) rfl hB Tryz.isAgg3 rfl rfl rfl (fun h => h)) ?_
              refine VO.vv (OpV.rem rfl rfl rfl (by omega) (by have h9 := Int.tmod_eq_emod_of_nonneg (a := (p.places.getD r default).quarter) (b := 2) (by omega); unfold fits; omega)) ?_
              refine VO.vv (OpV.eql rfl rfl rfl) ?_
              refine VO.nil ?_
              refine VC.cond rfl (fun h6b => ?_) (fun h6b => ?_)
              · have h6 := h6b
                try simp only [qq] at h6
                refine VC.region ?_
                refine VO.mw ?_
                refine VO.mw ?_
                refine VO.mb ?_
                refine VO.mb ?_
                refine VO.nil ?_
                refine VC.le _ (Le.recast (t := 18) (y := avI (bW (p.places.getD r default).quarter (mgetD (bodM b) (p.places.getD r default).part z0B))) rfl (fun w Z u h => by rw [bW, if_pos h6]; exact h)) ?_
                refine VC.le _ (Le.recast (t := 19) (y := avI (bH (p.places.getD r default).quarter (mgetD (bodM b) (p.places.getD r default).part z0B))) rfl (fun w Z u h => by rw [bH, if_pos h6]; exact h)) ?_
                refine VC.region ?_
                refine VO.mw ?_
                refine VO.vv (OpV.fieldAddrO 0 rfl Tryz.underlying152 rfl rfl Tryz.sizeOf9 rfl) ?_
                refine VO.vv (OpV.load_own (i := 2) rfl hB Tryz.isAgg9 rfl rfl rfl (fun h => h)) ?_
                refine VO.vv (OpV.fieldAddrO 2 rfl Tryz.underlying152 rfl rfl Tryz.sizeOf3 rfl) ?_
                refine VO.vv (OpV.load_own (i := 2) rfl hB Tryz.isAgg3 rfl rfl rfl (fun h => h)) ?_
                refine VO.vv (OpV.mul rfl rfl rfl (by unfold fits; omega)) ?_
                refine VO.mw ?_
                refine VO.vv (OpV.sub rfl rfl rfl (by rw [← hd] at hwh; unfold fits; omega)) ?_
                refine VO.vv (OpV.fieldAddrO 2 rfl Tryz.underlying152 rfl rfl Tryz.sizeOf3 rfl) ?_
                refine VO.vv (OpV.load_own (i := 2) rfl hB Tryz.isAgg3 rfl rfl rfl (fun h => h)) ?_
                refine VO.vv (OpV.mul rfl rfl rfl (by unfold fits; omega)) ?_
                refine VO.mw ?_
                refine VO.vv (OpV.add rfl rfl rfl (by rw [← hd] at hwh; unfold fits; omega)) ?_
                refine VO.vv (OpV.fieldAddrO 3 rfl Tryz.underlying152 rfl rfl Tryz.sizeOf3 rfl) ?_
                refine VO.vv (OpV.load_own (i := 2) rfl hB Tryz.isAgg3 rfl rfl rfl (fun h => h)) ?_
                refine VO.vv (OpV.mul rfl rfl rfl (by unfold fits; omega)) ?_
                refine VO.mw ?_
                refine VO.vv (OpV.sub rfl rfl rfl (by rw [← hd] at hwh; unfold fits; omega)) ?_
                refine VO.vv (OpV.fieldAddrO 3 rfl Tryz.underlying152 rfl rfl Tryz.sizeOf3 rfl) ?_
                refine VO.vv (OpV.load_own (i := 2) rfl hB Tryz.isAgg3 rfl rfl rfl (fun h => h)) ?_
                refine VO.vv (OpV.mul rfl rfl rfl (by unfold fits; omega)) ?_
                refine VO.mw ?_
                refine VO.vv (OpV.add rfl rfl rfl (by rw [← hd] at hwh; unfold fits; omega)) ?_
                refine VO.vv (OpV.build (pls := #[(0, 1), (1, 1), (2, 1), (3, 1), (4, 1)]) rfl Tryz.zeroValue163 Tryz.underlying163 (fun w => by kernel_rfl) rfl rfl) ?_
                refine VO.op rfl (OpE.buildSlice (zc := #[.string ⟨#[]⟩, .int .i64 0, .int .i64 0, .int .i64 0, .int .i64 0]) rfl hB rfl Tryz.underlying159 Tryz.sizeOf163 Tryz.zeroValue163 (by decide) (by decide) (by kernel_rfl) rfl rfl ?_)
                refine VO.op rfl (OpE.append1 (i := 1) rfl hB rfl Tryz.underlying159 (infoOf Tryz.t163 5 (by kernel_rfl) rfl rfl) rfl (by decide) (by decide) rfl rfl rfl rfl (rowL_snoc _ (lyOf (p.places.getD r default) (mgetD (bodM b) (p.places.getD r default).part z0B))) (by omega) (fun _ _ => trivial) ?_)
                intro u2
                refine VO.mb ?_
                refine VO.nil ?_
                refine VC.region ?_
                refine VO.vv (OpV.add rfl rfl rfl (by unfold fits; omega)) ?_
                refine VO.mw ?_
                refine VO.nil ?_
                exact Exists.intro (⟨(u2, r + 1), by show r + 1 ≤ _; omega⟩) (And.intro (Le.mk hB [0, 1] ⟨rfl, rfl, rfl, rfl, rfl, trivial⟩ rfl (by dsimp only; first | (rw [ly_some (by omega) h5t]; rw [List.length_append]; rfl) | (rw [ly_none (by omega) h5b]; rfl)) (Nat.le_refl _)) (by first | omega | (show _ < _; omega) | (simp only []; omega)))
              · have h6 := h6b
                try simp only [qq] at h6
                refine VC.skip ?_
                refine VC.le _ (Le.recast (t := 18) (y := avI (bW (p.places.getD r default).quarter (mgetD (bodM b) (p.places.getD r default).part z0B))) rfl (fun w Z u h => by rw [bW, if_neg h6]; exact h)) ?_
                refine VC.le _ (Le.recast (t := 19) (y := avI (bH (p.places.getD r default).quarter (mgetD (bodM b) (p.places.getD r default).part z0B))) rfl (fun w Z u h => by rw [bH, if_neg h6]; exact h)) ?_
                refine VC.region ?_
                refine VO.mw ?_
                refine VO.vv (OpV.fieldAddrO 0 rfl Tryz.underlying152 rfl rfl Tryz.sizeOf9 rfl) ?_
                refine VO.vv (OpV.load_own (i := 2) rfl hB Tryz.isAgg9 rfl rfl rfl (fun h => h)) ?_
                refine VO.vv (OpV.fieldAddrO 2 rfl Tryz.underlying152 rfl rfl Tryz.sizeOf3 rfl) ?_
                refine VO.vv (OpV.load_own (i := 2) rfl hB Tryz.isAgg3 rfl rfl rfl (fun h => h)) ?_
                refine VO.vv (OpV.mul rfl rfl rfl (by unfold fits; omega)) ?_
                refine VO.mw ?_
                refine VO.vv (OpV.sub rfl rfl rfl (by rw [← hd] at hwh; unfold fits; omega)) ?_
                refine VO.vv (OpV.fieldAddrO 2 rfl Tryz.underlying152 rfl rfl Tryz.sizeOf3 rfl) ?_
                refine VO.vv (OpV.load_own (i := 2) rfl hB Tryz.isAgg3 rfl rfl rfl (fun h => h)) ?_
                refine VO.vv (OpV.mul rfl rfl rfl (by unfold fits; omega)) ?_
                refine VO.mw ?_
                refine VO.vv (OpV.add rfl rfl rfl (by rw [← hd] at hwh; unfold fits; omega)) ?_
                refine VO.vv (OpV.fieldAddrO 3 rfl Tryz.underlying152 rfl rfl Tryz.sizeOf3 rfl) ?_
                refine VO.vv (OpV.load_own (i := 2) rfl hB Tryz.isAgg3 rfl rfl rfl (fun h => h)) ?_
                refine VO.vv (OpV.mul rfl rfl rfl (by unfold fits; omega)) ?_
                refine VO.mw ?_
                refine VO.vv (OpV.sub rfl rfl rfl (by rw [← hd] at hwh; unfold fits; omega)) ?_
                refine VO.vv (OpV.fieldAddrO 3 rfl Tryz.underlying152 rfl rfl Tryz.sizeOf3 rfl) ?_
                refine VO.vv (OpV.load_own (i := 2) rfl hB Tryz.isAgg3 rfl rfl rfl (fun h => h)) ?_
                refine VO.vv (OpV.mul rfl rfl rfl (by unfold fits; omega)) ?_
                refine VO.mw ?_
                refine VO.vv (OpV.add rfl rfl rfl (by rw [← hd] at hwh; unfold fits; omega)) ?_
                refine VO.vv (OpV.build (pls := #[(0, 1), (1, 1), (2, 1), (3, 1), (4, 1)]) rfl Tryz.zeroValue163 Tryz.underlying163 (fun w => by kernel_rfl) rfl rfl) ?_
                refine VO.op rfl (OpE.buildSlice (zc := #[.string ⟨#[]⟩, .int .i64 0, .int .i64 0, .int .i64 0, .int .i64 0]) rfl hB rfl Tryz.underlying159 Tryz.sizeOf163 Tryz.zeroValue163 (by decide) (by decide) (by kernel_rfl) rfl rfl ?_)
                refine VO.op rfl (OpE.append1 (i := 1) rfl hB rfl Tryz.underlying159 (infoOf Tryz.t163 5 (by kernel_rfl) rfl rfl) rfl (by decide) (by decide) rfl rfl rfl rfl (rowL_snoc _ (lyOf (p.places.getD r default) (mgetD (bodM b) (p.places.getD r default).part z0B))) (by omega) (fun _ _ => trivial) ?_)
                intro u2
                refine VO.mb ?_
                refine VO.nil ?_
                refine VC.region ?_
                refine VO.vv (OpV.add rfl rfl rfl (by unfold fits; omega)) ?_
                refine VO.mw ?_
                refine VO.nil ?_
                exact Exists.intro (⟨(u2, r + 1), by show r + 1 ≤ _; omega⟩) (And.intro (Le.mk hB [0, 1] ⟨rfl, rfl, rfl, rfl, rfl, trivial⟩ rfl (by dsimp only; first | (rw [ly_some (by omega) h5t]; rw [List.length_append]; rfl) | (rw [ly_none (by omega) h5b]; rfl)) (Nat.le_refl _)) (by first | omega | (show _ < _; omega) | (simp only []; omega)))
          · have aH2 := aH2b
            try simp only [qq] at aH2
            refine VC.exit ?_
            refine VC.seq ?_
            have hre : r = p.places.length := by omega
            have hrt : p.places.take r = p.places := List.take_of_length_le (by omega)
            rw [hrt]
            refine VC.region ?_
            refine VO.mw ?_
            refine VO.mb ?_
            refine VO.mb ?_
            refine VO.nil ?_
            refine VC.ret ?_
            exact Exists.intro _ (And.intro (RetN.two Tryz.results80 (ResN.rowT (i := 1) (xs := lyL p b) rfl rfl rfl (flat_ly _)) (ResN.v rfl)) (by rw [lyR_ok hall, hall]))
end
section
structure LyBd (x : LyS) : Prop where
 a : -500000 ≤ x.left ∧ x.left ≤ 1500000
 b : -500000 ≤ x.right ∧ x.right ≤ 1500000
 c : -500000 ≤ x.lower ∧ x.lower ≤ 1500000
 d : -500000 ≤ x.high ∧ x.high ≤ 1500000
theorem lyOf_bd {c : PlaceS} {d : BodyS} (hx : 0 ≤ c.x ∧ c.x ≤ 500000) (hy : 0 ≤ c.y ∧ c.y ≤ 500000) (hd : (1 ≤ d.wide ∧ d.wide ≤ 500000) ∧ 1 ≤ d.high ∧ d.high ≤ 500000) : LyBd (lyOf c d) := by
 have hwh := bWH_bd (q := c.quarter) hd
 exact ⟨by show _ ≤ 2 * c.x - _ ∧ 2 * c.x - _ ≤ _; omega, by show _ ≤ 2 * c.x + _ ∧ 2 * c.x + _ ≤ _; omega, by show _ ≤ 2 * c.y - _ ∧ 2 * c.y - _ ≤ _; omega, by show _ ≤ 2 * c.y + _ ∧ 2 * c.y + _ ≤ _; omega⟩
theorem lyO_bd {p : ProdS} {b : List BodyS} (h1 : prodF p = 0) (h2 : bodiesF b = 0) {c : PlaceS} (hc : c ∈ p.places) {x : LyS} (hx : lyO b c = some x) : LyBd x := by
 unfold lyO at hx
 cases e : mget (bodM b) c.part with
 | none => rw [e] at hx; cases hx
 | some d =>
  rw [e] at hx; cases hx
  obtain ⟨j, hj, rfl⟩ := List.getElem_of_mem hc
  have := place_bd h1 hj
  rw [List.getD_eq_getElem?_getD, List.getElem?_eq_getElem hj] at this
  exact lyOf_bd this.1 this.2.1 (body_bd h2 (bodM_in e))
theorem lyL_bd {p : ProdS} {b : List BodyS} (h1 : prodF p = 0) (h2 : bodiesF b = 0) {x : LyS} (hx : x ∈ lyL p b) : LyBd x := by
 obtain ⟨c, hc, e⟩ := List.mem_filterMap.1 hx
 exact lyO_bd h1 h2 hc e
theorem getD_memB {α : Type} {l : List α} {i : Nat} (h : i < l.length) (d : α) : l.getD i d ∈ l := by
 rw [List.getD_eq_getElem?_getD, List.getElem?_eq_getElem h]; exact List.getElem_mem h
theorem fm_take {α β : Type} [Inhabited α] {f : α → Option β} {m : List α} {r : Nat} (h : r < m.length) : (m.take (r + 1)).filterMap f = (m.take r).filterMap f ++ (f (m.getD r default)).toList := by
 rw [take_snocD h default, List.filterMap_append]
 congr 1
theorem pairO_t {n : Int} {x y : LyS} (h1 : decide (max (x.left - y.right) (y.left - x.right) < 2 * n) = true) (h2 : decide (max (x.lower - y.high) (y.lower - x.high) < 2 * n) = true) : pairO n x y = some ⟨x.name, y.name⟩ := if_pos (by show (_ && _) = true; rw [h1, h2]; rfl)
theorem pairO_a {n : Int} {x y : LyS} (h1 : decide (max (x.left - y.right) (y.left - x.right) < 2 * n) = false) : pairO n x y = none := if_neg (by show ¬ (_ && _) = true; rw [h1]; simp)
theorem pairO_b {n : Int} {x y : LyS} (h2 : decide (max (x.lower - y.high) (y.lower - x.high) < 2 * n) = false) : pairO n x y = none := if_neg (by show ¬ (_ && _) = true; rw [h2]; simp)
def accP (n : Int) (l : List LyS) (q r : Nat) : List PairS := pairsR (pairO n) l q ++ ((l.drop (q + 1)).take r).filterMap (pairO n (l.getD q default))
theorem accP_0 (n : Int) (l : List LyS) (q : Nat) : accP n l q 0 = pairsR (pairO n) l q := by simp [accP]
theorem accP_t {n : Int} {l : List LyS} {q r : Nat} (h : r < (l.drop (q + 1)).length) {z : PairS} (e : pairO n (l.getD q default) ((l.drop (q + 1)).getD r default) = some z) : accP n l q (r + 1) = accP n l q r ++ [z] := by
 rw [accP, fm_take h, e, accP, List.append_assoc]; rfl
theorem accP_f {n : Int} {l : List LyS} {q r : Nat} (h : r < (l.drop (q + 1)).length) (e : pairO n (l.getD q default) ((l.drop (q + 1)).getD r default) = none) : accP n l q (r + 1) = accP n l q r := by
 rw [accP, fm_take h, e, accP]; simp
theorem accP_all {n : Int} {l : List LyS} {q r : Nat} (h : (l.drop (q + 1)).length ≤ r) : accP n l q r = pairsR (pairO n) l (q + 1) := by
 rw [accP, List.take_of_length_le h, pairsR_succ]
theorem pairsR_len {α β : Type} [Inhabited α] (f : α → α → Option β) (l : List α) : ∀ q, (pairsR f l q).length ≤ q * l.length
 | 0 => by simp [pairsR]
 | q + 1 => by
  rw [pairsR_succ, List.length_append]
  have h1 := pairsR_len f l q
  have h2 := List.length_filterMap_le (f (l.getD q default)) (l.drop (q + 1))
  have h3 : (l.drop (q + 1)).length ≤ l.length := by simp
  rw [Nat.add_mul]; omega
theorem accP_len {n : Int} {l : List LyS} {q r : Nat} (hq : q < l.length) (hl : l.length ≤ 1000) : (accP n l q r).length ≤ 2000000 := by
 rw [accP, List.length_append]
 have h1 := pairsR_len (pairO n) l q
 have h2 := List.length_filterMap_le (pairO n (l.getD q default)) ((l.drop (q + 1)).take r)
 have h3 := List.length_take_le r (l.drop (q + 1))
 have h4 : (l.drop (q + 1)).length ≤ l.length := by simp
 have h5 : ((l.drop (q + 1)).take r).length ≤ (l.drop (q + 1)).length := by simp; omega
 have h6 : q * l.length ≤ 1000 * 1000 := Nat.mul_le_mul (by omega) hl
 omega
theorem lyL_len (p : ProdS) (b : List BodyS) : (lyL p b).length ≤ p.places.length := List.length_filterMap_le _ _
end
section
theorem panel_panelFault {n : PanS} (hl : n.slots.length ≤ 1000000) :
    SpecN Tryz.prog 74 [avPan n] (fun y => y = avI (panF n)) := by
  refine SpecN.of_VCN Tryz.func74 rfl Tryz.ntmps74 (Nle rfl) fun w A hB => ?_
  refine VC.sr ?_
  refine VO.op rfl (OpE.box rfl hB rfl rfl rfl ?_)
  intro g1
  refine VO.mb ?_
  refine VO.nil ?_
  refine VC.seq ?_
  refine VC.sr ?_
  refine VO.vv (OpV.fieldAddrO 0 rfl Tryz.underlying32 rfl rfl Tryz.sizeOf3 rfl) ?_
  refine VO.vv (OpV.load_own (i := 0) rfl hB Tryz.isAgg3 rfl rfl rfl (fun h => h)) ?_
  refine VO.op rfl (OpE.call rfl hB rfl Tryz.call160 rfl (SpecN.spec (panel_isSize)) ?_)
  rintro _ rfl
  refine VO.vv (OpV.not rfl rfl) ?_
  refine VO.mw ?_
  refine VO.opG rfl rfl rfl rfl (fun aK1b => ?_) (fun aK1b => ?_)
  · replace aK1b : _ = false := aK1b
    have aK1 := aK1b
    try simp only [qq] at aK1
    refine OpE.val (W := NoB) (OpV.fieldAddrO 1 rfl Tryz.underlying32 rfl rfl Tryz.sizeOf3 rfl) rfl ?_
    refine VO.opY rfl rfl rfl rfl aK1b ?_
    refine OpE.val (W := NoB) (OpV.load_own (i := 0) rfl hB Tryz.isAgg3 rfl rfl rfl (fun h => h)) rfl ?_
    refine VO.opY rfl rfl rfl rfl aK1b ?_
    refine OpE.call rfl hB rfl Tryz.call160 rfl (SpecN.spec (panel_isSize)) ?_
    rintro _ rfl
    refine VO.opY rfl rfl rfl rfl aK1b ?_
    refine OpE.val (W := NoB) (OpV.not rfl rfl) rfl ?_
    refine VO.vv (OpV.pickF rfl rfl rfl rfl aK1b) ?_
    refine VO.nil ?_
    refine VC.cond rfl (fun aH2b => ?_) (fun aH2b => ?_)
    · have aH2 := aH2b
      try simp only [qq] at aH2
      refine VC.sr ?_
      refine VO.mb ?_
      refine VO.nil ?_
      refine VC.ret ?_
      exact Exists.intro _ (And.intro (RetN.one Tryz.results74 (ResN.v rfl)) (by first | rw [panF_1 (or2a (by assumption))] | rw [panF_1 (or2b (by assumption))]))
    · have aH2 := aH2b
      try simp only [qq] at aH2
      refine VC.skip ?_
      refine VC.seq ?_
      refine VC.sr ?_
      refine VO.vv (OpV.fieldAddrO 2 rfl Tryz.underlying32 rfl rfl Tryz.sizeOf30 rfl) ?_
      refine VO.vv (OpV.load_own (i := 0) rfl hB Tryz.isAgg30 rfl rfl rfl (fun h => h)) ?_
      refine VO.vv (OpV.len_im rfl Tryz.underlying30 rfl) ?_
      refine VO.vv (OpV.gtr rfl rfl rfl) ?_
      refine VO.nil ?_
      refine VC.cond rfl (fun aH3b => ?_) (fun aH3b => ?_)
      · have aH3 := aH3b
        try simp only [qq] at aH3
        refine VC.sr ?_
        refine VO.mb ?_
        refine VO.nil ?_
        refine VC.ret ?_
        exact Exists.intro _ (And.intro (RetN.one Tryz.results74 (ResN.v rfl)) (by rw [panF_2 (or2f (by assumption) (by assumption)) (by omega)]))
      · have aH3 := aH3b
        try simp only [qq] at aH3
        refine VC.skip ?_
        refine VC.seq ?_
        refine VC.sr ?_
        refine VO.vv (OpV.fieldAddrO 2 rfl Tryz.underlying32 rfl rfl Tryz.sizeOf30 rfl) ?_
        refine VO.vv (OpV.load_own (i := 0) rfl hB Tryz.isAgg30 rfl rfl rfl (fun h => h)) ?_
        refine VO.vv (OpV.len_im rfl Tryz.underlying30 rfl) ?_
        refine VO.mw ?_
        refine VO.nil ?_
        refine VC.block ?_
        refine VC.loopK [(20, _), (21, _)] ⟨rfl, rfl, trivial⟩ ({q : Nat // q ≤ n.slots.length ∧ ∀ j, j < q → slotB (n.slots.getD j default) = false}) (fun (iZ : {q : Nat // q ≤ n.slots.length ∧ ∀ j, j < q → slotB (n.slots.getD j default) = false}) => match iZ with | ⟨q, hq, hn⟩ => [(22, avI (q : Int))]) (fun (iZ : {q : Nat // q ≤ n.slots.length ∧ ∀ j, j < q → slotB (n.slots.getD j default) = false}) => match iZ with | ⟨q, hq, hn⟩ => []) (fun (iZ : {q : Nat // q ≤ n.slots.length ∧ ∀ j, j < q → slotB (n.slots.getD j default) = false}) => match iZ with | ⟨q, hq, hn⟩ => 0) (fun (iZ : {q : Nat // q ≤ n.slots.length ∧ ∀ j, j < q → slotB (n.slots.getD j default) = false}) => match iZ with | ⟨q, hq, hn⟩ => n.slots.length - q) ⟨0, Nat.zero_le _, fun j hj => absurd hj (Nat.not_lt_zero j)⟩ (Le.mk hB [] ⟨rfl, rfl, rfl, trivial⟩ rfl rfl (Nat.le_refl _)) ?_
        rintro ⟨q, hq, hn⟩
        show VC _ _ _ _ ⟨[(22, avI (q : Int))] ++ [(20, _), (21, _)], [], 0⟩
        refine VC.sr ?_
        refine VO.vv (OpV.lss rfl rfl rfl) ?_
        refine VO.nil ?_
        refine VC.seq ?_
        refine VC.cond rfl (fun aH4b => ?_) (fun aH4b => ?_)
        · have aH4 := aH4b
          try simp only [qq] at aH4
          refine VC.skip ?_
          refine VC.seq ?_
          refine VC.block ?_
          refine VC.sr ?_
          refine VO.vv (OpV.indexAddr_E rfl Tryz.underlying30 Tryz.sizeOf39 rfl rfl rfl (by omega)) ?_
          refine VO.vv (OpV.loadK_at rfl hB OutW.no Tryz.isAgg39 Tryz.sizeOf39 rfl rfl) ?_
          refine VO.op rfl (OpE.alloc rfl hB rfl Tryz.zeroValue39 rfl ?_)
          intro g4
          refine VO.op rfl (OpE.store (i := 0) rfl hB rfl Tryz.sizeOf39 rfl rfl rfl rfl rfl rfl (Nle rfl) trivial ?_)
          refine VO.nil ?_
          refine VC.sr ?_
          refine VO.vv (OpV.fieldAddrO 0 rfl Tryz.underlying39 rfl rfl Tryz.sizeOf3 rfl) ?_
          refine VO.vv (OpV.load_own (i := 0) rfl hB Tryz.isAgg3 rfl rfl rfl (fun h => h)) ?_
          refine VO.op rfl (OpE.call rfl hB rfl Tryz.call161 rfl (SpecN.spec (kit_Outside)) ?_)
          rintro _ rfl
          refine VO.mw ?_
          refine VO.opG rfl rfl rfl rfl (fun aK5b => ?_) (fun aK5b => ?_)
          · replace aK5b : _ = false := aK5b
            have aK5 := aK5b
            try simp only [qq] at aK5
            refine OpE.val (W := NoB) (OpV.fieldAddrO 1 rfl Tryz.underlying39 rfl rfl Tryz.sizeOf3 rfl) rfl ?_
            refine VO.opY rfl rfl rfl rfl aK5b ?_
            refine OpE.val (W := NoB) (OpV.load_own (i := 0) rfl hB Tryz.isAgg3 rfl rfl rfl (fun h => h)) rfl ?_
            refine VO.opY rfl rfl rfl rfl aK5b ?_
            refine OpE.call rfl hB rfl Tryz.call161 rfl (SpecN.spec (kit_Outside)) ?_
            rintro _ rfl
            refine VO.vv (OpV.pickF rfl rfl rfl rfl aK5b) ?_
            refine VO.mw ?_
            refine VO.opG rfl rfl rfl rfl (fun aK6b => ?_) (fun aK6b => ?_)
            · replace aK6b : _ = false := aK6b
              have aK6 := aK6b
              try simp only [qq] at aK6
              refine OpE.val (W := NoB) (OpV.fieldAddrO 2 rfl Tryz.underlying39 rfl rfl Tryz.sizeOf3 rfl) rfl ?_
              refine VO.opY rfl rfl rfl rfl aK6b ?_
              refine OpE.val (W := NoB) (OpV.load_own (i := 0) rfl hB Tryz.isAgg3 rfl rfl rfl (fun h => h)) rfl ?_
              refine VO.opY rfl rfl rfl rfl aK6b ?_
              refine OpE.call rfl hB rfl Tryz.call161 rfl (SpecN.spec (kit_Outside)) ?_
              rintro _ rfl
              refine VO.vv (OpV.pickF rfl rfl rfl rfl aK6b) ?_
              refine VO.nil ?_
              refine VC.cond rfl (fun aH7b => ?_) (fun aH7b => ?_)
              · have aH7 := aH7b
                try simp only [qq] at aH7
                refine VC.sr ?_
                refine VO.mb ?_
                refine VO.nil ?_
                refine VC.ret ?_
                exact Exists.intro _ (And.intro (RetN.one Tryz.results74 (ResN.v rfl)) (by first | rw [panF_3 (q := q) (or2f (by assumption) (by assumption)) (by omega) (by omega) (or3a (by assumption))] | rw [panF_3 (q := q) (or2f (by assumption) (by assumption)) (by omega) (by omega) (or3b (by assumption))] | rw [panF_3 (q := q) (or2f (by assumption) (by assumption)) (by omega) (by omega) (or3c (by assumption))]))
              · have aH7 := aH7b
                try simp only [qq] at aH7
                refine VC.skip ?_
                refine VC.region ?_
                refine VO.vv (OpV.add rfl rfl rfl (by unfold fits; omega)) ?_
                refine VO.mw ?_
                refine VO.nil ?_
                exact Exists.intro (⟨q + 1, by omega, lt_succ_cases hn (or3f (by assumption) (by assumption) (by assumption))⟩) (And.intro (Le.mk hB [] ⟨rfl, rfl, rfl, trivial⟩ rfl rfl (Nat.le_refl _)) (by first | omega | (show _ < _; omega) | (simp only []; omega)))
            · replace aK6b : _ = true := aK6b
              have aK6 := aK6b
              try simp only [qq] at aK6
              refine VO.opX rfl rfl rfl rfl aK6b ?_
              refine VO.opX rfl rfl rfl rfl aK6b ?_
              refine VO.vv (OpV.pickT rfl rfl rfl rfl aK6b) ?_
              refine VO.nil ?_
              refine VC.condT rfl rfl ?_
              refine VC.sr ?_
              refine VO.mb ?_
              refine VO.nil ?_
              refine VC.ret ?_
              exact Exists.intro _ (And.intro (RetN.one Tryz.results74 (ResN.v rfl)) (by first | rw [panF_3 (q := q) (or2f (by assumption) (by assumption)) (by omega) (by omega) (or3a (by assumption))] | rw [panF_3 (q := q) (or2f (by assumption) (by assumption)) (by omega) (by omega) (or3b (by assumption))] | rw [panF_3 (q := q) (or2f (by assumption) (by assumption)) (by omega) (by omega) (or3c (by assumption))]))
          · replace aK5b : _ = true := aK5b
            have aK5 := aK5b
            try simp only [qq] at aK5
            refine VO.opX rfl rfl rfl rfl aK5b ?_
            refine VO.opX rfl rfl rfl rfl aK5b ?_
            refine VO.vv (OpV.pickT rfl rfl rfl rfl aK5b) ?_
            refine VO.mw ?_
            refine VO.opX rfl rfl rfl rfl rfl ?_
            refine VO.opX rfl rfl rfl rfl rfl ?_
            refine VO.opX rfl rfl rfl rfl rfl ?_
            refine VO.vv (OpV.pickT rfl rfl rfl rfl rfl) ?_
            refine VO.nil ?_
            refine VC.condT rfl rfl ?_
            refine VC.sr ?_
            refine VO.mb ?_
            refine VO.nil ?_
            refine VC.ret ?_
            exact Exists.intro _ (And.intro (RetN.one Tryz.results74 (ResN.v rfl)) (by first | rw [panF_3 (q := q) (or2f (by assumption) (by assumption)) (by omega) (by omega) (or3a (by assumption))] | rw [panF_3 (q := q) (or2f (by assumption) (by assumption)) (by omega) (by omega) (or3b (by assumption))] | rw [panF_3 (q := q) (or2f (by assumption) (by assumption)) (by omega) (by omega) (or3c (by assumption))]))
        · have aH4 := aH4b
          try simp only [qq] at aH4
          refine VC.exit ?_
          refine VC.sr ?_
          refine VO.mb ?_
          refine VO.nil ?_
          refine VC.ret ?_
          exact Exists.intro _ (And.intro (RetN.one Tryz.results74 (ResN.v rfl)) (by rw [panF_0 (or2f (by assumption) (by assumption)) (by omega) (fun j hj => hn j (by omega))]))
  · replace aK1b : _ = true := aK1b
    have aK1 := aK1b
    try simp only [qq] at aK1
    refine VO.opX rfl rfl rfl rfl aK1b ?_
    refine VO.opX rfl rfl rfl rfl aK1b ?_
    refine VO.opX rfl rfl rfl rfl aK1b ?_
    refine VO.vv (OpV.pickT rfl rfl rfl rfl aK1b) ?_
    refine VO.nil ?_
    refine VC.condT rfl rfl ?_
    refine VC.sr ?_
    refine VO.mb ?_
    refine VO.nil ?_
    refine VC.ret ?_
    exact Exists.intro _ (And.intro (RetN.one Tryz.results74 (ResN.v rfl)) (by first | rw [panF_1 (or2a (by assumption))] | rw [panF_1 (or2b (by assumption))]))
theorem rf_panelFault {n : PanS} (hl : n.slots.length ≤ 1000000) :
    SpecN Tryz.prog 158 [avPan n] (fun y => y = avI (panF n)) := by
  refine SpecN.of_VCN Tryz.func158 rfl Tryz.ntmps158 (Nle rfl) fun w A hB => ?_
  refine VC.sr ?_
  refine VO.op rfl (OpE.box rfl hB rfl rfl rfl ?_)
  intro g1
  refine VO.mb ?_
  refine VO.nil ?_
  refine VC.seq ?_
  refine VC.block ?_
  refine VC.sr ?_
  refine VO.vv (OpV.fieldAddrO 0 rfl Tryz.underlying32 rfl rfl Tryz.sizeOf3 rfl) ?_
  refine VO.vv (OpV.load_own (i := 0) rfl hB Tryz.isAgg3 rfl rfl rfl (fun h => h)) ?_
  refine VO.op rfl (OpE.call rfl hB rfl Tryz.call157 rfl (SpecN.spec (rf_in)) ?_)
  rintro _ rfl
  refine VO.vv (OpV.not rfl rfl) ?_
  refine VO.mw ?_
  refine VO.opG rfl rfl rfl rfl (fun aK1b => ?_) (fun aK1b => ?_)
  · replace aK1b : _ = false := aK1b
    have aK1 := aK1b
    try simp only [qq] at aK1
    refine OpE.val (W := NoB) (OpV.fieldAddrO 1 rfl Tryz.underlying32 rfl rfl Tryz.sizeOf3 rfl) rfl ?_
    refine VO.opY rfl rfl rfl rfl aK1b ?_
    refine OpE.val (W := NoB) (OpV.load_own (i := 0) rfl hB Tryz.isAgg3 rfl rfl rfl (fun h => h)) rfl ?_
    refine VO.opY rfl rfl rfl rfl aK1b ?_
    refine OpE.call rfl hB rfl Tryz.call157 rfl (SpecN.spec (rf_in)) ?_
    rintro _ rfl
    refine VO.opY rfl rfl rfl rfl aK1b ?_
    refine OpE.val (W := NoB) (OpV.not rfl rfl) rfl ?_
    refine VO.vv (OpV.pickF rfl rfl rfl rfl aK1b) ?_
    refine VO.mb ?_
    refine VO.nil ?_
    refine VC.cond rfl (fun aH2b => ?_) (fun aH2b => ?_)
    · have aH2 := aH2b
      try simp only [qq] at aH2
      refine VC.sr ?_
      refine VO.mb ?_
      refine VO.nil ?_
      refine VC.ret ?_
      exact Exists.intro _ (And.intro (RetN.one Tryz.results158 (ResN.v rfl)) (by first | rw [panF_1 (or2a (oin (by assumption)))] | rw [panF_1 (or2b (oin (by assumption)))]))
    · have aH2 := aH2b
      try simp only [qq] at aH2
      refine VC.sr ?_
      refine VO.vv (OpV.fieldAddrO 2 rfl Tryz.underlying32 rfl rfl Tryz.sizeOf30 rfl) ?_
      refine VO.vv (OpV.load_own (i := 0) rfl hB Tryz.isAgg30 rfl rfl rfl (fun h => h)) ?_
      refine VO.vv (OpV.len_im rfl Tryz.underlying30 rfl) ?_
      refine VO.vv (OpV.gtr rfl rfl rfl) ?_
      refine VO.mb ?_
      refine VO.nil ?_
      refine VC.cond rfl (fun aH3b => ?_) (fun aH3b => ?_)
      · have aH3 := aH3b
        try simp only [qq] at aH3
        refine VC.sr ?_
        refine VO.mb ?_
        refine VO.nil ?_
        refine VC.ret ?_
        exact Exists.intro _ (And.intro (RetN.one Tryz.results158 (ResN.v rfl)) (by rw [panF_2 (or2f (oin (by assumption)) (oin (by assumption))) (by omega)]))
      · have aH3 := aH3b
        try simp only [qq] at aH3
        refine VC.skip ?_
        refine VC.seq ?_
        refine VC.sr ?_
        refine VO.vv (OpV.fieldAddrO 2 rfl Tryz.underlying32 rfl rfl Tryz.sizeOf30 rfl) ?_
        refine VO.vv (OpV.load_own (i := 0) rfl hB Tryz.isAgg30 rfl rfl rfl (fun h => h)) ?_
        refine VO.vv (OpV.len_im rfl Tryz.underlying30 rfl) ?_
        refine VO.mw ?_
        refine VO.nil ?_
        refine VC.block ?_
        refine VC.loopK [(22, _), (23, _)] ⟨rfl, rfl, trivial⟩ ({q : Nat // q ≤ n.slots.length ∧ ∀ j, j < q → slotB (n.slots.getD j default) = false}) (fun (iZ : {q : Nat // q ≤ n.slots.length ∧ ∀ j, j < q → slotB (n.slots.getD j default) = false}) => match iZ with | ⟨q, hq, hn⟩ => [(24, avI (q : Int))]) (fun (iZ : {q : Nat // q ≤ n.slots.length ∧ ∀ j, j < q → slotB (n.slots.getD j default) = false}) => match iZ with | ⟨q, hq, hn⟩ => []) (fun (iZ : {q : Nat // q ≤ n.slots.length ∧ ∀ j, j < q → slotB (n.slots.getD j default) = false}) => match iZ with | ⟨q, hq, hn⟩ => 0) (fun (iZ : {q : Nat // q ≤ n.slots.length ∧ ∀ j, j < q → slotB (n.slots.getD j default) = false}) => match iZ with | ⟨q, hq, hn⟩ => n.slots.length - q) ⟨0, Nat.zero_le _, fun j hj => absurd hj (Nat.not_lt_zero j)⟩ (Le.mk hB [] ⟨rfl, rfl, rfl, trivial⟩ rfl rfl (Nat.le_refl _)) ?_
        rintro ⟨q, hq, hn⟩
        show VC _ _ _ _ ⟨[(24, avI (q : Int))] ++ [(22, _), (23, _)], [], 0⟩
        refine VC.sr ?_
        refine VO.vv (OpV.lss rfl rfl rfl) ?_
        refine VO.nil ?_
        refine VC.seq ?_
        refine VC.cond rfl (fun aH4b => ?_) (fun aH4b => ?_)
        · have aH4 := aH4b
          try simp only [qq] at aH4
          refine VC.skip ?_
          refine VC.seq ?_
          refine VC.block ?_
          refine VC.sr ?_
          refine VO.vv (OpV.indexAddr_E rfl Tryz.underlying30 Tryz.sizeOf39 rfl rfl rfl (by omega)) ?_
          refine VO.vv (OpV.loadK_at rfl hB OutW.no Tryz.isAgg39 Tryz.sizeOf39 rfl rfl) ?_
          refine VO.op rfl (OpE.alloc rfl hB rfl Tryz.zeroValue39 rfl ?_)
          intro g4
          refine VO.op rfl (OpE.store (i := 0) rfl hB rfl Tryz.sizeOf39 rfl rfl rfl rfl rfl rfl (Nle rfl) trivial ?_)
          refine VO.nil ?_
          refine VC.sr ?_
          refine VO.vv (OpV.fieldAddrO 0 rfl Tryz.underlying39 rfl rfl Tryz.sizeOf3 rfl) ?_
          refine VO.vv (OpV.load_own (i := 0) rfl hB Tryz.isAgg3 rfl rfl rfl (fun h => h)) ?_
          refine VO.op rfl (OpE.call rfl hB rfl Tryz.call157 rfl (SpecN.spec (rf_in)) ?_)
          rintro _ rfl
          refine VO.vv (OpV.not rfl rfl) ?_
          refine VO.mw ?_
          refine VO.opG rfl rfl rfl rfl (fun aK5b => ?_) (fun aK5b => ?_)
          · replace aK5b : _ = false := aK5b
            have aK5 := aK5b
            try simp only [qq] at aK5
            refine OpE.val (W := NoB) (OpV.fieldAddrO 1 rfl Tryz.underlying39 rfl rfl Tryz.sizeOf3 rfl) rfl ?_
            refine VO.opY rfl rfl rfl rfl aK5b ?_
            refine OpE.val (W := NoB) (OpV.load_own (i := 0) rfl hB Tryz.isAgg3 rfl rfl rfl (fun h => h)) rfl ?_
            refine VO.opY rfl rfl rfl rfl aK5b ?_
            refine OpE.call rfl hB rfl Tryz.call157 rfl (SpecN.spec (rf_in)) ?_
            rintro _ rfl
            refine VO.opY rfl rfl rfl rfl aK5b ?_
            refine OpE.val (W := NoB) (OpV.not rfl rfl) rfl ?_
            refine VO.vv (OpV.pickF rfl rfl rfl rfl aK5b) ?_
            refine VO.mw ?_
            refine VO.opG rfl rfl rfl rfl (fun aK6b => ?_) (fun aK6b => ?_)
            · replace aK6b : _ = false := aK6b
              have aK6 := aK6b
              try simp only [qq] at aK6
              refine OpE.val (W := NoB) (OpV.fieldAddrO 2 rfl Tryz.underlying39 rfl rfl Tryz.sizeOf3 rfl) rfl ?_
              refine VO.opY rfl rfl rfl rfl aK6b ?_
              refine OpE.val (W := NoB) (OpV.load_own (i := 0) rfl hB Tryz.isAgg3 rfl rfl rfl (fun h => h)) rfl ?_
              refine VO.opY rfl rfl rfl rfl aK6b ?_
              refine OpE.call rfl hB rfl Tryz.call157 rfl (SpecN.spec (rf_in)) ?_
              rintro _ rfl
              refine VO.opY rfl rfl rfl rfl aK6b ?_
              refine OpE.val (W := NoB) (OpV.not rfl rfl) rfl ?_
              refine VO.vv (OpV.pickF rfl rfl rfl rfl aK6b) ?_
              refine VO.nil ?_
              refine VC.cond rfl (fun aH7b => ?_) (fun aH7b => ?_)
              · have aH7 := aH7b
                try simp only [qq] at aH7
                refine VC.sr ?_
                refine VO.mb ?_
                refine VO.nil ?_
                refine VC.ret ?_
                exact Exists.intro _ (And.intro (RetN.one Tryz.results158 (ResN.v rfl)) (by first | rw [panF_3 (q := q) (or2f (oin (by assumption)) (oin (by assumption))) (by omega) (by omega) (or3a (oin (by assumption)))] | rw [panF_3 (q := q) (or2f (oin (by assumption)) (oin (by assumption))) (by omega) (by omega) (or3b (oin (by assumption)))] | rw [panF_3 (q := q) (or2f (oin (by assumption)) (oin (by assumption))) (by omega) (by omega) (or3c (oin (by assumption)))]))
              · have aH7 := aH7b
                try simp only [qq] at aH7
                refine VC.skip ?_
                refine VC.region ?_
                refine VO.vv (OpV.add rfl rfl rfl (by unfold fits; omega)) ?_
                refine VO.mw ?_
                refine VO.nil ?_
                exact Exists.intro (⟨q + 1, by omega, lt_succ_cases hn (or3f (oin (by assumption)) (oin (by assumption)) (oin (by assumption)))⟩) (And.intro (Le.mk hB [] ⟨rfl, rfl, rfl, trivial⟩ rfl rfl (Nat.le_refl _)) (by first | omega | (show _ < _; omega) | (simp only []; omega)))
            · replace aK6b : _ = true := aK6b
              have aK6 := aK6b
              try simp only [qq] at aK6
              refine VO.opX rfl rfl rfl rfl aK6b ?_
              refine VO.opX rfl rfl rfl rfl aK6b ?_
              refine VO.opX rfl rfl rfl rfl aK6b ?_
              refine VO.vv (OpV.pickT rfl rfl rfl rfl aK6b) ?_
              refine VO.nil ?_
              refine VC.condT rfl rfl ?_
              refine VC.sr ?_
              refine VO.mb ?_
              refine VO.nil ?_
              refine VC.ret ?_
              exact Exists.intro _ (And.intro (RetN.one Tryz.results158 (ResN.v rfl)) (by first | rw [panF_3 (q := q) (or2f (oin (by assumption)) (oin (by assumption))) (by omega) (by omega) (or3a (oin (by assumption)))] | rw [panF_3 (q := q) (or2f (oin (by assumption)) (oin (by assumption))) (by omega) (by omega) (or3b (oin (by assumption)))] | rw [panF_3 (q := q) (or2f (oin (by assumption)) (oin (by assumption))) (by omega) (by omega) (or3c (oin (by assumption)))]))
          · replace aK5b : _ = true := aK5b
            have aK5 := aK5b
            try simp only [qq] at aK5
            refine VO.opX rfl rfl rfl rfl aK5b ?_
            refine VO.opX rfl rfl rfl rfl aK5b ?_
            refine VO.opX rfl rfl rfl rfl aK5b ?_
            refine VO.vv (OpV.pickT rfl rfl rfl rfl aK5b) ?_
            refine VO.mw ?_
            refine VO.opX rfl rfl rfl rfl rfl ?_
            refine VO.opX rfl rfl rfl rfl rfl ?_
            refine VO.opX rfl rfl rfl rfl rfl ?_
            refine VO.opX rfl rfl rfl rfl rfl ?_
            refine VO.vv (OpV.pickT rfl rfl rfl rfl rfl) ?_
            refine VO.nil ?_
            refine VC.condT rfl rfl ?_
            refine VC.sr ?_
            refine VO.mb ?_
            refine VO.nil ?_
            refine VC.ret ?_
            exact Exists.intro _ (And.intro (RetN.one Tryz.results158 (ResN.v rfl)) (by first | rw [panF_3 (q := q) (or2f (oin (by assumption)) (oin (by assumption))) (by omega) (by omega) (or3a (oin (by assumption)))] | rw [panF_3 (q := q) (or2f (oin (by assumption)) (oin (by assumption))) (by omega) (by omega) (or3b (oin (by assumption)))] | rw [panF_3 (q := q) (or2f (oin (by assumption)) (oin (by assumption))) (by omega) (by omega) (or3c (oin (by assumption)))]))
        · have aH4 := aH4b
          try simp only [qq] at aH4
          refine VC.exit ?_
          refine VC.sr ?_
          refine VO.mb ?_
          refine VO.nil ?_
          refine VC.ret ?_
          exact Exists.intro _ (And.intro (RetN.one Tryz.results158 (ResN.v rfl)) (by rw [panF_0 (or2f (oin (by assumption)) (oin (by assumption))) (by omega) (fun j hj => hn j (by omega))]))
  · replace aK1b : _ = true := aK1b
    have aK1 := aK1b
    try simp only [qq] at aK1
    refine VO.opX rfl rfl rfl rfl aK1b ?_
    refine VO.opX rfl rfl rfl rfl aK1b ?_
    refine VO.opX rfl rfl rfl rfl aK1b ?_
    refine VO.vv (OpV.pickT rfl rfl rfl rfl aK1b) ?_
    refine VO.mb ?_
    refine VO.nil ?_
    refine VC.condT rfl rfl ?_
    refine VC.sr ?_
    refine VO.mb ?_
    refine VO.nil ?_
    refine VC.ret ?_
    exact Exists.intro _ (And.intro (RetN.one Tryz.results158 (ResN.v rfl)) (by first | rw [panF_1 (or2a (oin (by assumption)))] | rw [panF_1 (or2b (oin (by assumption)))]))
theorem panel_CheckPanel {p : ProdS} {n : PanS} (hs : SmP p) (hl : n.slots.length ≤ 1000000) :
  SpecN Tryz.prog 72 [avProd p, avPan n] (fun y => y = avI (panelF p n)) := by
 refine SpecN.of_VCN Tryz.func72 rfl Tryz.ntmps72 (Nle rfl) fun w A hB => ?_
 refine VC.sr ?_
 refine VO.op rfl (OpE.box rfl hB rfl rfl rfl ?_)
 intro g2
 refine VO.op rfl (OpE.box rfl hB rfl rfl rfl ?_)
 intro g3
 refine VO.mb ?_
 refine VO.nil ?_
 refine VC.seq ?_
 refine VC.sr ?_
 refine VO.vv (OpV.loadK_own (i := 0) rfl hB Tryz.isAgg28 Tryz.sizeOf28 rfl rfl rfl (fun h => h)) ?_
 refine VO.op rfl (OpE.call rfl hB rfl Tryz.call159 rfl (SpecN.spec (panel_CheckProduct hs)) ?_)
 rintro _ rfl
 refine VO.mb ?_
 refine VO.nil ?_
 refine VC.sr ?_
 refine VO.mw ?_
 refine VO.vv (OpV.neq rfl rfl rfl) ?_
 refine VO.nil ?_
 refine VC.cond rfl (fun h0b => ?_) (fun h0b => ?_)
 ·have h0 := h0b
  try simp only [qq] at h0
  refine VC.sr ?_
  refine VO.mw ?_
  refine VO.mb ?_
  refine VO.nil ?_
  refine VC.ret ?_
  exact Exists.intro _ (And.intro (RetN.one Tryz.results72 (ResN.v rfl)) (by first | rw [panelF, if_pos h0] | rw [panelF, if_neg h0]))
 ·have h0 := h0b
  try simp only [qq] at h0
  refine VC.skip ?_
  refine VC.sr ?_
  refine VO.vv (OpV.loadK_own (i := 1) rfl hB Tryz.isAgg32 Tryz.sizeOf32 rfl rfl rfl (fun h => h)) ?_
  refine VO.op rfl (OpE.call rfl hB rfl Tryz.call74 rfl (SpecN.spec (panel_panelFault hl)) ?_)
  rintro _ rfl
  refine VO.mb ?_
  refine VO.nil ?_
  refine VC.ret ?_
  exact Exists.intro _ (And.intro (RetN.one Tryz.results72 (ResN.v rfl)) (by first | rw [panelF, if_pos h0] | rw [panelF, if_neg h0]))
theorem rf_PanelFault {p : ProdS} {n : PanS} (hs : SmP p) (hl : n.slots.length ≤ 1000000) :
  SpecN Tryz.prog 71 [avProd p, avPan n] (fun y => y = avI (panelF p n)) := by
 refine SpecN.of_VCN Tryz.func71 rfl Tryz.ntmps71 (Nle rfl) fun w A hB => ?_
 refine VC.sr ?_
 refine VO.op rfl (OpE.box rfl hB rfl rfl rfl ?_)
 intro g2
 refine VO.op rfl (OpE.box rfl hB rfl rfl rfl ?_)
 intro g3
 refine VO.mb ?_
 refine VO.nil ?_
 refine VC.seq ?_
 refine VC.sr ?_
 refine VO.vv (OpV.loadK_own (i := 0) rfl hB Tryz.isAgg28 Tryz.sizeOf28 rfl rfl rfl (fun h => h)) ?_
 refine VO.op rfl (OpE.call rfl hB rfl Tryz.call69 rfl (SpecN.spec (rf_ProductFault hs)) ?_)
 rintro _ rfl
 refine VO.mb ?_
 refine VO.nil ?_
 refine VC.sr ?_
 refine VO.mw ?_
 refine VO.vv (OpV.neq rfl rfl rfl) ?_
 refine VO.nil ?_
 refine VC.cond rfl (fun h0b => ?_) (fun h0b => ?_)
 ·have h0 := h0b
  try simp only [qq] at h0
  refine VC.sr ?_
  refine VO.mw ?_
  refine VO.mb ?_
  refine VO.nil ?_
  refine VC.ret ?_
  exact Exists.intro _ (And.intro (RetN.one Tryz.results71 (ResN.v rfl)) (by first | rw [panelF, if_pos h0] | rw [panelF, if_neg h0]))
 ·have h0 := h0b
  try simp only [qq] at h0
  refine VC.skip ?_
  refine VC.sr ?_
  refine VO.vv (OpV.loadK_own (i := 1) rfl hB Tryz.isAgg32 Tryz.sizeOf32 rfl rfl rfl (fun h => h)) ?_
  refine VO.op rfl (OpE.call rfl hB rfl Tryz.call158 rfl (SpecN.spec (rf_panelFault hl)) ?_)
  rintro _ rfl
  refine VO.mb ?_
  refine VO.nil ?_
  refine VC.ret ?_
  exact Exists.intro _ (And.intro (RetN.one Tryz.results71 (ResN.v rfl)) (by first | rw [panelF, if_pos h0] | rw [panelF, if_neg h0]))
theorem panel_size {p : ProdS} {q : Int} (hq : 0 ≤ q ∧ q ≤ 3) :
  SpecN Tryz.prog 73 [avProd p, avI q] (fun y => y = .tup [avI (szW p q), avI (szH p q)]) := by
 refine SpecN.of_VCN Tryz.func73 rfl Tryz.ntmps73 (Nle rfl) fun w A hB => ?_
 refine VC.sr ?_
 refine VO.op rfl (OpE.box rfl hB rfl rfl rfl ?_)
 intro g2
 refine VO.mb ?_
 refine VO.mb ?_
 refine VO.nil ?_
 refine VC.seq ?_
 refine VC.sr ?_
 refine VO.mw ?_
 refine VO.vv (OpV.rem rfl rfl rfl (by omega) (by have := tmod2 hq; unfold fits; omega)) ?_
 refine VO.vv (OpV.eql rfl rfl rfl) ?_
 refine VO.nil ?_
 refine VC.cond rfl (fun h0b => ?_) (fun h0b => ?_)
 ·have h0 := h0b
  try simp only [qq] at h0
  refine VC.seq ?_
  refine VC.draw (fun _ => NoB) hB (by kernel_rfl) ?_
  refine VA.tk (i := 0) rfl (OpV.fieldAddrO 2 rfl Tryz.underlying28 rfl rfl Tryz.sizeOf3 rfl) ?_
  refine VA.tk (i := 1) rfl (OpV.load_own (i := 0) rfl hB Tryz.isAgg3 rfl rfl rfl Wi.not0) ?_
  refine VA.tk (i := 2) rfl (OpV.fieldAddrO 1 rfl Tryz.underlying28 rfl rfl Tryz.sizeOf3 rfl) ?_
  refine VA.tk (i := 3) rfl (OpV.load_own (i := 0) rfl hB Tryz.isAgg3 rfl rfl rfl Wi.not0) ?_
  refine VA.tk (i := 4) rfl (OpV.move (.inr rfl) rfl) ?_
  refine VA.tk (i := 5) rfl (OpV.move (.inr rfl) rfl) ?_
  refine VA.done (by kernel_rfl) ?_
  refine VC.ret ?_
  exact Exists.intro _ (And.intro (RetN.two Tryz.results73 (ResN.v rfl) (ResN.v rfl)) (by first | (rw [szW, szH, if_pos h0, if_pos h0]) | (rw [szW, szH, if_neg h0, if_neg h0])))
 ·have h0 := h0b
  try simp only [qq] at h0
  refine VC.skip ?_
  refine VC.seq ?_
  refine VC.draw (fun _ => NoB) hB (by kernel_rfl) ?_
  refine VA.tk (i := 0) rfl (OpV.fieldAddrO 1 rfl Tryz.underlying28 rfl rfl Tryz.sizeOf3 rfl) ?_
  refine VA.tk (i := 1) rfl (OpV.load_own (i := 0) rfl hB Tryz.isAgg3 rfl rfl rfl Wi.not0) ?_
  refine VA.tk (i := 2) rfl (OpV.fieldAddrO 2 rfl Tryz.underlying28 rfl rfl Tryz.sizeOf3 rfl) ?_
  refine VA.tk (i := 3) rfl (OpV.load_own (i := 0) rfl hB Tryz.isAgg3 rfl rfl rfl Wi.not0) ?_
  refine VA.tk (i := 4) rfl (OpV.move (.inr rfl) rfl) ?_
  refine VA.tk (i := 5) rfl (OpV.move (.inr rfl) rfl) ?_
  refine VA.done (by kernel_rfl) ?_
  refine VC.ret ?_
  exact Exists.intro _ (And.intro (RetN.two Tryz.results73 (ResN.v rfl) (ResN.v rfl)) (by first | (rw [szW, szH, if_pos h0, if_pos h0]) | (rw [szW, szH, if_neg h0, if_neg h0])))
theorem szW_bd {p : ProdS} {q : Int} (hw : 1 ≤ p.wide ∧ p.wide ≤ 500000) (hh : 1 ≤ p.high ∧ p.high ≤ 500000) : (1 ≤ szW p q ∧ szW p q ≤ 500000) ∧ 1 ≤ szH p q ∧ szH p q ≤ 500000 := by
 unfold szW szH; split <;> omega
end
section
theorem nil_prod {w : World} {Z : Nat → Prop} {u : Value} {a : ByteArray} {b c : Int} (h : Rep w Z (.agg [avS a, avI b, avI c, .v (.slice none 0 0)]) u) : Rep w Z (avProd ⟨a, b, c, []⟩) u := by
 cases h with
 | agg cs us hl hr =>
  refine .agg _ us hl fun j hj => ?_
  match j, hj with
  | 0, _ => exact hr 0 (by simp)
  | 1, _ => exact hr 1 (by simp)
  | 2, _ => exact hr 2 (by simp)
  | 3, _ =>
   have := hr 3 (by simp)
   show Rep w Z (.im 0 5 _) _
   rw [this.eq_v]; exact .nil _ _
theorem nil_panel {w : World} {Z : Nat → Prop} {u : Value} {a b : Int} (h : Rep w Z (.agg [avI a, avI b, .v (.slice none 0 0)]) u) : Rep w Z (avPan ⟨a, b, []⟩) u := by
 cases h with
 | agg cs us hl hr =>
  refine .agg _ us hl fun j hj => ?_
  match j, hj with
  | 0, _ => exact hr 0 (by simp)
  | 1, _ => exact hr 1 (by simp)
  | 2, _ =>
   have := hr 2 (by simp)
   show Rep w Z (.im 0 4 _) _
   rw [this.eq_v]; exact .nil _ _
def plainP : ProdS := ⟨⟨#[112]⟩, 10, 10, []⟩
theorem plainP_sm : SmP plainP := ⟨by decide, by decide, fun i => by show (([] : List PlaceS).getD i default).name.size ≤ _; simp; decide, fun i => by show (([] : List PlaceS).getD i default).part.size ≤ _; simp; decide⟩
theorem plainP_ok : prodF plainP = 0 := by decide +kernel
end
section
def keysBd : List ByteArray := [⟨#[99, 97, 112]⟩, ⟨#[105, 99]⟩, ⟨#[114, 101, 115]⟩]
theorem keysBd_size (q : Nat) : (keysBd.getD q ByteArray.empty).size ≤ 1000 := by
 match q with
 | 0 => decide
 | 1 => decide
 | 2 => decide
 | q + 3 => simp [keysBd]
def BOk (l : List BodyS) : Prop := ∀ x ∈ l, x.part.size ≤ 1000
theorem BOk.snoc {l : List BodyS} (h : BOk l) {x : BodyS} (hx : x.part.size ≤ 1000) : BOk (l ++ [x]) := fun y hy => by
 rcases List.mem_append.1 hy with hy | hy
 ·exact h y hy
 ·simp at hy; subst hy; exact hx
theorem BOk.set {l : List BodyS} (h : BOk l) (q : Nat) {x : BodyS} (hx : x.part.size ≤ 1000) : BOk (l.set q x) := fun y hy => by
 rcases List.mem_or_eq_of_mem_set hy with h' | rfl
 ·exact h y h'
 ·exact hx
theorem BOk.getD {l : List BodyS} (h : BOk l) (i : Nat) : (l.getD i default).part.size ≤ 1000 := by
 rw [List.getD_eq_getElem?_getD]
 cases hi : l[i]? with
 | none => decide
 | some x => exact h x (List.mem_of_getElem? hi)
theorem BOk.sm {l : List BodyS} (hl : l.length ≤ 3) (ho : BOk l) : SmB l := ⟨by omega, fun i => by have := ho.getD i; omega⟩
theorem getD_setB {α : Type} {xs : List α} {q : Nat} {x d : α} (h : q < xs.length) : (xs.set q x).getD q d = x := by simp [h]
theorem bd_upd {a b : BodyS} {k : Nat} (h0 : k = 0 ∨ a.part = b.part) (h1 : k = 1 ∨ a.wide = b.wide) (h2 : k = 2 ∨ a.high = b.high) : ∀ i, i < 3 → i ≠ k → Sxc.cell a i = Sxc.cell b i := fun i hi hn => by
 match i, hi with
 | 0, _ => show avS a.part = avS b.part; rw [h0.resolve_left fun h => hn h.symm]
 | 1, _ => show avI a.wide = avI b.wide; rw [h1.resolve_left fun h => hn h.symm]
 | 2, _ => show avI a.high = avI b.high; rw [h2.resolve_left fun h => hn h.symm]
end
section
def pw2 : List Int := [300, 2500]
def ph2 : List Int := [200, 2500]
def slX (pr : ProdS) : List Int := [0, 10, 100, 150, max 0 (min pr.wide 1000)]
def slY (pr : ProdS) : List Int := [0, 40, 60, 100, max 0 (min pr.high 1000)]
def slQ : List Int := [0, 0, 1, 2, 3]
def slNew (L : List Int) (pr : ProdS) (j : Nat) : SlotS := ⟨pickV L j (slX pr), pickV L (j + 1) (slY pr), pickV L (j + 2) slQ, decide (nxt L (j + 3) 5 = 0)⟩
def slL (L : List Int) (pr : ProdS) (k : Nat) : Nat → List SlotS
 | 0 => []
 | q + 1 => slL L pr k q ++ [slNew L pr (k + 4 * q)]
def pnTail (L : List Int) (w h : Int) (l : List SlotS) (j : Nat) : PanS × Nat :=
 if nxt L j 12 = 0 then
  if 0 < l.length then
   if nxt L (j + 1) 2 = 0 then
    (⟨w, h, l.set (nxt L (j + 2) l.length).toNat ⟨pickV L (j + 3) [(l.getD (nxt L (j + 2) l.length).toNat default).x, -1, 500001], pickV L (j + 4) [(l.getD (nxt L (j + 2) l.length).toNat default).y, (l.getD (nxt L (j + 2) l.length).toNat default).y, -1, 500000],
     pickV L (j + 5) [(l.getD (nxt L (j + 2) l.length).toNat default).quarter, 4, -1], (l.getD (nxt L (j + 2) l.length).toNat default).skip⟩⟩, j + 6)
   else (⟨pickV L (j + 2) [w, 0, 500001, 30], pickV L (j + 3) [h, -1, 20], l⟩, j + 4)
  else (⟨pickV L (j + 1) [w, 0, 500001, 30], pickV L (j + 2) [h, -1, 20], l⟩, j + 3)
 else (⟨w, h, l⟩, j + 1)
def slM (L : List Int) (k : Nat) : Nat := (rng L (k + 2) 0 5).toNat
def pnV (L : List Int) (pr : ProdS) (k : Nat) : PanS × Nat := pnTail L (pickV L k pw2) (pickV L (k + 1) ph2) (slL L pr (k + 3) (slM L k)) (k + 3 + 4 * slM L k)
section
variable {L : List Int} {pr : ProdS} {w h : Int} {q j k m : Nat} {l : List SlotS}
theorem slL_len : ∀ q, (slL L pr k q).length = q
 | 0 => rfl
 | q + 1 => by rw [slL, List.length_append, slL_len q]; rfl
theorem pnTail_0 (h0 : nxt L j 12 ≠ 0) : pnTail L w h l j = (⟨w, h, l⟩, j + 1) := if_neg h0
theorem pnTail_1 {r1 r2 : Int} (h0 : nxt L j 12 = 0) (h1 : l.length = 0) (e1 : pickV L (j + 1) [w, 0, 500001, 30] = r1) (e2 : pickV L (j + 2) [h, -1, 20] = r2) : pnTail L w h l j = (⟨r1, r2, l⟩, j + 3) := by
 rw [pnTail, if_pos h0, if_neg (by omega), e1, e2]
theorem pnTail_2 {r1 r2 : Int} (h0 : nxt L j 12 = 0) (h1 : 0 < l.length) (h2 : nxt L (j + 1) 2 ≠ 0) (e1 : pickV L (j + 2) [w, 0, 500001, 30] = r1) (e2 : pickV L (j + 3) [h, -1, 20] = r2) : pnTail L w h l j = (⟨r1, r2, l⟩, j + 4) := by
 rw [pnTail, if_pos h0, if_pos h1, if_neg h2, e1, e2]
theorem pnTail_3 {r1 r2 r3 : Int} (h0 : nxt L j 12 = 0) (h1 : 0 < l.length) (h2 : nxt L (j + 1) 2 = 0) (hm : nxt L (j + 2) l.length = (m : Int)) (e1 : pickV L (j + 3) [(xB l m).x, -1, 500001] = r1) (e2 : pickV L (j + 4) [(xB l m).y, (xB l m).y, -1, 500000] = r2) (e3 : pickV L (j + 5) [(xB l m).quarter, 4, -1] = r3) :
  pnTail L w h l j = (⟨w, h, ((l.set m ({l.getD m default with x := r1} : SlotS)).set m ({l.getD m default with x := r1, y := r2} : SlotS)).set m ({l.getD m default with x := r1, y := r2, quarter := r3} : SlotS)⟩, j + 6) := by
 rw [pnTail, if_pos h0, if_pos h1, if_pos h2, hm, Int.toNat_natCast, e1, e2, e3]
 simp only [List.set_set]
theorem pnTail_ok : (pnTail L w h l j).1.slots.length = l.length ∧ (pnTail L w h l j).2 ≤ j + 6 := by
 unfold pnTail
 split
 ·split
  ·split
   ·exact ⟨List.length_set, Nat.le_refl _⟩
   ·exact ⟨rfl, by show j + 4 ≤ _; omega⟩
  ·exact ⟨rfl, by show j + 3 ≤ _; omega⟩
 ·exact ⟨rfl, by show j + 1 ≤ _; omega⟩
theorem slM_le : slM L k ≤ 5 := by
 have h0 := rng_lo L (k + 2) 0 5
 have h1 := rng_hi L (k + 2) 0 5 (by omega)
 unfold slM; omega
theorem pnV_ok : (pnV L pr k).1.slots.length ≤ 5 ∧ (pnV L pr k).2 ≤ k + 29 := by
 have hM := slM_le (L := L) (k := k)
 have hl := slL_len (L := L) (pr := pr) (k := k + 3) (slM L k)
 obtain ⟨j1, j2⟩ := pnTail_ok (L := L) (w := pickV L k pw2) (h := pickV L (k + 1) ph2) (l := slL L pr (k + 3) (slM L k)) (j := k + 3 + 4 * slM L k)
 exact ⟨by unfold pnV; omega, by unfold pnV; omega⟩
end
def rpnV (L : List Int) (pr : ProdS) : Nat → Nat → PanS × Nat
 | 0, k => (⟨10, 10, []⟩, k)
 | f + 1, k => if panelF pr (pnV L pr k).1 = 0 then pnV L pr k else rpnV L pr f (pnV L pr k).2
theorem rpnV_ok {L : List Int} {pr : ProdS} (h0 : prodF pr = 0) : ∀ f k, (rpnV L pr f k).1.slots.length ≤ 5 ∧ panelF pr (rpnV L pr f k).1 = 0 ∧ (rpnV L pr f k).2 ≤ k + f * 29
 | 0, k => ⟨Nat.zero_le _, by show panelF pr ⟨10, 10, []⟩ = 0; rw [panelF, if_neg (by rw [h0]; simp)]; decide, by show k ≤ _; omega⟩
 | f + 1, k => by
  obtain ⟨i1, i2⟩ := pnV_ok (L := L) (pr := pr) (k := k)
  rw [rpnV]
  split
  ·exact ⟨i1, by assumption, by rw [Nat.add_mul]; omega⟩
  ·obtain ⟨j1, j2, j3⟩ := rpnV_ok h0 f (pnV L pr k).2
   exact ⟨j1, j2, by rw [Nat.add_mul]; omega⟩
def bdW : List Int := [3, 10, 11, 40]
def bdH : List Int := [3, 5, 10]
def bdIn (L : List Int) (q : Nat) (z : List BodyS × Nat) : List BodyS × Nat := if nxt L z.2 4 = 0 then (z.1, z.2 + 1) else (z.1 ++ [⟨keysBd.getD q ByteArray.empty, pickV L (z.2 + 1) bdW, pickV L (z.2 + 2) bdH⟩], z.2 + 3)
def bdL (L : List Int) (k : Nat) : Nat → List BodyS × Nat
 | 0 => ([], k)
 | q + 1 => bdIn L q (bdL L k q)
def bdTail (L : List Int) (l : List BodyS) (j : Nat) : List BodyS × Nat :=
 if 0 < l.length then
  if nxt L j 12 = 0 then (l.set (nxt L (j + 1) l.length).toNat ⟨someV L (j + 2) [(l.getD (nxt L (j + 1) l.length).toNat default).part, ⟨#[]⟩, ⟨#[99, 97, 112]⟩], pickV L (j + 3) [(l.getD (nxt L (j + 1) l.length).toNat default).wide, 0, 500001], pickV L (j + 4) [(l.getD (nxt L (j + 1) l.length).toNat default).high, (l.getD (nxt L (j + 1) l.length).toNat default).high, -1]⟩, j + 5)
  else (l, j + 1)
 else (l, j)
def bdV (L : List Int) (k : Nat) : List BodyS × Nat := bdTail L (bdL L k 3).1 (bdL L k 3).2
section
variable {L : List Int} {q j k m : Nat} {l : List BodyS}
theorem bdIn_n (h : nxt L j 4 = 0) : bdIn L q (l, j) = (l, j + 1) := if_pos h
theorem bdIn_y (h : nxt L j 4 ≠ 0) : bdIn L q (l, j) = (l ++ [⟨keysBd.getD q ByteArray.empty, pickV L (j + 1) bdW, pickV L (j + 2) bdH⟩], j + 3) := if_neg h
theorem bdTail_0 (h : l.length = 0) : bdTail L l j = (l, j) := if_neg (by omega)
theorem bdTail_1 (h : 0 < l.length) (h1 : nxt L j 12 ≠ 0) : bdTail L l j = (l, j + 1) := by rw [bdTail, if_pos h, if_neg h1]
theorem bdTail_2 {r1 : ByteArray} {r2 r3 : Int} (h : 0 < l.length) (h1 : nxt L j 12 = 0) (hm : nxt L (j + 1) l.length = (m : Int)) (e1 : someV L (j + 2) [(l.getD m default).part, ⟨#[]⟩, ⟨#[99, 97, 112]⟩] = r1) (e2 : pickV L (j + 3) [(l.getD m default).wide, 0, 500001] = r2) (e3 : pickV L (j + 4) [(l.getD m default).high, (l.getD m default).high, -1] = r3) :
  bdTail L l j = (((l.set m ({l.getD m default with part := r1} : BodyS)).set m ({l.getD m default with part := r1, wide := r2} : BodyS)).set m ({l.getD m default with part := r1, wide := r2, high := r3} : BodyS), j + 5) := by
 rw [bdTail, if_pos h, if_pos h1, hm, Int.toNat_natCast, e1, e2, e3]
 simp only [List.set_set]
theorem bdL_ok : ∀ q, (bdL L k q).1.length ≤ q ∧ (bdL L k q).2 ≤ k + 3 * q ∧ BOk (bdL L k q).1
 | 0 => ⟨Nat.le_refl _, Nat.le_refl _, fun x h => by cases h⟩
 | q + 1 => by
  obtain ⟨i1, i2, i3⟩ := bdL_ok q
  rw [bdL, bdIn]
  generalize bdL L k q = y at i1 i2 i3
  split
  ·exact ⟨by show y.1.length ≤ _; omega, by show y.2 + 1 ≤ _; omega, i3⟩
  ·exact ⟨by show (y.1 ++ [_]).length ≤ _; simp; omega, by show y.2 + 3 ≤ _; omega, i3.snoc (keysBd_size q)⟩
theorem bdTail_ok (h : BOk l) : (bdTail L l j).1.length = l.length ∧ (bdTail L l j).2 ≤ j + 5 ∧ BOk (bdTail L l j).1 := by
 have hx := h.getD (nxt L (j + 1) l.length).toNat
 unfold bdTail
 split
 ·split
  ·refine ⟨List.length_set, Nat.le_refl _, h.set _ (someV_of (P := fun k => k.size ≤ 1000) (fun x hx' => ?_) (by simp))⟩
   simp only [List.mem_cons, List.not_mem_nil, or_false] at hx'
   rcases hx' with rfl | rfl | rfl
   ·exact hx
   ·decide
   ·decide
  ·exact ⟨rfl, by show j + 1 ≤ _; omega, h⟩
 ·exact ⟨rfl, by show j ≤ _; omega, h⟩
theorem bdV_ok : (SmB (bdV L k).1 ∧ (bdV L k).1.length ≤ 3) ∧ (bdV L k).2 ≤ k + 14 := by
 obtain ⟨i1, i2, i3⟩ := bdL_ok (L := L) (k := k) 3
 obtain ⟨j1, j2, j3⟩ := bdTail_ok (L := L) (j := (bdL L k 3).2) i3
 have h3 : (bdV L k).1.length ≤ 3 := by unfold bdV; omega
 exact ⟨⟨BOk.sm h3 j3, h3⟩, by unfold bdV; omega⟩
theorem bd_out {p cap J : Nat} {a0 : Option Addr} {l' : List BodyS} (hT : bdV L k = (l', J)) : avL l' = avL (bdV L k).1 ∧ [bxStr p a0 cap L J] = [bxStr p a0 cap L (bdV L k).2] := by rw [hT]; exact ⟨rfl, rfl⟩
end
end
section
theorem pn_out {L : List Int} {pr : ProdS} {k p cap J : Nat} {a0 : Option Addr} {P : PanS} {e : Ent} (hT : pnV L pr k = (P, J)) : avPan P = avPan (pnV L pr k).1 ∧ ∃ e', [bxStr p a0 cap L J, e] = [bxStr p a0 cap L (pnV L pr k).2, e'] := by rw [hT]; exact ⟨rfl, e, rfl⟩
def aPanel_EZ1 (p : Nat) (g3 : Nat) (g4 : Nat) (g5 : Nat) (N : Nat) (q : Nat) (b : Option Addr) (L : List Int) (pr : ProdS) (k : Nat) (c : Nat) : List (Nat × AV) := [(0, sp p), (3, (pB g3 (0))), (4, (pB g4 (0))), (5, (pB g5 (0))), (15, avI (N : Int)), (16, avI (q : Int)), (19, .v (.slice b (slL L pr (k + 3) q).length c)), (20, sp p), (24, avI (max 0 (min pr.wide 1000))), (31, avI (max 0 (min pr.high 1000))), (27, sp p), (34, sp p), (37, sp p)]
def aPanel_EZ2 (p : Nat) (gr : Nat) (m : Nat) (l : List SlotS) (g3 : Nat) (g4 : Nat) (g5 : Nat) : List (Nat × AV) := [(0, sp p), (65, sp p), (72, sp p), (83, sp p), (62, (pB gr (0 + m * 4))), (63, (pB gr (0 + m * 4))), (64, (pB gr (0 + m * 4))), (69, avI (xB l m).x), (76, avI (xB l m).y), (80, avI (xB l m).y), (87, avI (xB l m).quarter), (3, (pB g3 (0))), (4, (pB g4 (0))), (5, (pB g5 (0)))]
def aPanel_EZ3 (p : Nat) (g3 : Nat) (g4 : Nat) (g5 : Nat) (r9 : Int) (r12 : Int) : List (Nat × AV) := [(0, sp p), (3, (pB g3 (0))), (4, (pB g4 (0))), (5, (pB g5 (0))), (96, sp p), (101, sp p), (98, avI r9), (103, avI r12)]
set_option maxHeartbeats 40000000 in
theorem aPanel_E {p0 cap : Nat} {a0 : Option Addr} {p k : Nat} {L : List Int} {pr : ProdS} (hk : k ≤ 800000) (hp0 : p0 ≤ p) :
    SpecHX (TXI a0 L p0) Tryz.prog 70 [sp p, avProd pr] [bxStr p a0 cap L k] (fun y hp' => y = avPan (pnV L pr k).1 ∧ ∃ e, hp' = [bxStr p a0 cap L (pnV L pr k).2, e]) := by
  have e2 : pw2.length = 2 := rfl
  have e2' : ph2.length = 2 := rfl
  have e5 : (slX pr).length = 5 := rfl
  have e5' : (slY pr).length = 5 := rfl
  have e5q : slQ.length = 5 := rfl
  have hr0 := rng_lo L (k + 2) 0 5
  have hr1 := rng_hi L (k + 2) 0 5 (by omega)
  obtain ⟨N, hN⟩ : ∃ N, slM L k = N := ⟨_, rfl⟩
  have hNr : rng L (k + 2) 0 5 = (N : Int) := by unfold slM at hN; omega
  obtain ⟨r9, e9⟩ : ∃ r, pickV L k pw2 = r := ⟨_, rfl⟩
  obtain ⟨r12, e12⟩ : ∃ r, pickV L (k + 1) ph2 = r := ⟨_, rfl⟩
  refine SpecHX.of_VC txi_stab Tryz.func70 rfl Tryz.ntmps70 (Nle rfl) fun w A hB hGX => ?_
  have hnew : True := trivial
  refine VC.sr ?_
  refine VO.op rfl (OpE.box rfl hB rfl rfl rfl ?_)
  intro g3
  refine VO.op rfl (OpE.alloc rfl hB rfl Tryz.zeroValue32 rfl ?_)
  intro g4
  refine VO.nil ?_
  refine VC.sr ?_
  refine VO.mw ?_
  refine VO.op rfl (bI rfl hB rfl (by decide) rfl rfl ?_)
  refine VO.le _ (Le.lI (t := 8) (xs := pw2) rfl rfl) ?_
  refine VO.op rfl (OpE.callHX (rest := [_, _]) txi_stab hGX rfl hB rfl Tryz.call77 rfl rfl (pick_E (xs := pw2) (by omega) (by omega) hp0) (List.Perm.refl _) (fun _ _ => trivial) ?_)
  rintro _ _ ⟨rfl, rfl⟩
  refine VO.le _ (Le.recast (t := 9) (y := avI r9) rfl (fun w Z u h => by rw [← e9]; exact h)) ?_
  refine VO.mw ?_
  refine VO.op rfl (bI rfl hB rfl (by decide) rfl rfl ?_)
  refine VO.le _ (Le.lI (t := 11) (xs := ph2) rfl rfl) ?_
  refine VO.op rfl (OpE.callHX (rest := [_, _]) txi_stab hGX rfl hB rfl Tryz.call77 rfl rfl (pick_E (xs := ph2) (by omega) (by omega) hp0) (List.Perm.refl _) (fun _ _ => trivial) ?_)
  rintro _ _ ⟨rfl, rfl⟩
  refine VO.le _ (Le.recast (t := 12) (y := avI r12) rfl (fun w Z u h => by rw [← e12]; exact h)) ?_
  refine VO.vv (OpV.build (pls := #[(0, 1), (1, 1), (2, 1)]) rfl Tryz.zeroValue32 Tryz.underlying32 (fun w => by kernel_rfl) rfl rfl) ?_
  refine VO.op rfl (OpE.alloc rfl hB rfl Tryz.zeroValue32 rfl ?_)
  intro g5
  refine VO.op rfl (OpE.store (i := 3) rfl hB rfl Tryz.sizeOf32 rfl rfl rfl rfl rfl rfl (Nle rfl) trivial ?_)
  refine VO.nil ?_
  refine VC.seq ?_
  refine VC.sr ?_
  refine VO.mw ?_
  refine VO.op rfl (OpE.callHX (rest := [_, _, _]) txi_stab hGX rfl hB rfl Tryz.call58 rfl rfl (range_X (by omega) (by omega) (by omega) (by omega) hp0) (List.Perm.refl _) (fun _ _ => trivial) ?_)
  rintro _ _ ⟨rfl, rfl⟩
  refine VO.le _ (Le.recast (t := 15) (y := avI (N : Int)) rfl (fun w Z u h => by rw [← hNr]; exact h)) ?_
  refine VO.mw ?_
  refine VO.nil ?_
  refine VC.block ?_
  refine VC.le _ (Le.nilRow 4 39) ?_
  refine VC.loopK [(0, _), (3, _), (4, _), (5, _), (15, _)] ⟨rfl, rfl, rfl, rfl, rfl, trivial⟩ ({t : (Option Addr × Nat) × Nat // t.2 ≤ N}) (fun (iZ : {t : (Option Addr × Nat) × Nat // t.2 ≤ N}) => match iZ with | ⟨⟨⟨b, c⟩, q⟩, hq⟩ => [(16, avI (q : Int))]) (fun (iZ : {t : (Option Addr × Nat) × Nat // t.2 ≤ N}) => match iZ with | ⟨⟨⟨b, c⟩, q⟩, hq⟩ => [bxStr p a0 cap L (k + 3 + 4 * q), boxProd g3 pr 28, bB g4, .box g5 ⟨[avI r9, avI r12, .v (.slice b (slL L pr (k + 3) q).length c)], 32, 3⟩, .row (.slice b (slL L pr (k + 3) q).length c) (slL L pr (k + 3) q).length 4 (rowL (slL L pr (k + 3) q)) 39]) (fun (iZ : {t : (Option Addr × Nat) × Nat // t.2 ≤ N}) => match iZ with | ⟨⟨⟨b, c⟩, q⟩, hq⟩ => 0) (fun (iZ : {t : (Option Addr × Nat) × Nat // t.2 ≤ N}) => match iZ with | ⟨⟨⟨b, c⟩, q⟩, hq⟩ => N - q) ⟨((none, 0), 0), Nat.zero_le _⟩ (Le.mk hB [0, 1, 2, 3, 4] ⟨rfl, rfl, rfl, rfl, rfl, rfl, trivial⟩ rfl rfl (Nat.le_refl _)) ?_
  rintro ⟨⟨⟨b, c⟩, q⟩, hq⟩
  show VC _ _ _ _ ⟨[(16, avI (q : Int))] ++ [(0, _), (3, _), (4, _), (5, _), (15, _)], [bxStr p a0 cap L (k + 3 + 4 * q), boxProd g3 pr 28, bB g4, .box g5 ⟨[avI r9, avI r12, .v (.slice b (slL L pr (k + 3) q).length c)], 32, 3⟩, .row (.slice b (slL L pr (k + 3) q).length c) (slL L pr (k + 3) q).length 4 (rowL (slL L pr (k + 3) q)) 39], 0⟩
  simp only at hq
  have hl := slL_len (L := L) (pr := pr) (k := k + 3) q
  refine VC.sr ?_
  refine VO.vv (OpV.lss rfl rfl rfl) ?_
  refine VO.nil ?_
  refine VC.seq ?_
  refine VC.cond rfl (fun aH1b => ?_) (fun aH1b => ?_)
  · have aH1 := aH1b
    try simp only [qq] at aH1
    refine VC.skip ?_
    refine VC.seq ?_
    refine VC.block ?_
    refine VC.hap (fun hap => ?_)
    have n5p := apart_ne hap (i := 3) (j := 0) rfl rfl (by decide)
    have n3p := apart_ne hap (i := 1) (j := 0) rfl rfl (by decide)
    obtain ⟨r26, e26⟩ : ∃ r, pickV L (k + 3 + 4 * q) (slX pr) = r := ⟨_, rfl⟩
    obtain ⟨r33, e33⟩ : ∃ r, pickV L (k + 3 + 4 * q + 1) (slY pr) = r := ⟨_, rfl⟩
    obtain ⟨r36, e36⟩ : ∃ r, pickV L (k + 3 + 4 * q + 2) slQ = r := ⟨_, rfl⟩
    obtain ⟨r38, e38⟩ : ∃ r, decide (nxt L (k + 3 + 4 * q + 3) 5 = 0) = r := ⟨_, rfl⟩
    have hnw : slNew L pr (k + 3 + 4 * q) = ⟨r26, r33, r36, r38⟩ := by unfold slNew; rw [e26, e33, e36, e38]
    refine VC.draw (fun jj b => (jj = 25 ∧ b = g5) ∨ (jj = 23 ∧ b ≠ g5 ∧ b ≠ g3 ∧ b ≠ p) ∨ (jj ∈ [8, 15, 18, 20] ∧ b = p)) hB (by kernel_rfl) ?_
    refine VA.td (i := 0) rfl (OpV.fieldAddrO 2 rfl Tryz.underlying32 rfl rfl Tryz.sizeOf30 rfl) ?_
    refine VA.td (i := 1) rfl (OpV.load_own (i := 3) rfl hB Tryz.isAgg30 rfl rfl rfl (Wi.notS3 (.inl (by decide +kernel)) (.inr fun h => h.1 rfl) n5p)) ?_
    refine VA.td (i := 2) rfl (OpV.move (.inl rfl) rfl) ?_
    refine VA.td (i := 3) rfl (OpV.fieldAddrO 1 rfl Tryz.underlying28 rfl rfl Tryz.sizeOf3 rfl) ?_
    refine VA.td (i := 4) rfl (OpV.load_own (i := 1) rfl hB Tryz.isAgg3 rfl rfl rfl (Wi.notS3 (.inl (by decide +kernel)) (.inr fun h => h.2.1 rfl) n3p)) ?_
    refine VA.td (i := 5) rfl (OpV.min2 rfl rfl rfl) ?_
    refine VA.td (i := 6) rfl (OpV.max2 rfl rfl rfl) ?_
    refine VA.td (i := 9) rfl (OpV.move (.inl rfl) rfl) ?_
    refine VA.td (i := 10) rfl (OpV.fieldAddrO 2 rfl Tryz.underlying28 rfl rfl Tryz.sizeOf3 rfl) ?_
    refine VA.td (i := 11) rfl (OpV.load_own (i := 1) rfl hB Tryz.isAgg3 rfl rfl rfl (Wi.notS3 (.inl (by decide +kernel)) (.inr fun h => h.2.1 rfl) n3p)) ?_
    refine VA.td (i := 12) rfl (OpV.min2 rfl rfl rfl) ?_
    refine VA.td (i := 13) rfl (OpV.max2 rfl rfl rfl) ?_
    refine VA.td (i := 16) rfl (OpV.move (.inl rfl) rfl) ?_
    refine VA.td (i := 19) rfl (OpV.move (.inl rfl) rfl) ?_
    refine VA.bind (fun F hF => ?_)
    have hS0 : F 4 (lsE 26 22 []) ⟨aPanel_EZ1 p g3 g4 g5 N q b L pr k c ++ [(25, (avInts (slX pr))), (26, avI r26), (32, (avInts (slY pr))), (33, avI r33), (35, (avInts slQ)), (36, avI r36), (38, avB r38), (39, .agg [avI r26, avI r33, avI r36, avB r38])], [bxStr p a0 cap L (k + 3 + 4 * q + 1 + 1 + 1 + 1), boxProd g3 pr 28, bB g4, .box g5 ⟨[avI r9, avI r12, .v (.slice b (slL L pr (k + 3) q).length c)], 32, 3⟩, .row (.slice b (slL L pr (k + 3) q).length c) (slL L pr (k + 3) q).length 4 (rowL (slL L pr (k + 3) q)) 39], 0⟩ := by
      rw [hF]
      refine VA.all (rs := [22]) (by decide +kernel) (by decide) ?_
      refine ⟨⟨_, rfl, .inl rfl, ?_⟩, trivial⟩
      refine OpE.buildSlice (zc := #[.int .i64 0, .int .i64 0, .int .i64 0, .bool false]) rfl hB rfl Tryz.underlying30 Tryz.sizeOf39 Tryz.zeroValue39 (by decide) (by decide) (by kernel_rfl) rfl rfl ?_
      refine VA.all (rs := [23]) (by decide +kernel) (by decide) ?_
      refine ⟨⟨_, rfl, .inl rfl, ?_⟩, trivial⟩
      refine OpE.hap (fun hap => ?_)
      refine OpE.append1S (i := 4) rfl hB rfl Tryz.underlying30 (infoOf Tryz.t39 4 (by kernel_rfl) rfl rfl) rfl (by decide) (by decide) rfl rfl rfl rfl (rowL_snoc (slL L pr (k + 3) q) (⟨r26, r33, r36, r38⟩ : SlotS)) (by omega) (fun g' hg => .inr (.inl ⟨rfl, apart_ne hap (i := 4) (j := 3) hg rfl (by decide), apart_ne hap (i := 4) (j := 1) hg rfl (by decide), apart_ne hap (i := 4) (j := 0) hg rfl (by decide)⟩)) ?_
      intro b2 c2
      refine VA.td (i := 24) rfl (OpV.fieldAddrO 2 rfl Tryz.underlying32 rfl rfl Tryz.sizeOf30 rfl) ?_
      refine VA.all (rs := [25]) (by decide +kernel) (by decide) ?_
      refine ⟨⟨_, rfl, .inl rfl, ?_⟩, trivial⟩
      refine OpE.hap (fun hap => ?_)
      refine OpE.store (i := 3) rfl hB rfl Tryz.sizeOf30 rfl rfl rfl rfl rfl rfl (Nle rfl) (.inl ⟨rfl, rfl⟩) ?_
      refine VA.done (by decide +kernel) ?_
      refine VC.region ?_
      refine VO.vv (OpV.add rfl rfl rfl (by unfold fits; omega)) ?_
      refine VO.mw ?_
      refine VO.nil ?_
      exact Exists.intro (⟨((b2, c2), q + 1), by show q + 1 ≤ N; omega⟩) (And.intro (Le.mk hB [0, 1, 2, 3, 4] ⟨rfl, rfl, rfl, rfl, rfl, rfl, trivial⟩ rfl (by dsimp only; rw [slL, hnw, List.length_append]; rfl) (Nat.le_refl _)) (by first | omega | (show _ < _; omega) | (simp only []; omega)))
    have hS1 : F 6 (lsE 26 20 []) ⟨aPanel_EZ1 p g3 g4 g5 N q b L pr k c ++ [(25, (avInts (slX pr))), (26, avI r26), (32, (avInts (slY pr))), (33, avI r33), (35, (avInts slQ)), (36, avI r36)], [bxStr p a0 cap L (k + 3 + 4 * q + 1 + 1 + 1), boxProd g3 pr 28, bB g4, .box g5 ⟨[avI r9, avI r12, .v (.slice b (slL L pr (k + 3) q).length c)], 32, 3⟩, .row (.slice b (slL L pr (k + 3) q).length c) (slL L pr (k + 3) q).length 4 (rowL (slL L pr (k + 3) q)) 39], 0⟩ := by
      rw [hF]
      refine VA.all (rs := [20]) (by decide +kernel) (by decide) ?_
      refine ⟨⟨_, rfl, .inl rfl, ?_⟩, trivial⟩
      refine OpE.callHX (rest := [_, _, _, _]) txi_stab hGX rfl hB rfl Tryz.call76 rfl rfl (flip_X (by omega) (by omega) hp0) (List.Perm.refl _) (fun b h => .inr (.inr ⟨by decide, blkStr h⟩)) ?_
      rintro _ _ ⟨rfl, rfl⟩
      refine VA.le _ (Le.recast (t := 38) (y := avB r38) rfl (fun w Z u h => by rw [← e38]; exact h)) ?_
      refine VA.td (i := 21) rfl (OpV.build (pls := #[(0, 1), (1, 1), (2, 1), (3, 1)]) rfl Tryz.zeroValue39 Tryz.underlying39 (fun w => by kernel_rfl) rfl rfl) ?_
      have hh := hS0 
      rw [hF] at hh
      exact VA.to hh (by decide +kernel) (Le.mk hB [0, 1, 2, 3, 4] (by repeat first | refine ⟨rfl, ?_⟩ | trivial) rfl rfl (Nat.le_refl _))
    have hS2 : F 7 (lsE 26 20 [18]) ⟨aPanel_EZ1 p g3 g4 g5 N q b L pr k c ++ [(25, (avInts (slX pr))), (26, avI r26), (32, (avInts (slY pr))), (33, avI r33), (35, (avInts slQ))], [bxStr p a0 cap L (k + 3 + 4 * q + 1 + 1), boxProd g3 pr 28, bB g4, .box g5 ⟨[avI r9, avI r12, .v (.slice b (slL L pr (k + 3) q).length c)], 32, 3⟩, .row (.slice b (slL L pr (k + 3) q).length c) (slL L pr (k + 3) q).length 4 (rowL (slL L pr (k + 3) q)) 39], 0⟩ := by
      rw [hF]
      refine VA.all (rs := [18]) (by decide +kernel) (by decide) ?_
      refine ⟨⟨_, rfl, .inl rfl, ?_⟩, trivial⟩
      refine OpE.callHX (rest := [_, _, _, _]) txi_stab hGX rfl hB rfl Tryz.call77 rfl rfl (pick_E (xs := slQ) (by omega) (by omega) hp0) (List.Perm.refl _) (fun b h => .inr (.inr ⟨by decide, blkStr h⟩)) ?_
      rintro _ _ ⟨rfl, rfl⟩
      refine VA.le _ (Le.recast (t := 36) (y := avI r36) rfl (fun w Z u h => by rw [← e36]; exact h)) ?_
      have hh := hS1 
      rw [hF] at hh
      exact VA.to hh (by decide +kernel) (Le.mk hB [0, 1, 2, 3, 4] (by repeat first | refine ⟨rfl, ?_⟩ | trivial) rfl rfl (Nat.le_refl _))
    have hS3 : F 8 (lsE 26 20 [17, 18]) ⟨aPanel_EZ1 p g3 g4 g5 N q b L pr k c ++ [(25, (avInts (slX pr))), (26, avI r26), (32, (avInts (slY pr))), (33, avI r33)], [bxStr p a0 cap L (k + 3 + 4 * q + 1 + 1), boxProd g3 pr 28, bB g4, .box g5 ⟨[avI r9, avI r12, .v (.slice b (slL L pr (k + 3) q).length c)], 32, 3⟩, .row (.slice b (slL L pr (k + 3) q).length c) (slL L pr (k + 3) q).length 4 (rowL (slL L pr (k + 3) q)) 39], 0⟩ := by
      rw [hF]
      refine VA.all (rs := [17]) (by decide +kernel) (by decide) ?_
      refine ⟨⟨_, rfl, .inl rfl, ?_⟩, trivial⟩
      refine bI rfl hB rfl (by decide) rfl rfl ?_
      refine VA.le _ (Le.lI (t := 35) (xs := slQ) rfl rfl) ?_
      have hh := hS2 
      rw [hF] at hh
      exact VA.to hh (by decide +kernel) (Le.mk hB [0, 1, 2, 3, 4] (by repeat first | refine ⟨rfl, ?_⟩ | trivial) rfl rfl (Nat.le_refl _))
    have hS4 : F 8 (lsE 26 20 [15, 18]) ⟨aPanel_EZ1 p g3 g4 g5 N q b L pr k c ++ [(25, (avInts (slX pr))), (26, avI r26), (32, (avInts (slY pr))), (35, (avInts slQ))], [bxStr p a0 cap L (k + 3 + 4 * q + 1), boxProd g3 pr 28, bB g4, .box g5 ⟨[avI r9, avI r12, .v (.slice b (slL L pr (k + 3) q).length c)], 32, 3⟩, .row (.slice b (slL L pr (k + 3) q).length c) (slL L pr (k + 3) q).length 4 (rowL (slL L pr (k + 3) q)) 39], 0⟩ := by
      rw [hF]
      refine VA.all (rs := [15]) (by decide +kernel) (by decide) ?_
      refine ⟨⟨_, rfl, .inl rfl, ?_⟩, trivial⟩
      refine OpE.callHX (rest := [_, _, _, _]) txi_stab hGX rfl hB rfl Tryz.call77 rfl rfl (pick_E (xs := (slY pr)) (by omega) (by omega) hp0) (List.Perm.refl _) (fun b h => .inr (.inr ⟨by decide, blkStr h⟩)) ?_
      rintro _ _ ⟨rfl, rfl⟩
      refine VA.le _ (Le.recast (t := 33) (y := avI r33) rfl (fun w Z u h => by rw [← e33]; exact h)) ?_
      have hh := hS2 
      rw [hF] at hh
      exact VA.to hh (by decide +kernel) (Le.mk hB [0, 1, 2, 3, 4] (by repeat first | refine ⟨rfl, ?_⟩ | trivial) rfl rfl (Nat.le_refl _))
    have hS5 : F 9 (lsE 26 20 [15, 17, 18]) ⟨aPanel_EZ1 p g3 g4 g5 N q b L pr k c ++ [(25, (avInts (slX pr))), (26, avI r26), (32, (avInts (slY pr)))], [bxStr p a0 cap L (k + 3 + 4 * q + 1), boxProd g3 pr 28, bB g4, .box g5 ⟨[avI r9, avI r12, .v (.slice b (slL L pr (k + 3) q).length c)], 32, 3⟩, .row (.slice b (slL L pr (k + 3) q).length c) (slL L pr (k + 3) q).length 4 (rowL (slL L pr (k + 3) q)) 39], 0⟩ := by
      rw [hF]
      refine VA.all (rs := [15, 17]) (by decide +kernel) (by decide) ?_
      refine ⟨⟨_, rfl, .inl rfl, ?_⟩, ⟨_, rfl, .inl rfl, ?_⟩, trivial⟩
      ·
        refine OpE.callHX (rest := [_, _, _, _]) txi_stab hGX rfl hB rfl Tryz.call77 rfl rfl (pick_E (xs := (slY pr)) (by omega) (by omega) hp0) (List.Perm.refl _) (fun b h => .inr (.inr ⟨by decide, blkStr h⟩)) ?_
        rintro _ _ ⟨rfl, rfl⟩
        refine VA.le _ (Le.recast (t := 33) (y := avI r33) rfl (fun w Z u h => by rw [← e33]; exact h)) ?_
        have hh := hS3 
        rw [hF] at hh
        exact VA.to hh (by decide +kernel) (Le.mk hB [0, 1, 2, 3, 4] (by repeat first | refine ⟨rfl, ?_⟩ | trivial) rfl rfl (Nat.le_refl _))
      ·
        refine bI rfl hB rfl (by decide) rfl rfl ?_
        refine VA.le _ (Le.lI (t := 35) (xs := slQ) rfl rfl) ?_
        have hh := hS4 
        rw [hF] at hh
        exact VA.to hh (by decide +kernel) (Le.mk hB [0, 1, 2, 3, 4] (by repeat first | refine ⟨rfl, ?_⟩ | trivial) rfl rfl (Nat.le_refl _))
    have hS6 : F 9 (lsE 26 20 [14, 15, 18]) ⟨aPanel_EZ1 p g3 g4 g5 N q b L pr k c ++ [(25, (avInts (slX pr))), (26, avI r26), (35, (avInts slQ))], [bxStr p a0 cap L (k + 3 + 4 * q + 1), boxProd g3 pr 28, bB g4, .box g5 ⟨[avI r9, avI r12, .v (.slice b (slL L pr (k + 3) q).length c)], 32, 3⟩, .row (.slice b (slL L pr (k + 3) q).length c) (slL L pr (k + 3) q).length 4 (rowL (slL L pr (k + 3) q)) 39], 0⟩ := by
      rw [hF]
      refine VA.all (rs := [14]) (by decide +kernel) (by decide) ?_
      refine ⟨⟨_, rfl, .inl rfl, ?_⟩, trivial⟩
      refine bI rfl hB rfl (by decide) rfl rfl ?_
      refine VA.le _ (Le.lI (t := 32) (xs := (slY pr)) rfl rfl) ?_
      have hh := hS4 
      rw [hF] at hh
      exact VA.to hh (by decide +kernel) (Le.mk hB [0, 1, 2, 3, 4] (by repeat first | refine ⟨rfl, ?_⟩ | trivial) rfl rfl (Nat.le_refl _))
    have hS7 : F 9 (lsE 26 20 [8, 15, 18]) ⟨aPanel_EZ1 p g3 g4 g5 N q b L pr k c ++ [(25, (avInts (slX pr))), (32, (avInts (slY pr))), (35, (avInts slQ))], [bxStr p a0 cap L (k + 3 + 4 * q), boxProd g3 pr 28, bB g4, .box g5 ⟨[avI r9, avI r12, .v (.slice b (slL L pr (k + 3) q).length c)], 32, 3⟩, .row (.slice b (slL L pr (k + 3) q).length c) (slL L pr (k + 3) q).length 4 (rowL (slL L pr (k + 3) q)) 39], 0⟩ := by
      rw [hF]
      refine VA.all (rs := [8]) (by decide +kernel) (by decide) ?_
      refine ⟨⟨_, rfl, .inl rfl, ?_⟩, trivial⟩
      refine OpE.callHX (rest := [_, _, _, _]) txi_stab hGX rfl hB rfl Tryz.call77 rfl rfl (pick_E (xs := (slX pr)) (by omega) (by omega) hp0) (List.Perm.refl _) (fun b h => .inr (.inr ⟨by decide, blkStr h⟩)) ?_
      rintro _ _ ⟨rfl, rfl⟩
      refine VA.le _ (Le.recast (t := 26) (y := avI r26) rfl (fun w Z u h => by rw [← e26]; exact h)) ?_
      have hh := hS4 
      rw [hF] at hh
      exact VA.to hh (by decide +kernel) (Le.mk hB [0, 1, 2, 3, 4] (by repeat first | refine ⟨rfl, ?_⟩ | trivial) rfl rfl (Nat.le_refl _))
    have hS8 : F 10 (lsE 26 20 [14, 15, 17, 18]) ⟨aPanel_EZ1 p g3 g4 g5 N q b L pr k c ++ [(25, (avInts (slX pr))), (26, avI r26)], [bxStr p a0 cap L (k + 3 + 4 * q + 1), boxProd g3 pr 28, bB g4, .box g5 ⟨[avI r9, avI r12, .v (.slice b (slL L pr (k + 3) q).length c)], 32, 3⟩, .row (.slice b (slL L pr (k + 3) q).length c) (slL L pr (k + 3) q).length 4 (rowL (slL L pr (k + 3) q)) 39], 0⟩ := by
      rw [hF]
      refine VA.all (rs := [14, 17]) (by decide +kernel) (by decide) ?_
      refine ⟨⟨_, rfl, .inl rfl, ?_⟩, ⟨_, rfl, .inl rfl, ?_⟩, trivial⟩
      ·
        refine bI rfl hB rfl (by decide) rfl rfl ?_
        refine VA.le _ (Le.lI (t := 32) (xs := (slY pr)) rfl rfl) ?_
        have hh := hS5 
        rw [hF] at hh
        exact VA.to hh (by decide +kernel) (Le.mk hB [0, 1, 2, 3, 4] (by repeat first | refine ⟨rfl, ?_⟩ | trivial) rfl rfl (Nat.le_refl _))
      ·
        refine bI rfl hB rfl (by decide) rfl rfl ?_
        refine VA.le _ (Le.lI (t := 35) (xs := slQ) rfl rfl) ?_
        have hh := hS6 
        rw [hF] at hh
        exact VA.to hh (by decide +kernel) (Le.mk hB [0, 1, 2, 3, 4] (by repeat first | refine ⟨rfl, ?_⟩ | trivial) rfl rfl (Nat.le_refl _))
    have hS9 : F 10 (lsE 26 20 [8, 15, 17, 18]) ⟨aPanel_EZ1 p g3 g4 g5 N q b L pr k c ++ [(25, (avInts (slX pr))), (32, (avInts (slY pr)))], [bxStr p a0 cap L (k + 3 + 4 * q), boxProd g3 pr 28, bB g4, .box g5 ⟨[avI r9, avI r12, .v (.slice b (slL L pr (k + 3) q).length c)], 32, 3⟩, .row (.slice b (slL L pr (k + 3) q).length c) (slL L pr (k + 3) q).length 4 (rowL (slL L pr (k + 3) q)) 39], 0⟩ := by
      rw [hF]
      refine VA.all (rs := [8, 17]) (by decide +kernel) (by decide) ?_
      refine ⟨⟨_, rfl, .inl rfl, ?_⟩, ⟨_, rfl, .inl rfl, ?_⟩, trivial⟩
      ·
        refine OpE.callHX (rest := [_, _, _, _]) txi_stab hGX rfl hB rfl Tryz.call77 rfl rfl (pick_E (xs := (slX pr)) (by omega) (by omega) hp0) (List.Perm.refl _) (fun b h => .inr (.inr ⟨by decide, blkStr h⟩)) ?_
        rintro _ _ ⟨rfl, rfl⟩
        refine VA.le _ (Le.recast (t := 26) (y := avI r26) rfl (fun w Z u h => by rw [← e26]; exact h)) ?_
        have hh := hS5 
        rw [hF] at hh
        exact VA.to hh (by decide +kernel) (Le.mk hB [0, 1, 2, 3, 4] (by repeat first | refine ⟨rfl, ?_⟩ | trivial) rfl rfl (Nat.le_refl _))
      ·
        refine bI rfl hB rfl (by decide) rfl rfl ?_
        refine VA.le _ (Le.lI (t := 35) (xs := slQ) rfl rfl) ?_
        have hh := hS7 
        rw [hF] at hh
        exact VA.to hh (by decide +kernel) (Le.mk hB [0, 1, 2, 3, 4] (by repeat first | refine ⟨rfl, ?_⟩ | trivial) rfl rfl (Nat.le_refl _))
    have hS10 : F 10 (lsE 26 20 [8, 14, 15, 18]) ⟨aPanel_EZ1 p g3 g4 g5 N q b L pr k c ++ [(25, (avInts (slX pr))), (35, (avInts slQ))], [bxStr p a0 cap L (k + 3 + 4 * q), boxProd g3 pr 28, bB g4, .box g5 ⟨[avI r9, avI r12, .v (.slice b (slL L pr (k + 3) q).length c)], 32, 3⟩, .row (.slice b (slL L pr (k + 3) q).length c) (slL L pr (k + 3) q).length 4 (rowL (slL L pr (k + 3) q)) 39], 0⟩ := by
      rw [hF]
      refine VA.all (rs := [8, 14]) (by decide +kernel) (by decide) ?_
      refine ⟨⟨_, rfl, .inl rfl, ?_⟩, ⟨_, rfl, .inl rfl, ?_⟩, trivial⟩
      ·
        refine OpE.callHX (rest := [_, _, _, _]) txi_stab hGX rfl hB rfl Tryz.call77 rfl rfl (pick_E (xs := (slX pr)) (by omega) (by omega) hp0) (List.Perm.refl _) (fun b h => .inr (.inr ⟨by decide, blkStr h⟩)) ?_
        rintro _ _ ⟨rfl, rfl⟩
        refine VA.le _ (Le.recast (t := 26) (y := avI r26) rfl (fun w Z u h => by rw [← e26]; exact h)) ?_
        have hh := hS6 
        rw [hF] at hh
        exact VA.to hh (by decide +kernel) (Le.mk hB [0, 1, 2, 3, 4] (by repeat first | refine ⟨rfl, ?_⟩ | trivial) rfl rfl (Nat.le_refl _))
      ·
        refine bI rfl hB rfl (by decide) rfl rfl ?_
        refine VA.le _ (Le.lI (t := 32) (xs := (slY pr)) rfl rfl) ?_
        have hh := hS7 
        rw [hF] at hh
        exact VA.to hh (by decide +kernel) (Le.mk hB [0, 1, 2, 3, 4] (by repeat first | refine ⟨rfl, ?_⟩ | trivial) rfl rfl (Nat.le_refl _))
    have hS11 : F 10 (lsE 26 20 [7, 8, 15, 18]) ⟨aPanel_EZ1 p g3 g4 g5 N q b L pr k c ++ [(32, (avInts (slY pr))), (35, (avInts slQ))], [bxStr p a0 cap L (k + 3 + 4 * q), boxProd g3 pr 28, bB g4, .box g5 ⟨[avI r9, avI r12, .v (.slice b (slL L pr (k + 3) q).length c)], 32, 3⟩, .row (.slice b (slL L pr (k + 3) q).length c) (slL L pr (k + 3) q).length 4 (rowL (slL L pr (k + 3) q)) 39], 0⟩ := by
      rw [hF]
      refine VA.all (rs := [7]) (by decide +kernel) (by decide) ?_
      refine ⟨⟨_, rfl, .inl rfl, ?_⟩, trivial⟩
      refine bI rfl hB rfl (by decide) rfl rfl ?_
      refine VA.le _ (Le.lI (t := 25) (xs := (slX pr)) rfl rfl) ?_
      have hh := hS7 
      rw [hF] at hh
      exact VA.to hh (by decide +kernel) (Le.mk hB [0, 1, 2, 3, 4] (by repeat first | refine ⟨rfl, ?_⟩ | trivial) rfl rfl (Nat.le_refl _))
    have hS12 : F 11 (lsE 26 20 [8, 14, 15, 17, 18]) ⟨aPanel_EZ1 p g3 g4 g5 N q b L pr k c ++ [(25, (avInts (slX pr)))], [bxStr p a0 cap L (k + 3 + 4 * q), boxProd g3 pr 28, bB g4, .box g5 ⟨[avI r9, avI r12, .v (.slice b (slL L pr (k + 3) q).length c)], 32, 3⟩, .row (.slice b (slL L pr (k + 3) q).length c) (slL L pr (k + 3) q).length 4 (rowL (slL L pr (k + 3) q)) 39], 0⟩ := by
      rw [hF]
      refine VA.all (rs := [8, 14, 17]) (by decide +kernel) (by decide) ?_
      refine ⟨⟨_, rfl, .inl rfl, ?_⟩, ⟨_, rfl, .inl rfl, ?_⟩, ⟨_, rfl, .inl rfl, ?_⟩, trivial⟩
      ·
        refine OpE.callHX (rest := [_, _, _, _]) txi_stab hGX rfl hB rfl Tryz.call77 rfl rfl (pick_E (xs := (slX pr)) (by omega) (by omega) hp0) (List.Perm.refl _) (fun b h => .inr (.inr ⟨by decide, blkStr h⟩)) ?_
        rintro _ _ ⟨rfl, rfl⟩
        refine VA.le _ (Le.recast (t := 26) (y := avI r26) rfl (fun w Z u h => by rw [← e26]; exact h)) ?_
        have hh := hS8 
        rw [hF] at hh
        exact VA.to hh (by decide +kernel) (Le.mk hB [0, 1, 2, 3, 4] (by repeat first | refine ⟨rfl, ?_⟩ | trivial) rfl rfl (Nat.le_refl _))
      ·
        refine bI rfl hB rfl (by decide) rfl rfl ?_
        refine VA.le _ (Le.lI (t := 32) (xs := (slY pr)) rfl rfl) ?_
        have hh := hS9 
        rw [hF] at hh
        exact VA.to hh (by decide +kernel) (Le.mk hB [0, 1, 2, 3, 4] (by repeat first | refine ⟨rfl, ?_⟩ | trivial) rfl rfl (Nat.le_refl _))
      ·
        refine bI rfl hB rfl (by decide) rfl rfl ?_
        refine VA.le _ (Le.lI (t := 35) (xs := slQ) rfl rfl) ?_
        have hh := hS10 
        rw [hF] at hh
        exact VA.to hh (by decide +kernel) (Le.mk hB [0, 1, 2, 3, 4] (by repeat first | refine ⟨rfl, ?_⟩ | trivial) rfl rfl (Nat.le_refl _))
    have hS13 : F 11 (lsE 26 20 [7, 8, 15, 17, 18]) ⟨aPanel_EZ1 p g3 g4 g5 N q b L pr k c ++ [(32, (avInts (slY pr)))], [bxStr p a0 cap L (k + 3 + 4 * q), boxProd g3 pr 28, bB g4, .box g5 ⟨[avI r9, avI r12, .v (.slice b (slL L pr (k + 3) q).length c)], 32, 3⟩, .row (.slice b (slL L pr (k + 3) q).length c) (slL L pr (k + 3) q).length 4 (rowL (slL L pr (k + 3) q)) 39], 0⟩ := by
      rw [hF]
      refine VA.all (rs := [7, 17]) (by decide +kernel) (by decide) ?_
      refine ⟨⟨_, rfl, .inl rfl, ?_⟩, ⟨_, rfl, .inl rfl, ?_⟩, trivial⟩
      ·
        refine bI rfl hB rfl (by decide) rfl rfl ?_
        refine VA.le _ (Le.lI (t := 25) (xs := (slX pr)) rfl rfl) ?_
        have hh := hS9 
        rw [hF] at hh
        exact VA.to hh (by decide +kernel) (Le.mk hB [0, 1, 2, 3, 4] (by repeat first | refine ⟨rfl, ?_⟩ | trivial) rfl rfl (Nat.le_refl _))
      ·
        refine bI rfl hB rfl (by decide) rfl rfl ?_
        refine VA.le _ (Le.lI (t := 35) (xs := slQ) rfl rfl) ?_
        have hh := hS11 
        rw [hF] at hh
        exact VA.to hh (by decide +kernel) (Le.mk hB [0, 1, 2, 3, 4] (by repeat first | refine ⟨rfl, ?_⟩ | trivial) rfl rfl (Nat.le_refl _))
    have hS14 : F 11 (lsE 26 20 [7, 8, 14, 15, 18]) ⟨aPanel_EZ1 p g3 g4 g5 N q b L pr k c ++ [(35, (avInts slQ))], [bxStr p a0 cap L (k + 3 + 4 * q), boxProd g3 pr 28, bB g4, .box g5 ⟨[avI r9, avI r12, .v (.slice b (slL L pr (k + 3) q).length c)], 32, 3⟩, .row (.slice b (slL L pr (k + 3) q).length c) (slL L pr (k + 3) q).length 4 (rowL (slL L pr (k + 3) q)) 39], 0⟩ := by
      rw [hF]
      refine VA.all (rs := [7, 14]) (by decide +kernel) (by decide) ?_
      refine ⟨⟨_, rfl, .inl rfl, ?_⟩, ⟨_, rfl, .inl rfl, ?_⟩, trivial⟩
      ·
        refine bI rfl hB rfl (by decide) rfl rfl ?_
        refine VA.le _ (Le.lI (t := 25) (xs := (slX pr)) rfl rfl) ?_
        have hh := hS10 
        rw [hF] at hh
        exact VA.to hh (by decide +kernel) (Le.mk hB [0, 1, 2, 3, 4] (by repeat first | refine ⟨rfl, ?_⟩ | trivial) rfl rfl (Nat.le_refl _))
      ·
        refine bI rfl hB rfl (by decide) rfl rfl ?_
        refine VA.le _ (Le.lI (t := 32) (xs := (slY pr)) rfl rfl) ?_
        have hh := hS11 
        rw [hF] at hh
        exact VA.to hh (by decide +kernel) (Le.mk hB [0, 1, 2, 3, 4] (by repeat first | refine ⟨rfl, ?_⟩ | trivial) rfl rfl (Nat.le_refl _))
    have hS15 : F 12 (lsE 26 20 [7, 8, 14, 15, 17, 18]) ⟨aPanel_EZ1 p g3 g4 g5 N q b L pr k c, [bxStr p a0 cap L (k + 3 + 4 * q), boxProd g3 pr 28, bB g4, .box g5 ⟨[avI r9, avI r12, .v (.slice b (slL L pr (k + 3) q).length c)], 32, 3⟩, .row (.slice b (slL L pr (k + 3) q).length c) (slL L pr (k + 3) q).length 4 (rowL (slL L pr (k + 3) q)) 39], 0⟩ := by
      rw [hF]
      refine VA.all (rs := [7, 14, 17]) (by decide +kernel) (by decide) ?_
      refine ⟨⟨_, rfl, .inl rfl, ?_⟩, ⟨_, rfl, .inl rfl, ?_⟩, ⟨_, rfl, .inl rfl, ?_⟩, trivial⟩
      ·
        refine bI rfl hB rfl (by decide) rfl rfl ?_
        refine VA.le _ (Le.lI (t := 25) (xs := (slX pr)) rfl rfl) ?_
        have hh := hS12 
        rw [hF] at hh
        exact VA.to hh (by decide +kernel) (Le.mk hB [0, 1, 2, 3, 4] (by repeat first | refine ⟨rfl, ?_⟩ | trivial) rfl rfl (Nat.le_refl _))
      ·
        refine bI rfl hB rfl (by decide) rfl rfl ?_
        refine VA.le _ (Le.lI (t := 32) (xs := (slY pr)) rfl rfl) ?_
        have hh := hS13 
        rw [hF] at hh
        exact VA.to hh (by decide +kernel) (Le.mk hB [0, 1, 2, 3, 4] (by repeat first | refine ⟨rfl, ?_⟩ | trivial) rfl rfl (Nat.le_refl _))
      ·
        refine bI rfl hB rfl (by decide) rfl rfl ?_
        refine VA.le _ (Le.lI (t := 35) (xs := slQ) rfl rfl) ?_
        have hh := hS14 
        rw [hF] at hh
        exact VA.to hh (by decide +kernel) (Le.mk hB [0, 1, 2, 3, 4] (by repeat first | refine ⟨rfl, ?_⟩ | trivial) rfl rfl (Nat.le_refl _))
    rw [hF]
    have hh := hS15 
    rw [hF] at hh
    exact VA.to hh (by decide +kernel) (Le.mk hB [0, 1, 2, 3, 4] (by repeat first | refine ⟨rfl, ?_⟩ | trivial) rfl rfl (Nat.le_refl _))
  · have aH1 := aH1b
    try simp only [qq] at aH1
    obtain rfl : q = N := by omega
    obtain ⟨l, hle⟩ : ∃ o, slL L pr (k + 3) q = o := ⟨_, rfl⟩
    rw [hle] at hl ⊢
    obtain ⟨j, hj⟩ : ∃ j, k + 3 + 4 * q = j := ⟨_, rfl⟩
    rw [hj]
    have hV : pnV L pr k = pnTail L r9 r12 l j := by unfold pnV; rw [hN, e9, e12, hle, hj]
    refine VC.exit ?_
    refine VC.seq ?_
    refine VC.sr ?_
    refine VO.mw ?_
    refine VO.op rfl (OpE.callHX (rest := [_, _, _, _]) txi_stab hGX rfl hB rfl Tryz.call76 rfl rfl (flip_X (by omega) (by omega) hp0) (List.Perm.refl _) (fun _ _ => trivial) ?_)
    rintro _ _ ⟨rfl, rfl⟩
    refine VO.nil ?_
    refine VC.cond rfl (fun h1b => ?_) (fun h1b => ?_)
    · have h1 := h1b
      try simp only [qq] at h1
      refine VC.sr ?_
      refine VO.vv (OpV.fieldAddrO 2 rfl Tryz.underlying32 rfl rfl Tryz.sizeOf30 rfl) ?_
      refine VO.vv (OpV.load_own (i := 3) rfl hB Tryz.isAgg30 rfl rfl rfl (fun h => h)) ?_
      refine VO.vv (OpV.len_v rfl Tryz.underlying30 rfl) ?_
      refine VO.vv (OpV.gtr rfl rfl rfl) ?_
      refine VO.mw ?_
      refine VO.opG rfl rfl rfl rfl (fun aK2b => ?_) (fun aK2b => ?_)
      · replace aK2b : _ = true := aK2b
        have aK2 := aK2b
        try simp only [qq] at aK2
        refine OpE.val (W := NoB) (OpV.move (.inl rfl) rfl) rfl ?_
        refine VO.opY rfl rfl rfl rfl aK2b ?_
        refine OpE.callHX (rest := [_, _, _, _]) txi_stab hGX rfl hB rfl Tryz.call76 rfl rfl (flip_X (by omega) (by omega) hp0) (List.Perm.refl _) (fun _ _ => trivial) ?_
        rintro _ _ ⟨rfl, rfl⟩
        refine VO.vv (OpV.pickT rfl rfl rfl rfl aK2b) ?_
        refine VO.nil ?_
        refine VC.cond rfl (fun h2b => ?_) (fun h2b => ?_)
        · have h2 := h2b
          try simp only [qq] at h2
          refine VC.seq ?_
          refine VC.asBox (i := 4) rfl (by omega) (fun gr capL hu hcap hmx => ?_)
          obtain ⟨hb, hc⟩ : b = some ⟨gr, 0, none⟩ ∧ c = capL := by injection hu with h1 h2 h3; exact ⟨h1, h3⟩
          subst hb
          subst hc
          refine VC.hap (fun hap => ?_)
          have n5p := apart_ne hap (i := 3) (j := 0) rfl rfl (by decide)
          have hx1 := nxt_lo L (j + 2) l.length
          have hx2 := nxt_lt L (j + 2) l.length (by omega)
          obtain ⟨m, hm⟩ : ∃ m : Nat, nxt L (j + 2) l.length = m := ⟨(nxt L (j + 2) l.length).toNat, by omega⟩
          have hml : m < l.length := by omega
          refine VC.draw (fun jj b => jj = 6 ∧ b = p) hB (by kernel_rfl) ?_
          refine VA.td (i := 0) rfl (OpV.fieldAddrO 2 rfl Tryz.underlying32 rfl rfl Tryz.sizeOf30 rfl) ?_
          refine VA.td (i := 1) rfl (OpV.load_own (i := 3) rfl hB Tryz.isAgg30 rfl rfl rfl (fun ⟨_, _, _, h⟩ => n5p h)) ?_
          refine VA.td (i := 2) rfl (OpV.move (.inl rfl) rfl) ?_
          refine VA.td (i := 3) rfl (OpV.fieldAddrO 2 rfl Tryz.underlying32 rfl rfl Tryz.sizeOf30 rfl) ?_
          refine VA.td (i := 4) rfl (OpV.load_own (i := 3) rfl hB Tryz.isAgg30 rfl rfl rfl (fun ⟨_, _, _, h⟩ => n5p h)) ?_
          refine VA.td (i := 5) rfl (OpV.len_v rfl Tryz.underlying30 rfl) ?_
          refine VA.all (rs := [6]) (by decide +kernel) (by decide) ?_
          refine ⟨⟨_, rfl, .inl rfl, ?_⟩, trivial⟩
          refine OpE.callHX (rest := [_, _, _, _]) txi_stab hGX rfl hB rfl Tryz.call78 rfl rfl (next_X hp0 (by omega) (by omega)) (List.Perm.refl _) (fun b h => ⟨rfl, blkStr h⟩) ?_
          rintro _ _ ⟨rfl, rfl⟩
          refine VA.le _ (Le.recast (t := 60) (y := avI (m : Int)) rfl (fun w Z u h => by rw [← hm]; exact h)) ?_
          refine VA.td (i := 7) rfl (OpV.indexAddr_q rfl Tryz.underlying30 Tryz.sizeOf39 rfl rfl rfl (by omega)) ?_
          refine VA.td (i := 8) rfl (OpV.move (.inr rfl) rfl) ?_
          refine VA.done (by decide +kernel) ?_
          refine VC.hap (fun hap => ?_)
          have nrp := apart_ne hap (i := 4) (j := 0) rfl rfl (by decide)
          obtain ⟨r71, e71⟩ : ∃ r, pickV L (j + 3) [(xB l m).x, -1, 500001] = r := ⟨_, rfl⟩
          obtain ⟨r82, e82⟩ : ∃ r, pickV L (j + 4) [(xB l m).y, (xB l m).y, -1, 500000] = r := ⟨_, rfl⟩
          obtain ⟨r89, e89⟩ : ∃ r, pickV L (j + 5) [(xB l m).quarter, 4, -1] = r := ⟨_, rfl⟩
          refine VC.draw (fun jj b => (jj ∈ [30, 33, 36] ∧ b = gr) ∨ (jj ∈ [9, 20, 27] ∧ b = p)) hB (by kernel_rfl) ?_
          refine VA.td (i := 0) rfl (OpV.move (.inl rfl) rfl) ?_
          refine VA.td (i := 1) rfl (OpV.move (.inl rfl) rfl) ?_
          refine VA.td (i := 2) rfl (OpV.move (.inl rfl) rfl) ?_
          refine VA.td (i := 3) rfl (OpV.move (.inl rfl) rfl) ?_
          refine VA.td (i := 4) rfl (OpV.move (.inl rfl) rfl) ?_
          refine VA.td (i := 5) rfl (OpV.nilCheck rfl rfl) ?_
          refine VA.td (i := 6) rfl (OpV.fieldAddrO 0 rfl Tryz.underlying39 rfl rfl Tryz.sizeOf3 rfl) ?_
          refine VA.td (i := 7) rfl (OpV.load_own (i := 4) rfl hB Tryz.isAgg3 rfl rfl (rowL_at rfl (by omega) (by decide)) (Wi.notSS (.inl (by decide +kernel)) nrp)) ?_
          refine VA.td (i := 10) rfl (OpV.move (.inl rfl) rfl) ?_
          refine VA.td (i := 11) rfl (OpV.move (.inl rfl) rfl) ?_
          refine VA.td (i := 12) rfl (OpV.nilCheck rfl rfl) ?_
          refine VA.td (i := 13) rfl (OpV.fieldAddrO 1 rfl Tryz.underlying39 rfl rfl Tryz.sizeOf3 rfl) ?_
          refine VA.td (i := 14) rfl (OpV.load_own (i := 4) rfl hB Tryz.isAgg3 rfl rfl (rowL_at rfl (by omega) (by decide)) (Wi.notSS (.inl (by decide +kernel)) nrp)) ?_
          refine VA.td (i := 15) rfl (OpV.move (.inl rfl) rfl) ?_
          refine VA.td (i := 16) rfl (OpV.nilCheck rfl rfl) ?_
          refine VA.td (i := 17) rfl (OpV.fieldAddrO 1 rfl Tryz.underlying39 rfl rfl Tryz.sizeOf3 rfl) ?_
          refine VA.td (i := 18) rfl (OpV.load_own (i := 4) rfl hB Tryz.isAgg3 rfl rfl (rowL_at rfl (by omega) (by decide)) (Wi.notSS (.inl (by decide +kernel)) nrp)) ?_
          refine VA.td (i := 21) rfl (OpV.move (.inl rfl) rfl) ?_
          refine VA.td (i := 22) rfl (OpV.move (.inl rfl) rfl) ?_
          refine VA.td (i := 23) rfl (OpV.nilCheck rfl rfl) ?_
          refine VA.td (i := 24) rfl (OpV.fieldAddrO 2 rfl Tryz.underlying39 rfl rfl Tryz.sizeOf3 rfl) ?_
          refine VA.td (i := 25) rfl (OpV.load_own (i := 4) rfl hB Tryz.isAgg3 rfl rfl (rowL_at rfl (by omega) (by decide)) (Wi.notSS (.inl (by decide +kernel)) nrp)) ?_
          refine VA.bind (fun F hF => ?_)
          have hS0 : F 7 (lsE 37 30 []) ⟨aPanel_EZ2 p gr m l g3 g4 g5 ++ [(70, (avInts [(xB l m).x, -1, 500001])), (71, avI r71), (81, (avInts [(xB l m).y, (xB l m).y, -1, 500000])), (82, avI r82), (88, (avInts [(xB l m).quarter, 4, -1])), (89, avI r89), (91, (pB gr (0 + m * 4 + 0)))], [bxStr p a0 cap L (j + 3 + 1 + 1 + 1), boxProd g3 pr 28, bB g4, .box g5 ⟨[avI r9, avI r12, .v (.slice (some ⟨gr, 0, none⟩) l.length c)], 32, 3⟩, .box gr ⟨rowL l, 39, c * 4⟩], 0⟩ := by
            rw [hF]
            refine VA.all (rs := [30]) (by decide +kernel) (by decide) ?_
            refine ⟨⟨_, rfl, .inl rfl, ?_⟩, trivial⟩
            refine OpE.store1 (i := 4) rfl hB rfl Tryz.sizeOf3 rfl rfl rfl rfl rfl rfl (rowL_in rfl (by omega) (by decide)) (rowL_set (x := ({l.getD m default with x := r71} : SlotS)) rfl (by omega) (by decide) rfl (fun i hi hn => sl_upd (by simp) (by simp) (by simp) (by simp) i hi hn)) (by first | exact .inl ⟨by decide, rfl⟩) ?_
            refine VA.td (i := 31) rfl (OpV.nilCheck rfl rfl) ?_
            refine VA.td (i := 32) rfl (OpV.fieldAddrO 1 rfl Tryz.underlying39 rfl rfl Tryz.sizeOf3 rfl) ?_
            refine VA.all (rs := [33]) (by decide +kernel) (by decide) ?_
            refine ⟨⟨_, rfl, .inl rfl, ?_⟩, trivial⟩
            refine OpE.store1 (i := 4) rfl hB rfl Tryz.sizeOf3 rfl rfl rfl rfl rfl rfl (rowL_in rfl (by first | omega | (simp only [List.length_set]; omega)) (by decide)) (rowL_set (x := ({l.getD m default with x := r71, y := r82} : SlotS)) rfl (by first | omega | (simp only [List.length_set]; omega)) (by decide) rfl (fun i hi hn => by rw [getD_setS (by first | omega | (simp only [List.length_set]; omega))]; exact sl_upd (by simp) (by simp) (by simp) (by simp) i hi hn)) (by first | exact .inl ⟨by decide, rfl⟩) ?_
            refine VA.td (i := 34) rfl (OpV.nilCheck rfl rfl) ?_
            refine VA.td (i := 35) rfl (OpV.fieldAddrO 2 rfl Tryz.underlying39 rfl rfl Tryz.sizeOf3 rfl) ?_
            refine VA.all (rs := [36]) (by decide +kernel) (by decide) ?_
            refine ⟨⟨_, rfl, .inl rfl, ?_⟩, trivial⟩
            refine OpE.store1 (i := 4) rfl hB rfl Tryz.sizeOf3 rfl rfl rfl rfl rfl rfl (rowL_in rfl (by first | omega | (simp only [List.length_set]; omega)) (by decide)) (rowL_set (x := ({l.getD m default with x := r71, y := r82, quarter := r89} : SlotS)) rfl (by first | omega | (simp only [List.length_set]; omega)) (by decide) rfl (fun i hi hn => by rw [getD_setS (by first | omega | (simp only [List.length_set]; omega))]; exact sl_upd (by simp) (by simp) (by simp) (by simp) i hi hn)) (by first | exact .inl ⟨by decide, rfl⟩) ?_
            refine VA.done (by decide +kernel) ?_
            refine VC.seq ?_
            first | refine VC.le _ (Le.boxRow (i := 4) (n := l.length) (sz := 4) rfl (by simp only [rowL_len, List.length_set]; rfl) (by omega) (by omega)) ?_ | skip
            refine VC.region ?_
            refine VO.vv (OpV.loadK_own (i := 3) rfl hB Tryz.isAgg32 Tryz.sizeOf32 rfl rfl rfl (fun h => h)) ?_
            refine VO.le _ (Le.aggRow (t := 108) (j := 2) (i := 4) (y := avL (((l.set m ({l.getD m default with x := r71} : SlotS)).set m ({l.getD m default with x := r71, y := r82} : SlotS)).set m ({l.getD m default with x := r71, y := r82, quarter := r89} : SlotS))) hB hnew rfl rfl rfl (fun w Z u h => Rep.rowL (by simp) h)) ?_
            refine VO.op rfl (OpE.store (i := 2) rfl hB rfl Tryz.sizeOf32 rfl rfl rfl rfl rfl rfl (Nle rfl) trivial ?_)
            refine VO.nil ?_
            refine VC.le _ (Le.pickH [0, 2] rfl rfl) ?_
            refine VC.ret ?_
            exact Exists.intro _ (And.intro (RetV.one Tryz.results70 ((by first | exact ResV.cellK (i := 0) Tryz.isAgg32 Tryz.sizeOf32 rfl rfl rfl | exact ResV.cellK (i := 1) Tryz.isAgg32 Tryz.sizeOf32 rfl rfl rfl | exact ResV.cellK (i := 2) Tryz.isAgg32 Tryz.sizeOf32 rfl rfl rfl | exact ResV.cellK (i := 3) Tryz.isAgg32 Tryz.sizeOf32 rfl rfl rfl | exact ResV.cellK (i := 4) Tryz.isAgg32 Tryz.sizeOf32 rfl rfl rfl))) (by first | exact pn_out (hV.trans (pnTail_0 (by omega))) | exact pn_out (hV.trans hT2) | exact pn_out (hV.trans (pnTail_3 (by omega) (by omega) (by omega) hm e71 e82 e89))))
          have hS1 : F 10 (lsE 37 27 []) ⟨aPanel_EZ2 p gr m l g3 g4 g5 ++ [(70, (avInts [(xB l m).x, -1, 500001])), (71, avI r71), (81, (avInts [(xB l m).y, (xB l m).y, -1, 500000])), (82, avI r82), (88, (avInts [(xB l m).quarter, 4, -1]))], [bxStr p a0 cap L (j + 3 + 1 + 1), boxProd g3 pr 28, bB g4, .box g5 ⟨[avI r9, avI r12, .v (.slice (some ⟨gr, 0, none⟩) l.length c)], 32, 3⟩, .box gr ⟨rowL l, 39, c * 4⟩], 0⟩ := by
            rw [hF]
            refine VA.all (rs := [27]) (by decide +kernel) (by decide) ?_
            refine ⟨⟨_, rfl, .inl rfl, ?_⟩, trivial⟩
            refine OpE.callHX (rest := [_, _, _, _]) txi_stab hGX rfl hB rfl Tryz.call77 rfl rfl (pick_E (xs := [(xB l m).quarter, 4, -1]) (by omega) (by simp) hp0) (List.Perm.refl _) (fun b h => .inr ⟨by decide, blkStr h⟩) ?_
            rintro _ _ ⟨rfl, rfl⟩
            refine VA.le _ (Le.recast (t := 89) (y := avI r89) rfl (fun w Z u h => by rw [← e89]; exact h)) ?_
            refine VA.td (i := 28) rfl (OpV.nilCheck rfl rfl) ?_
            refine VA.td (i := 29) rfl (OpV.fieldAddrO 0 rfl Tryz.underlying39 rfl rfl Tryz.sizeOf3 rfl) ?_
            have hh := hS0 
            rw [hF] at hh
            exact VA.to hh (by decide +kernel) (Le.mk hB [0, 1, 2, 3, 4] (by repeat first | refine ⟨rfl, ?_⟩ | trivial) rfl rfl (Nat.le_refl _))
          have hS2 : F 11 (lsE 37 26 []) ⟨aPanel_EZ2 p gr m l g3 g4 g5 ++ [(70, (avInts [(xB l m).x, -1, 500001])), (71, avI r71), (81, (avInts [(xB l m).y, (xB l m).y, -1, 500000])), (82, avI r82)], [bxStr p a0 cap L (j + 3 + 1 + 1), boxProd g3 pr 28, bB g4, .box g5 ⟨[avI r9, avI r12, .v (.slice (some ⟨gr, 0, none⟩) l.length c)], 32, 3⟩, .box gr ⟨rowL l, 39, c * 4⟩], 0⟩ := by
            rw [hF]
            refine VA.all (rs := [26]) (by decide +kernel) (by decide) ?_
            refine ⟨⟨_, rfl, .inl rfl, ?_⟩, trivial⟩
            refine bI rfl hB rfl (by decide) rfl rfl ?_
            refine VA.le _ (Le.lI (t := 88) (xs := [(xB l m).quarter, 4, -1]) rfl rfl) ?_
            have hh := hS1 
            rw [hF] at hh
            exact VA.to hh (by decide +kernel) (Le.mk hB [0, 1, 2, 3, 4] (by repeat first | refine ⟨rfl, ?_⟩ | trivial) rfl rfl (Nat.le_refl _))
          have hS3 : F 11 (lsE 37 27 [20]) ⟨aPanel_EZ2 p gr m l g3 g4 g5 ++ [(70, (avInts [(xB l m).x, -1, 500001])), (71, avI r71), (81, (avInts [(xB l m).y, (xB l m).y, -1, 500000])), (88, (avInts [(xB l m).quarter, 4, -1]))], [bxStr p a0 cap L (j + 3 + 1), boxProd g3 pr 28, bB g4, .box g5 ⟨[avI r9, avI r12, .v (.slice (some ⟨gr, 0, none⟩) l.length c)], 32, 3⟩, .box gr ⟨rowL l, 39, c * 4⟩], 0⟩ := by
            rw [hF]
            refine VA.all (rs := [20]) (by decide +kernel) (by decide) ?_
            refine ⟨⟨_, rfl, .inl rfl, ?_⟩, trivial⟩
            refine OpE.callHX (rest := [_, _, _, _]) txi_stab hGX rfl hB rfl Tryz.call77 rfl rfl (pick_E (xs := [(xB l m).y, (xB l m).y, -1, 500000]) (by omega) (by simp) hp0) (List.Perm.refl _) (fun b h => .inr ⟨by decide, blkStr h⟩) ?_
            rintro _ _ ⟨rfl, rfl⟩
            refine VA.le _ (Le.recast (t := 82) (y := avI r82) rfl (fun w Z u h => by rw [← e82]; exact h)) ?_
            have hh := hS1 
            rw [hF] at hh
            exact VA.to hh (by decide +kernel) (Le.mk hB [0, 1, 2, 3, 4] (by repeat first | refine ⟨rfl, ?_⟩ | trivial) rfl rfl (Nat.le_refl _))
          have hS4 : F 12 (lsE 37 26 [20]) ⟨aPanel_EZ2 p gr m l g3 g4 g5 ++ [(70, (avInts [(xB l m).x, -1, 500001])), (71, avI r71), (81, (avInts [(xB l m).y, (xB l m).y, -1, 500000]))], [bxStr p a0 cap L (j + 3 + 1), boxProd g3 pr 28, bB g4, .box g5 ⟨[avI r9, avI r12, .v (.slice (some ⟨gr, 0, none⟩) l.length c)], 32, 3⟩, .box gr ⟨rowL l, 39, c * 4⟩], 0⟩ := by
            rw [hF]
            refine VA.all (rs := [20, 26]) (by decide +kernel) (by decide) ?_
            refine ⟨⟨_, rfl, .inl rfl, ?_⟩, ⟨_, rfl, .inl rfl, ?_⟩, trivial⟩
            ·
              refine OpE.callHX (rest := [_, _, _, _]) txi_stab hGX rfl hB rfl Tryz.call77 rfl rfl (pick_E (xs := [(xB l m).y, (xB l m).y, -1, 500000]) (by omega) (by simp) hp0) (List.Perm.refl _) (fun b h => .inr ⟨by decide, blkStr h⟩) ?_
              rintro _ _ ⟨rfl, rfl⟩
              refine VA.le _ (Le.recast (t := 82) (y := avI r82) rfl (fun w Z u h => by rw [← e82]; exact h)) ?_
              have hh := hS2 
              rw [hF] at hh
              exact VA.to hh (by decide +kernel) (Le.mk hB [0, 1, 2, 3, 4] (by repeat first | refine ⟨rfl, ?_⟩ | trivial) rfl rfl (Nat.le_refl _))
            ·
              refine bI rfl hB rfl (by decide) rfl rfl ?_
              refine VA.le _ (Le.lI (t := 88) (xs := [(xB l m).quarter, 4, -1]) rfl rfl) ?_
              have hh := hS3 
              rw [hF] at hh
              exact VA.to hh (by decide +kernel) (Le.mk hB [0, 1, 2, 3, 4] (by repeat first | refine ⟨rfl, ?_⟩ | trivial) rfl rfl (Nat.le_refl _))
          have hS5 : F 12 (lsE 37 27 [19, 20]) ⟨aPanel_EZ2 p gr m l g3 g4 g5 ++ [(70, (avInts [(xB l m).x, -1, 500001])), (71, avI r71), (88, (avInts [(xB l m).quarter, 4, -1]))], [bxStr p a0 cap L (j + 3 + 1), boxProd g3 pr 28, bB g4, .box g5 ⟨[avI r9, avI r12, .v (.slice (some ⟨gr, 0, none⟩) l.length c)], 32, 3⟩, .box gr ⟨rowL l, 39, c * 4⟩], 0⟩ := by
            rw [hF]
            refine VA.all (rs := [19]) (by decide +kernel) (by decide) ?_
            refine ⟨⟨_, rfl, .inl rfl, ?_⟩, trivial⟩
            refine bI rfl hB rfl (by decide) rfl rfl ?_
            refine VA.le _ (Le.lI (t := 81) (xs := [(xB l m).y, (xB l m).y, -1, 500000]) rfl rfl) ?_
            have hh := hS3 
            rw [hF] at hh
            exact VA.to hh (by decide +kernel) (Le.mk hB [0, 1, 2, 3, 4] (by repeat first | refine ⟨rfl, ?_⟩ | trivial) rfl rfl (Nat.le_refl _))
          have hS6 : F 12 (lsE 37 27 [9, 20]) ⟨aPanel_EZ2 p gr m l g3 g4 g5 ++ [(70, (avInts [(xB l m).x, -1, 500001])), (81, (avInts [(xB l m).y, (xB l m).y, -1, 500000])), (88, (avInts [(xB l m).quarter, 4, -1]))], [bxStr p a0 cap L (j + 3), boxProd g3 pr 28, bB g4, .box g5 ⟨[avI r9, avI r12, .v (.slice (some ⟨gr, 0, none⟩) l.length c)], 32, 3⟩, .box gr ⟨rowL l, 39, c * 4⟩], 0⟩ := by
            rw [hF]
            refine VA.all (rs := [9]) (by decide +kernel) (by decide) ?_
            refine ⟨⟨_, rfl, .inl rfl, ?_⟩, trivial⟩
            refine OpE.callHX (rest := [_, _, _, _]) txi_stab hGX rfl hB rfl Tryz.call77 rfl rfl (pick_E (xs := [(xB l m).x, -1, 500001]) (by omega) (by simp) hp0) (List.Perm.refl _) (fun b h => .inr ⟨by decide, blkStr h⟩) ?_
            rintro _ _ ⟨rfl, rfl⟩
            refine VA.le _ (Le.recast (t := 71) (y := avI r71) rfl (fun w Z u h => by rw [← e71]; exact h)) ?_
            have hh := hS3 
            rw [hF] at hh
            exact VA.to hh (by decide +kernel) (Le.mk hB [0, 1, 2, 3, 4] (by repeat first | refine ⟨rfl, ?_⟩ | trivial) rfl rfl (Nat.le_refl _))
          have hS7 : F 13 (lsE 37 26 [19, 20]) ⟨aPanel_EZ2 p gr m l g3 g4 g5 ++ [(70, (avInts [(xB l m).x, -1, 500001])), (71, avI r71)], [bxStr p a0 cap L (j + 3 + 1), boxProd g3 pr 28, bB g4, .box g5 ⟨[avI r9, avI r12, .v (.slice (some ⟨gr, 0, none⟩) l.length c)], 32, 3⟩, .box gr ⟨rowL l, 39, c * 4⟩], 0⟩ := by
            rw [hF]
            refine VA.all (rs := [19, 26]) (by decide +kernel) (by decide) ?_
            refine ⟨⟨_, rfl, .inl rfl, ?_⟩, ⟨_, rfl, .inl rfl, ?_⟩, trivial⟩
            ·
              refine bI rfl hB rfl (by decide) rfl rfl ?_
              refine VA.le _ (Le.lI (t := 81) (xs := [(xB l m).y, (xB l m).y, -1, 500000]) rfl rfl) ?_
              have hh := hS4 
              rw [hF] at hh
              exact VA.to hh (by decide +kernel) (Le.mk hB [0, 1, 2, 3, 4] (by repeat first | refine ⟨rfl, ?_⟩ | trivial) rfl rfl (Nat.le_refl _))
            ·
              refine bI rfl hB rfl (by decide) rfl rfl ?_
              refine VA.le _ (Le.lI (t := 88) (xs := [(xB l m).quarter, 4, -1]) rfl rfl) ?_
              have hh := hS5 
              rw [hF] at hh
              exact VA.to hh (by decide +kernel) (Le.mk hB [0, 1, 2, 3, 4] (by repeat first | refine ⟨rfl, ?_⟩ | trivial) rfl rfl (Nat.le_refl _))
          have hS8 : F 13 (lsE 37 26 [9, 20]) ⟨aPanel_EZ2 p gr m l g3 g4 g5 ++ [(70, (avInts [(xB l m).x, -1, 500001])), (81, (avInts [(xB l m).y, (xB l m).y, -1, 500000]))], [bxStr p a0 cap L (j + 3), boxProd g3 pr 28, bB g4, .box g5 ⟨[avI r9, avI r12, .v (.slice (some ⟨gr, 0, none⟩) l.length c)], 32, 3⟩, .box gr ⟨rowL l, 39, c * 4⟩], 0⟩ := by
            rw [hF]
            refine VA.all (rs := [9, 26]) (by decide +kernel) (by decide) ?_
            refine ⟨⟨_, rfl, .inl rfl, ?_⟩, ⟨_, rfl, .inl rfl, ?_⟩, trivial⟩
            ·
              refine OpE.callHX (rest := [_, _, _, _]) txi_stab hGX rfl hB rfl Tryz.call77 rfl rfl (pick_E (xs := [(xB l m).x, -1, 500001]) (by omega) (by simp) hp0) (List.Perm.refl _) (fun b h => .inr ⟨by decide, blkStr h⟩) ?_
              rintro _ _ ⟨rfl, rfl⟩
              refine VA.le _ (Le.recast (t := 71) (y := avI r71) rfl (fun w Z u h => by rw [← e71]; exact h)) ?_
              have hh := hS4 
              rw [hF] at hh
              exact VA.to hh (by decide +kernel) (Le.mk hB [0, 1, 2, 3, 4] (by repeat first | refine ⟨rfl, ?_⟩ | trivial) rfl rfl (Nat.le_refl _))
            ·
              refine bI rfl hB rfl (by decide) rfl rfl ?_
              refine VA.le _ (Le.lI (t := 88) (xs := [(xB l m).quarter, 4, -1]) rfl rfl) ?_
              have hh := hS6 
              rw [hF] at hh
              exact VA.to hh (by decide +kernel) (Le.mk hB [0, 1, 2, 3, 4] (by repeat first | refine ⟨rfl, ?_⟩ | trivial) rfl rfl (Nat.le_refl _))
          have hS9 : F 13 (lsE 37 27 [9, 19, 20]) ⟨aPanel_EZ2 p gr m l g3 g4 g5 ++ [(70, (avInts [(xB l m).x, -1, 500001])), (88, (avInts [(xB l m).quarter, 4, -1]))], [bxStr p a0 cap L (j + 3), boxProd g3 pr 28, bB g4, .box g5 ⟨[avI r9, avI r12, .v (.slice (some ⟨gr, 0, none⟩) l.length c)], 32, 3⟩, .box gr ⟨rowL l, 39, c * 4⟩], 0⟩ := by
            rw [hF]
            refine VA.all (rs := [9, 19]) (by decide +kernel) (by decide) ?_
            refine ⟨⟨_, rfl, .inl rfl, ?_⟩, ⟨_, rfl, .inl rfl, ?_⟩, trivial⟩
            ·
              refine OpE.callHX (rest := [_, _, _, _]) txi_stab hGX rfl hB rfl Tryz.call77 rfl rfl (pick_E (xs := [(xB l m).x, -1, 500001]) (by omega) (by simp) hp0) (List.Perm.refl _) (fun b h => .inr ⟨by decide, blkStr h⟩) ?_
              rintro _ _ ⟨rfl, rfl⟩
              refine VA.le _ (Le.recast (t := 71) (y := avI r71) rfl (fun w Z u h => by rw [← e71]; exact h)) ?_
              have hh := hS5 
              rw [hF] at hh
              exact VA.to hh (by decide +kernel) (Le.mk hB [0, 1, 2, 3, 4] (by repeat first | refine ⟨rfl, ?_⟩ | trivial) rfl rfl (Nat.le_refl _))
            ·
              refine bI rfl hB rfl (by decide) rfl rfl ?_
              refine VA.le _ (Le.lI (t := 81) (xs := [(xB l m).y, (xB l m).y, -1, 500000]) rfl rfl) ?_
              have hh := hS6 
              rw [hF] at hh
              exact VA.to hh (by decide +kernel) (Le.mk hB [0, 1, 2, 3, 4] (by repeat first | refine ⟨rfl, ?_⟩ | trivial) rfl rfl (Nat.le_refl _))
          have hS10 : F 13 (lsE 37 27 [8, 9, 20]) ⟨aPanel_EZ2 p gr m l g3 g4 g5 ++ [(81, (avInts [(xB l m).y, (xB l m).y, -1, 500000])), (88, (avInts [(xB l m).quarter, 4, -1]))], [bxStr p a0 cap L (j + 3), boxProd g3 pr 28, bB g4, .box g5 ⟨[avI r9, avI r12, .v (.slice (some ⟨gr, 0, none⟩) l.length c)], 32, 3⟩, .box gr ⟨rowL l, 39, c * 4⟩], 0⟩ := by
            rw [hF]
            refine VA.all (rs := [8]) (by decide +kernel) (by decide) ?_
            refine ⟨⟨_, rfl, .inl rfl, ?_⟩, trivial⟩
            refine bI rfl hB rfl (by decide) rfl rfl ?_
            refine VA.le _ (Le.lI (t := 70) (xs := [(xB l m).x, -1, 500001]) rfl rfl) ?_
            have hh := hS6 
            rw [hF] at hh
            exact VA.to hh (by decide +kernel) (Le.mk hB [0, 1, 2, 3, 4] (by repeat first | refine ⟨rfl, ?_⟩ | trivial) rfl rfl (Nat.le_refl _))
          have hS11 : F 14 (lsE 37 26 [9, 19, 20]) ⟨aPanel_EZ2 p gr m l g3 g4 g5 ++ [(70, (avInts [(xB l m).x, -1, 500001]))], [bxStr p a0 cap L (j + 3), boxProd g3 pr 28, bB g4, .box g5 ⟨[avI r9, avI r12, .v (.slice (some ⟨gr, 0, none⟩) l.length c)], 32, 3⟩, .box gr ⟨rowL l, 39, c * 4⟩], 0⟩ := by
            rw [hF]
            refine VA.all (rs := [9, 19, 26]) (by decide +kernel) (by decide) ?_
            refine ⟨⟨_, rfl, .inl rfl, ?_⟩, ⟨_, rfl, .inl rfl, ?_⟩, ⟨_, rfl, .inl rfl, ?_⟩, trivial⟩
            ·
              refine OpE.callHX (rest := [_, _, _, _]) txi_stab hGX rfl hB rfl Tryz.call77 rfl rfl (pick_E (xs := [(xB l m).x, -1, 500001]) (by omega) (by simp) hp0) (List.Perm.refl _) (fun b h => .inr ⟨by decide, blkStr h⟩) ?_
              rintro _ _ ⟨rfl, rfl⟩
              refine VA.le _ (Le.recast (t := 71) (y := avI r71) rfl (fun w Z u h => by rw [← e71]; exact h)) ?_
              have hh := hS7 
              rw [hF] at hh
              exact VA.to hh (by decide +kernel) (Le.mk hB [0, 1, 2, 3, 4] (by repeat first | refine ⟨rfl, ?_⟩ | trivial) rfl rfl (Nat.le_refl _))
            ·
              refine bI rfl hB rfl (by decide) rfl rfl ?_
              refine VA.le _ (Le.lI (t := 81) (xs := [(xB l m).y, (xB l m).y, -1, 500000]) rfl rfl) ?_
              have hh := hS8 
              rw [hF] at hh
              exact VA.to hh (by decide +kernel) (Le.mk hB [0, 1, 2, 3, 4] (by repeat first | refine ⟨rfl, ?_⟩ | trivial) rfl rfl (Nat.le_refl _))
            ·
              refine bI rfl hB rfl (by decide) rfl rfl ?_
              refine VA.le _ (Le.lI (t := 88) (xs := [(xB l m).quarter, 4, -1]) rfl rfl) ?_
              have hh := hS9 
              rw [hF] at hh
              exact VA.to hh (by decide +kernel) (Le.mk hB [0, 1, 2, 3, 4] (by repeat first | refine ⟨rfl, ?_⟩ | trivial) rfl rfl (Nat.le_refl _))
          have hS12 : F 14 (lsE 37 26 [8, 9, 20]) ⟨aPanel_EZ2 p gr m l g3 g4 g5 ++ [(81, (avInts [(xB l m).y, (xB l m).y, -1, 500000]))], [bxStr p a0 cap L (j + 3), boxProd g3 pr 28, bB g4, .box g5 ⟨[avI r9, avI r12, .v (.slice (some ⟨gr, 0, none⟩) l.length c)], 32, 3⟩, .box gr ⟨rowL l, 39, c * 4⟩], 0⟩ := by
            rw [hF]
            refine VA.all (rs := [8, 26]) (by decide +kernel) (by decide) ?_
            refine ⟨⟨_, rfl, .inl rfl, ?_⟩, ⟨_, rfl, .inl rfl, ?_⟩, trivial⟩
            ·
              refine bI rfl hB rfl (by decide) rfl rfl ?_
              refine VA.le _ (Le.lI (t := 70) (xs := [(xB l m).x, -1, 500001]) rfl rfl) ?_
              have hh := hS8 
              rw [hF] at hh
              exact VA.to hh (by decide +kernel) (Le.mk hB [0, 1, 2, 3, 4] (by repeat first | refine ⟨rfl, ?_⟩ | trivial) rfl rfl (Nat.le_refl _))
            ·
              refine bI rfl hB rfl (by decide) rfl rfl ?_
              refine VA.le _ (Le.lI (t := 88) (xs := [(xB l m).quarter, 4, -1]) rfl rfl) ?_
              have hh := hS10 
              rw [hF] at hh
              exact VA.to hh (by decide +kernel) (Le.mk hB [0, 1, 2, 3, 4] (by repeat first | refine ⟨rfl, ?_⟩ | trivial) rfl rfl (Nat.le_refl _))
          have hS13 : F 14 (lsE 37 27 [8, 9, 19, 20]) ⟨aPanel_EZ2 p gr m l g3 g4 g5 ++ [(88, (avInts [(xB l m).quarter, 4, -1]))], [bxStr p a0 cap L (j + 3), boxProd g3 pr 28, bB g4, .box g5 ⟨[avI r9, avI r12, .v (.slice (some ⟨gr, 0, none⟩) l.length c)], 32, 3⟩, .box gr ⟨rowL l, 39, c * 4⟩], 0⟩ := by
            rw [hF]
            refine VA.all (rs := [8, 19]) (by decide +kernel) (by decide) ?_
            refine ⟨⟨_, rfl, .inl rfl, ?_⟩, ⟨_, rfl, .inl rfl, ?_⟩, trivial⟩
            ·
              refine bI rfl hB rfl (by decide) rfl rfl ?_
              refine VA.le _ (Le.lI (t := 70) (xs := [(xB l m).x, -1, 500001]) rfl rfl) ?_
              have hh := hS9 
              rw [hF] at hh
              exact VA.to hh (by decide +kernel) (Le.mk hB [0, 1, 2, 3, 4] (by repeat first | refine ⟨rfl, ?_⟩ | trivial) rfl rfl (Nat.le_refl _))
            ·
              refine bI rfl hB rfl (by decide) rfl rfl ?_
              refine VA.le _ (Le.lI (t := 81) (xs := [(xB l m).y, (xB l m).y, -1, 500000]) rfl rfl) ?_
              have hh := hS10 
              rw [hF] at hh
              exact VA.to hh (by decide +kernel) (Le.mk hB [0, 1, 2, 3, 4] (by repeat first | refine ⟨rfl, ?_⟩ | trivial) rfl rfl (Nat.le_refl _))
          have hS14 : F 15 (lsE 37 26 [8, 9, 19, 20]) ⟨aPanel_EZ2 p gr m l g3 g4 g5, [bxStr p a0 cap L (j + 3), boxProd g3 pr 28, bB g4, .box g5 ⟨[avI r9, avI r12, .v (.slice (some ⟨gr, 0, none⟩) l.length c)], 32, 3⟩, .box gr ⟨rowL l, 39, c * 4⟩], 0⟩ := by
            rw [hF]
            refine VA.all (rs := [8, 19, 26]) (by decide +kernel) (by decide) ?_
            refine ⟨⟨_, rfl, .inl rfl, ?_⟩, ⟨_, rfl, .inl rfl, ?_⟩, ⟨_, rfl, .inl rfl, ?_⟩, trivial⟩
            ·
              refine bI rfl hB rfl (by decide) rfl rfl ?_
              refine VA.le _ (Le.lI (t := 70) (xs := [(xB l m).x, -1, 500001]) rfl rfl) ?_
              have hh := hS11 
              rw [hF] at hh
              exact VA.to hh (by decide +kernel) (Le.mk hB [0, 1, 2, 3, 4] (by repeat first | refine ⟨rfl, ?_⟩ | trivial) rfl rfl (Nat.le_refl _))
            ·
              refine bI rfl hB rfl (by decide) rfl rfl ?_
              refine VA.le _ (Le.lI (t := 81) (xs := [(xB l m).y, (xB l m).y, -1, 500000]) rfl rfl) ?_
              have hh := hS12 
              rw [hF] at hh
              exact VA.to hh (by decide +kernel) (Le.mk hB [0, 1, 2, 3, 4] (by repeat first | refine ⟨rfl, ?_⟩ | trivial) rfl rfl (Nat.le_refl _))
            ·
              refine bI rfl hB rfl (by decide) rfl rfl ?_
              refine VA.le _ (Le.lI (t := 88) (xs := [(xB l m).quarter, 4, -1]) rfl rfl) ?_
              have hh := hS13 
              rw [hF] at hh
              exact VA.to hh (by decide +kernel) (Le.mk hB [0, 1, 2, 3, 4] (by repeat first | refine ⟨rfl, ?_⟩ | trivial) rfl rfl (Nat.le_refl _))
          rw [hF]
          have hh := hS14 
          rw [hF] at hh
          exact VA.to hh (by decide +kernel) (Le.mk hB [0, 1, 2, 3, 4] (by repeat first | refine ⟨rfl, ?_⟩ | trivial) rfl rfl (Nat.le_refl _))
        · have h2 := h2b
          try simp only [qq] at h2
          (obtain ⟨J, hJ⟩ : ∃ J, J = j + 2 := ⟨_, rfl⟩; have hT : ∀ r1 r2, pickV L J [r9, 0, 500001, 30] = r1 → pickV L (J + 1) [r12, -1, 20] = r2 → pnTail L r9 r12 l j = (⟨r1, r2, l⟩, J + 2) := (fun r1 r2 e1 e2 => by subst hJ; exact pnTail_2 (by omega) (by omega) (by omega) e1 e2); refine VC.le _ (Le.perm (hp := [bxStr p a0 cap L J, boxProd g3 pr 28, bB g4, .box g5 ⟨[avI r9, avI r12, .v (.slice b l.length c)], 32, 3⟩, .row (.slice b l.length c) l.length 4 (rowL l) 39]) (by show [bxStr p a0 cap L (j + 1 + 1), _, _, _, _].Perm _; rw [hJ])) ?_; have hJk : J ≤ j + 2 := (by omega))
          refine VC.hap (fun hap => ?_)
          have n5p := apart_ne hap (i := 3) (j := 0) rfl rfl (by decide)
          obtain ⟨r100, e100⟩ : ∃ r, pickV L J [r9, 0, 500001, 30] = r := ⟨_, rfl⟩
          obtain ⟨r105, e105⟩ : ∃ r, pickV L (J + 1) [r12, -1, 20] = r := ⟨_, rfl⟩
          have hT2 := hT r100 r105 e100 e105
          refine VC.draw (fun jj b => (jj ∈ [11, 13] ∧ b = g5) ∨ (jj ∈ [4, 9] ∧ b = p)) hB (by kernel_rfl) ?_
          refine VA.td (i := 0) rfl (OpV.move (.inl rfl) rfl) ?_
          refine VA.td (i := 1) rfl (OpV.fieldAddrO 0 rfl Tryz.underlying32 rfl rfl Tryz.sizeOf3 rfl) ?_
          refine VA.td (i := 2) rfl (OpV.load_own (i := 3) rfl hB Tryz.isAgg3 rfl rfl rfl (Wi.notSS (.inl (by decide +kernel)) n5p)) ?_
          refine VA.td (i := 5) rfl (OpV.move (.inl rfl) rfl) ?_
          refine VA.td (i := 6) rfl (OpV.fieldAddrO 1 rfl Tryz.underlying32 rfl rfl Tryz.sizeOf3 rfl) ?_
          refine VA.td (i := 7) rfl (OpV.load_own (i := 3) rfl hB Tryz.isAgg3 rfl rfl rfl (Wi.notSS (.inl (by decide +kernel)) n5p)) ?_
          refine VA.bind (fun F hF => ?_)
          have hS0 : F 3 (lsE 14 11 []) ⟨aPanel_EZ3 p g3 g4 g5 r9 r12 ++ [(99, (avInts [r9, 0, 500001, 30])), (100, avI r100), (104, (avInts [r12, -1, 20])), (105, avI r105), (106, (pB g5 (0)))], [bxStr p a0 cap L (J + 1 + 1), boxProd g3 pr 28, bB g4, .box g5 ⟨[avI r9, avI r12, .v (.slice b l.length c)], 32, 3⟩, .row (.slice b l.length c) l.length 4 (rowL l) 39], 0⟩ := by
            rw [hF]
            refine VA.all (rs := [11]) (by decide +kernel) (by decide) ?_
            refine ⟨⟨_, rfl, .inl rfl, ?_⟩, trivial⟩
            refine OpE.store (i := 3) rfl hB rfl Tryz.sizeOf3 rfl rfl rfl rfl rfl rfl (Nle rfl) (by first | exact .inl ⟨by decide, rfl⟩) ?_
            refine VA.td (i := 12) rfl (OpV.fieldAddrO 1 rfl Tryz.underlying32 rfl rfl Tryz.sizeOf3 rfl) ?_
            refine VA.all (rs := [13]) (by decide +kernel) (by decide) ?_
            refine ⟨⟨_, rfl, .inl rfl, ?_⟩, trivial⟩
            refine OpE.store (i := 3) rfl hB rfl Tryz.sizeOf3 rfl rfl rfl rfl rfl rfl (Nle rfl) (by first | exact .inl ⟨by decide, rfl⟩) ?_
            refine VA.done (by decide +kernel) ?_
            refine VC.seq ?_
            first | refine VC.le _ (Le.boxRow (i := 4) (n := l.length) (sz := 4) rfl (by simp only [rowL_len, List.length_set]; rfl) (by omega) (by omega)) ?_ | skip
            refine VC.region ?_
            refine VO.vv (OpV.loadK_own (i := 3) rfl hB Tryz.isAgg32 Tryz.sizeOf32 rfl rfl rfl (fun h => h)) ?_
            refine VO.le _ (Le.aggRow (t := 108) (j := 2) (i := 4) (y := avL l) hB hnew rfl rfl rfl (fun w Z u h => Rep.rowL rfl h)) ?_
            refine VO.op rfl (OpE.store (i := 2) rfl hB rfl Tryz.sizeOf32 rfl rfl rfl rfl rfl rfl (Nle rfl) trivial ?_)
            refine VO.nil ?_
            refine VC.le _ (Le.pickH [0, 2] rfl rfl) ?_
            refine VC.ret ?_
            exact Exists.intro _ (And.intro (RetV.one Tryz.results70 ((by first | exact ResV.cellK (i := 0) Tryz.isAgg32 Tryz.sizeOf32 rfl rfl rfl | exact ResV.cellK (i := 1) Tryz.isAgg32 Tryz.sizeOf32 rfl rfl rfl | exact ResV.cellK (i := 2) Tryz.isAgg32 Tryz.sizeOf32 rfl rfl rfl | exact ResV.cellK (i := 3) Tryz.isAgg32 Tryz.sizeOf32 rfl rfl rfl | exact ResV.cellK (i := 4) Tryz.isAgg32 Tryz.sizeOf32 rfl rfl rfl))) (by first | exact pn_out (hV.trans (pnTail_0 (by omega))) | exact pn_out (hV.trans hT2) | exact pn_out (hV.trans (pnTail_3 (by omega) (by omega) (by omega) hm e71 e82 e89))))
          have hS1 : F 4 (lsE 14 11 [9]) ⟨aPanel_EZ3 p g3 g4 g5 r9 r12 ++ [(99, (avInts [r9, 0, 500001, 30])), (100, avI r100), (104, (avInts [r12, -1, 20])), (106, (pB g5 (0)))], [bxStr p a0 cap L (J + 1), boxProd g3 pr 28, bB g4, .box g5 ⟨[avI r9, avI r12, .v (.slice b l.length c)], 32, 3⟩, .row (.slice b l.length c) l.length 4 (rowL l) 39], 0⟩ := by
            rw [hF]
            refine VA.all (rs := [9]) (by decide +kernel) (by decide) ?_
            refine ⟨⟨_, rfl, .inl rfl, ?_⟩, trivial⟩
            refine OpE.callHX (rest := [_, _, _, _]) txi_stab hGX rfl hB rfl Tryz.call77 rfl rfl (pick_E (xs := [r12, -1, 20]) (by omega) (by simp) hp0) (List.Perm.refl _) (fun b h => .inr ⟨by decide, blkStr h⟩) ?_
            rintro _ _ ⟨rfl, rfl⟩
            refine VA.le _ (Le.recast (t := 105) (y := avI r105) rfl (fun w Z u h => by rw [← e105]; exact h)) ?_
            have hh := hS0 
            rw [hF] at hh
            exact VA.to hh (by decide +kernel) (Le.mk hB [0, 1, 2, 3, 4] (by repeat first | refine ⟨rfl, ?_⟩ | trivial) rfl rfl (Nat.le_refl _))
          have hS2 : F 5 (lsE 14 11 [8, 9]) ⟨aPanel_EZ3 p g3 g4 g5 r9 r12 ++ [(99, (avInts [r9, 0, 500001, 30])), (100, avI r100), (106, (pB g5 (0)))], [bxStr p a0 cap L (J + 1), boxProd g3 pr 28, bB g4, .box g5 ⟨[avI r9, avI r12, .v (.slice b l.length c)], 32, 3⟩, .row (.slice b l.length c) l.length 4 (rowL l) 39], 0⟩ := by
            rw [hF]
            refine VA.all (rs := [8]) (by decide +kernel) (by decide) ?_
            refine ⟨⟨_, rfl, .inl rfl, ?_⟩, trivial⟩
            refine bI rfl hB rfl (by decide) rfl rfl ?_
            refine VA.le _ (Le.lI (t := 104) (xs := [r12, -1, 20]) rfl rfl) ?_
            have hh := hS1 
            rw [hF] at hh
            exact VA.to hh (by decide +kernel) (Le.mk hB [0, 1, 2, 3, 4] (by repeat first | refine ⟨rfl, ?_⟩ | trivial) rfl rfl (Nat.le_refl _))
          have hS3 : F 6 (lsE 14 9 [4]) ⟨aPanel_EZ3 p g3 g4 g5 r9 r12 ++ [(99, (avInts [r9, 0, 500001, 30])), (104, (avInts [r12, -1, 20]))], [bxStr p a0 cap L (J), boxProd g3 pr 28, bB g4, .box g5 ⟨[avI r9, avI r12, .v (.slice b l.length c)], 32, 3⟩, .row (.slice b l.length c) l.length 4 (rowL l) 39], 0⟩ := by
            rw [hF]
            refine VA.all (rs := [4]) (by decide +kernel) (by decide) ?_
            refine ⟨⟨_, rfl, .inl rfl, ?_⟩, trivial⟩
            refine OpE.callHX (rest := [_, _, _, _]) txi_stab hGX rfl hB rfl Tryz.call77 rfl rfl (pick_E (xs := [r9, 0, 500001, 30]) (by omega) (by simp) hp0) (List.Perm.refl _) (fun b h => .inr ⟨by decide, blkStr h⟩) ?_
            rintro _ _ ⟨rfl, rfl⟩
            refine VA.le _ (Le.recast (t := 100) (y := avI r100) rfl (fun w Z u h => by rw [← e100]; exact h)) ?_
            refine VA.td (i := 10) rfl (OpV.fieldAddrO 0 rfl Tryz.underlying32 rfl rfl Tryz.sizeOf3 rfl) ?_
            have hh := hS1 
            rw [hF] at hh
            exact VA.to hh (by decide +kernel) (Le.mk hB [0, 1, 2, 3, 4] (by repeat first | refine ⟨rfl, ?_⟩ | trivial) rfl rfl (Nat.le_refl _))
          have hS4 : F 7 (lsE 14 8 [4]) ⟨aPanel_EZ3 p g3 g4 g5 r9 r12 ++ [(99, (avInts [r9, 0, 500001, 30]))], [bxStr p a0 cap L (J), boxProd g3 pr 28, bB g4, .box g5 ⟨[avI r9, avI r12, .v (.slice b l.length c)], 32, 3⟩, .row (.slice b l.length c) l.length 4 (rowL l) 39], 0⟩ := by
            rw [hF]
            refine VA.all (rs := [4, 8]) (by decide +kernel) (by decide) ?_
            refine ⟨⟨_, rfl, .inl rfl, ?_⟩, ⟨_, rfl, .inl rfl, ?_⟩, trivial⟩
            ·
              refine OpE.callHX (rest := [_, _, _, _]) txi_stab hGX rfl hB rfl Tryz.call77 rfl rfl (pick_E (xs := [r9, 0, 500001, 30]) (by omega) (by simp) hp0) (List.Perm.refl _) (fun b h => .inr ⟨by decide, blkStr h⟩) ?_
              rintro _ _ ⟨rfl, rfl⟩
              refine VA.le _ (Le.recast (t := 100) (y := avI r100) rfl (fun w Z u h => by rw [← e100]; exact h)) ?_
              refine VA.td (i := 10) rfl (OpV.fieldAddrO 0 rfl Tryz.underlying32 rfl rfl Tryz.sizeOf3 rfl) ?_
              have hh := hS2 
              rw [hF] at hh
              exact VA.to hh (by decide +kernel) (Le.mk hB [0, 1, 2, 3, 4] (by repeat first | refine ⟨rfl, ?_⟩ | trivial) rfl rfl (Nat.le_refl _))
            ·
              refine bI rfl hB rfl (by decide) rfl rfl ?_
              refine VA.le _ (Le.lI (t := 104) (xs := [r12, -1, 20]) rfl rfl) ?_
              have hh := hS3 
              rw [hF] at hh
              exact VA.to hh (by decide +kernel) (Le.mk hB [0, 1, 2, 3, 4] (by repeat first | refine ⟨rfl, ?_⟩ | trivial) rfl rfl (Nat.le_refl _))
          have hS5 : F 7 (lsE 14 9 [3, 4]) ⟨aPanel_EZ3 p g3 g4 g5 r9 r12 ++ [(104, (avInts [r12, -1, 20]))], [bxStr p a0 cap L (J), boxProd g3 pr 28, bB g4, .box g5 ⟨[avI r9, avI r12, .v (.slice b l.length c)], 32, 3⟩, .row (.slice b l.length c) l.length 4 (rowL l) 39], 0⟩ := by
            rw [hF]
            refine VA.all (rs := [3]) (by decide +kernel) (by decide) ?_
            refine ⟨⟨_, rfl, .inl rfl, ?_⟩, trivial⟩
            refine bI rfl hB rfl (by decide) rfl rfl ?_
            refine VA.le _ (Le.lI (t := 99) (xs := [r9, 0, 500001, 30]) rfl rfl) ?_
            have hh := hS3 
            rw [hF] at hh
            exact VA.to hh (by decide +kernel) (Le.mk hB [0, 1, 2, 3, 4] (by repeat first | refine ⟨rfl, ?_⟩ | trivial) rfl rfl (Nat.le_refl _))
          have hS6 : F 8 (lsE 14 8 [3, 4]) ⟨aPanel_EZ3 p g3 g4 g5 r9 r12, [bxStr p a0 cap L (J), boxProd g3 pr 28, bB g4, .box g5 ⟨[avI r9, avI r12, .v (.slice b l.length c)], 32, 3⟩, .row (.slice b l.length c) l.length 4 (rowL l) 39], 0⟩ := by
            rw [hF]
            refine VA.all (rs := [3, 8]) (by decide +kernel) (by decide) ?_
            refine ⟨⟨_, rfl, .inl rfl, ?_⟩, ⟨_, rfl, .inl rfl, ?_⟩, trivial⟩
            ·
              refine bI rfl hB rfl (by decide) rfl rfl ?_
              refine VA.le _ (Le.lI (t := 99) (xs := [r9, 0, 500001, 30]) rfl rfl) ?_
              have hh := hS4 
              rw [hF] at hh
              exact VA.to hh (by decide +kernel) (Le.mk hB [0, 1, 2, 3, 4] (by repeat first | refine ⟨rfl, ?_⟩ | trivial) rfl rfl (Nat.le_refl _))
            ·
              refine bI rfl hB rfl (by decide) rfl rfl ?_
              refine VA.le _ (Le.lI (t := 104) (xs := [r12, -1, 20]) rfl rfl) ?_
              have hh := hS5 
              rw [hF] at hh
              exact VA.to hh (by decide +kernel) (Le.mk hB [0, 1, 2, 3, 4] (by repeat first | refine ⟨rfl, ?_⟩ | trivial) rfl rfl (Nat.le_refl _))
          rw [hF]
          have hh := hS6 
          rw [hF] at hh
          exact VA.to hh (by decide +kernel) (Le.mk hB [0, 1, 2, 3, 4] ⟨rfl, rfl, rfl, rfl, rfl, rfl, rfl, rfl, trivial⟩ rfl rfl (Nat.le_refl _))
      · replace aK2b : _ = false := aK2b
        have aK2 := aK2b
        try simp only [qq] at aK2
        refine VO.opX rfl rfl rfl rfl aK2b ?_
        refine VO.vv (OpV.pickF rfl rfl rfl rfl aK2b) ?_
        refine VO.nil ?_
        refine VC.condF rfl rfl ?_
        (obtain ⟨J, hJ⟩ : ∃ J, J = j + 1 := ⟨_, rfl⟩; have hT : ∀ r1 r2, pickV L J [r9, 0, 500001, 30] = r1 → pickV L (J + 1) [r12, -1, 20] = r2 → pnTail L r9 r12 l j = (⟨r1, r2, l⟩, J + 2) := (fun r1 r2 e1 e2 => by subst hJ; exact pnTail_1 (by omega) (by omega) e1 e2); refine VC.le _ (Le.perm (hp := [bxStr p a0 cap L J, boxProd g3 pr 28, bB g4, .box g5 ⟨[avI r9, avI r12, .v (.slice b l.length c)], 32, 3⟩, .row (.slice b l.length c) l.length 4 (rowL l) 39]) (by show [bxStr p a0 cap L (j + 1), _, _, _, _].Perm _; rw [hJ])) ?_; have hJk : J ≤ j + 2 := (by omega))
        refine VC.hap (fun hap => ?_)
        have n5p := apart_ne hap (i := 3) (j := 0) rfl rfl (by decide)
        obtain ⟨r100, e100⟩ : ∃ r, pickV L J [r9, 0, 500001, 30] = r := ⟨_, rfl⟩
        obtain ⟨r105, e105⟩ : ∃ r, pickV L (J + 1) [r12, -1, 20] = r := ⟨_, rfl⟩
        have hT2 := hT r100 r105 e100 e105
        refine VC.draw (fun jj b => (jj ∈ [11, 13] ∧ b = g5) ∨ (jj ∈ [4, 9] ∧ b = p)) hB (by kernel_rfl) ?_
        refine VA.td (i := 0) rfl (OpV.move (.inl rfl) rfl) ?_
        refine VA.td (i := 1) rfl (OpV.fieldAddrO 0 rfl Tryz.underlying32 rfl rfl Tryz.sizeOf3 rfl) ?_
        refine VA.td (i := 2) rfl (OpV.load_own (i := 3) rfl hB Tryz.isAgg3 rfl rfl rfl (Wi.notSS (.inl (by decide +kernel)) n5p)) ?_
        refine VA.td (i := 5) rfl (OpV.move (.inl rfl) rfl) ?_
        refine VA.td (i := 6) rfl (OpV.fieldAddrO 1 rfl Tryz.underlying32 rfl rfl Tryz.sizeOf3 rfl) ?_
        refine VA.td (i := 7) rfl (OpV.load_own (i := 3) rfl hB Tryz.isAgg3 rfl rfl rfl (Wi.notSS (.inl (by decide +kernel)) n5p)) ?_
        refine VA.bind (fun F hF => ?_)
        have hS0 : F 3 (lsE 14 11 []) ⟨aPanel_EZ3 p g3 g4 g5 r9 r12 ++ [(99, (avInts [r9, 0, 500001, 30])), (100, avI r100), (104, (avInts [r12, -1, 20])), (105, avI r105), (106, (pB g5 (0)))], [bxStr p a0 cap L (J + 1 + 1), boxProd g3 pr 28, bB g4, .box g5 ⟨[avI r9, avI r12, .v (.slice b l.length c)], 32, 3⟩, .row (.slice b l.length c) l.length 4 (rowL l) 39], 0⟩ := by
          rw [hF]
          refine VA.all (rs := [11]) (by decide +kernel) (by decide) ?_
          refine ⟨⟨_, rfl, .inl rfl, ?_⟩, trivial⟩
          refine OpE.store (i := 3) rfl hB rfl Tryz.sizeOf3 rfl rfl rfl rfl rfl rfl (Nle rfl) (by first | exact .inl ⟨by decide, rfl⟩) ?_
          refine VA.td (i := 12) rfl (OpV.fieldAddrO 1 rfl Tryz.underlying32 rfl rfl Tryz.sizeOf3 rfl) ?_
          refine VA.all (rs := [13]) (by decide +kernel) (by decide) ?_
          refine ⟨⟨_, rfl, .inl rfl, ?_⟩, trivial⟩
          refine OpE.store (i := 3) rfl hB rfl Tryz.sizeOf3 rfl rfl rfl rfl rfl rfl (Nle rfl) (by first | exact .inl ⟨by decide, rfl⟩) ?_
          refine VA.done (by decide +kernel) ?_
          refine VC.seq ?_
          first | refine VC.le _ (Le.boxRow (i := 4) (n := l.length) (sz := 4) rfl (by simp only [rowL_len, List.length_set]; rfl) (by omega) (by omega)) ?_ | skip
          refine VC.region ?_
          refine VO.vv (OpV.loadK_own (i := 3) rfl hB Tryz.isAgg32 Tryz.sizeOf32 rfl rfl rfl (fun h => h)) ?_
          refine VO.le _ (Le.aggRow (t := 108) (j := 2) (i := 4) (y := avL l) hB hnew rfl rfl rfl (fun w Z u h => Rep.rowL rfl h)) ?_
          refine VO.op rfl (OpE.store (i := 2) rfl hB rfl Tryz.sizeOf32 rfl rfl rfl rfl rfl rfl (Nle rfl) trivial ?_)
          refine VO.nil ?_
          refine VC.le _ (Le.pickH [0, 2] rfl rfl) ?_
          refine VC.ret ?_
          exact Exists.intro _ (And.intro (RetV.one Tryz.results70 ((by first | exact ResV.cellK (i := 0) Tryz.isAgg32 Tryz.sizeOf32 rfl rfl rfl | exact ResV.cellK (i := 1) Tryz.isAgg32 Tryz.sizeOf32 rfl rfl rfl | exact ResV.cellK (i := 2) Tryz.isAgg32 Tryz.sizeOf32 rfl rfl rfl | exact ResV.cellK (i := 3) Tryz.isAgg32 Tryz.sizeOf32 rfl rfl rfl | exact ResV.cellK (i := 4) Tryz.isAgg32 Tryz.sizeOf32 rfl rfl rfl))) (by first | exact pn_out (hV.trans (pnTail_0 (by omega))) | exact pn_out (hV.trans hT2) | exact pn_out (hV.trans (pnTail_3 (by omega) (by omega) (by omega) hm e71 e82 e89))))
        have hS1 : F 4 (lsE 14 11 [9]) ⟨aPanel_EZ3 p g3 g4 g5 r9 r12 ++ [(99, (avInts [r9, 0, 500001, 30])), (100, avI r100), (104, (avInts [r12, -1, 20])), (106, (pB g5 (0)))], [bxStr p a0 cap L (J + 1), boxProd g3 pr 28, bB g4, .box g5 ⟨[avI r9, avI r12, .v (.slice b l.length c)], 32, 3⟩, .row (.slice b l.length c) l.length 4 (rowL l) 39], 0⟩ := by
          rw [hF]
          refine VA.all (rs := [9]) (by decide +kernel) (by decide) ?_
          refine ⟨⟨_, rfl, .inl rfl, ?_⟩, trivial⟩
          refine OpE.callHX (rest := [_, _, _, _]) txi_stab hGX rfl hB rfl Tryz.call77 rfl rfl (pick_E (xs := [r12, -1, 20]) (by omega) (by simp) hp0) (List.Perm.refl _) (fun b h => .inr ⟨by decide, blkStr h⟩) ?_
          rintro _ _ ⟨rfl, rfl⟩
          refine VA.le _ (Le.recast (t := 105) (y := avI r105) rfl (fun w Z u h => by rw [← e105]; exact h)) ?_
          have hh := hS0 
          rw [hF] at hh
          exact VA.to hh (by decide +kernel) (Le.mk hB [0, 1, 2, 3, 4] (by repeat first | refine ⟨rfl, ?_⟩ | trivial) rfl rfl (Nat.le_refl _))
        have hS2 : F 5 (lsE 14 11 [8, 9]) ⟨aPanel_EZ3 p g3 g4 g5 r9 r12 ++ [(99, (avInts [r9, 0, 500001, 30])), (100, avI r100), (106, (pB g5 (0)))], [bxStr p a0 cap L (J + 1), boxProd g3 pr 28, bB g4, .box g5 ⟨[avI r9, avI r12, .v (.slice b l.length c)], 32, 3⟩, .row (.slice b l.length c) l.length 4 (rowL l) 39], 0⟩ := by
          rw [hF]
          refine VA.all (rs := [8]) (by decide +kernel) (by decide) ?_
          refine ⟨⟨_, rfl, .inl rfl, ?_⟩, trivial⟩
          refine bI rfl hB rfl (by decide) rfl rfl ?_
          refine VA.le _ (Le.lI (t := 104) (xs := [r12, -1, 20]) rfl rfl) ?_
          have hh := hS1 
          rw [hF] at hh
          exact VA.to hh (by decide +kernel) (Le.mk hB [0, 1, 2, 3, 4] (by repeat first | refine ⟨rfl, ?_⟩ | trivial) rfl rfl (Nat.le_refl _))
        have hS3 : F 6 (lsE 14 9 [4]) ⟨aPanel_EZ3 p g3 g4 g5 r9 r12 ++ [(99, (avInts [r9, 0, 500001, 30])), (104, (avInts [r12, -1, 20]))], [bxStr p a0 cap L (J), boxProd g3 pr 28, bB g4, .box g5 ⟨[avI r9, avI r12, .v (.slice b l.length c)], 32, 3⟩, .row (.slice b l.length c) l.length 4 (rowL l) 39], 0⟩ := by
          rw [hF]
          refine VA.all (rs := [4]) (by decide +kernel) (by decide) ?_
          refine ⟨⟨_, rfl, .inl rfl, ?_⟩, trivial⟩
          refine OpE.callHX (rest := [_, _, _, _]) txi_stab hGX rfl hB rfl Tryz.call77 rfl rfl (pick_E (xs := [r9, 0, 500001, 30]) (by omega) (by simp) hp0) (List.Perm.refl _) (fun b h => .inr ⟨by decide, blkStr h⟩) ?_
          rintro _ _ ⟨rfl, rfl⟩
          refine VA.le _ (Le.recast (t := 100) (y := avI r100) rfl (fun w Z u h => by rw [← e100]; exact h)) ?_
          refine VA.td (i := 10) rfl (OpV.fieldAddrO 0 rfl Tryz.underlying32 rfl rfl Tryz.sizeOf3 rfl) ?_
          have hh := hS1 
          rw [hF] at hh
          exact VA.to hh (by decide +kernel) (Le.mk hB [0, 1, 2, 3, 4] (by repeat first | refine ⟨rfl, ?_⟩ | trivial) rfl rfl (Nat.le_refl _))
        have hS4 : F 7 (lsE 14 8 [4]) ⟨aPanel_EZ3 p g3 g4 g5 r9 r12 ++ [(99, (avInts [r9, 0, 500001, 30]))], [bxStr p a0 cap L (J), boxProd g3 pr 28, bB g4, .box g5 ⟨[avI r9, avI r12, .v (.slice b l.length c)], 32, 3⟩, .row (.slice b l.length c) l.length 4 (rowL l) 39], 0⟩ := by
          rw [hF]
          refine VA.all (rs := [4, 8]) (by decide +kernel) (by decide) ?_
          refine ⟨⟨_, rfl, .inl rfl, ?_⟩, ⟨_, rfl, .inl rfl, ?_⟩, trivial⟩
          ·
            refine OpE.callHX (rest := [_, _, _, _]) txi_stab hGX rfl hB rfl Tryz.call77 rfl rfl (pick_E (xs := [r9, 0, 500001, 30]) (by omega) (by simp) hp0) (List.Perm.refl _) (fun b h => .inr ⟨by decide, blkStr h⟩) ?_
            rintro _ _ ⟨rfl, rfl⟩
            refine VA.le _ (Le.recast (t := 100) (y := avI r100) rfl (fun w Z u h => by rw [← e100]; exact h)) ?_
            refine VA.td (i := 10) rfl (OpV.fieldAddrO 0 rfl Tryz.underlying32 rfl rfl Tryz.sizeOf3 rfl) ?_
            have hh := hS2 
            rw [hF] at hh
            exact VA.to hh (by decide +kernel) (Le.mk hB [0, 1, 2, 3, 4] (by repeat first | refine ⟨rfl, ?_⟩ | trivial) rfl rfl (Nat.le_refl _))
          ·
            refine bI rfl hB rfl (by decide) rfl rfl ?_
            refine VA.le _ (Le.lI (t := 104) (xs := [r12, -1, 20]) rfl rfl) ?_
            have hh := hS3 
            rw [hF] at hh
            exact VA.to hh (by decide +kernel) (Le.mk hB [0, 1, 2, 3, 4] (by repeat first | refine ⟨rfl, ?_⟩ | trivial) rfl rfl (Nat.le_refl _))
        have hS5 : F 7 (lsE 14 9 [3, 4]) ⟨aPanel_EZ3 p g3 g4 g5 r9 r12 ++ [(104, (avInts [r12, -1, 20]))], [bxStr p a0 cap L (J), boxProd g3 pr 28, bB g4, .box g5 ⟨[avI r9, avI r12, .v (.slice b l.length c)], 32, 3⟩, .row (.slice b l.length c) l.length 4 (rowL l) 39], 0⟩ := by
          rw [hF]
          refine VA.all (rs := [3]) (by decide +kernel) (by decide) ?_
          refine ⟨⟨_, rfl, .inl rfl, ?_⟩, trivial⟩
          refine bI rfl hB rfl (by decide) rfl rfl ?_
          refine VA.le _ (Le.lI (t := 99) (xs := [r9, 0, 500001, 30]) rfl rfl) ?_
          have hh := hS3 
          rw [hF] at hh
          exact VA.to hh (by decide +kernel) (Le.mk hB [0, 1, 2, 3, 4] (by repeat first | refine ⟨rfl, ?_⟩ | trivial) rfl rfl (Nat.le_refl _))
        have hS6 : F 8 (lsE 14 8 [3, 4]) ⟨aPanel_EZ3 p g3 g4 g5 r9 r12, [bxStr p a0 cap L (J), boxProd g3 pr 28, bB g4, .box g5 ⟨[avI r9, avI r12, .v (.slice b l.length c)], 32, 3⟩, .row (.slice b l.length c) l.length 4 (rowL l) 39], 0⟩ := by
          rw [hF]
          refine VA.all (rs := [3, 8]) (by decide +kernel) (by decide) ?_
          refine ⟨⟨_, rfl, .inl rfl, ?_⟩, ⟨_, rfl, .inl rfl, ?_⟩, trivial⟩
          ·
            refine bI rfl hB rfl (by decide) rfl rfl ?_
            refine VA.le _ (Le.lI (t := 99) (xs := [r9, 0, 500001, 30]) rfl rfl) ?_
            have hh := hS4 
            rw [hF] at hh
            exact VA.to hh (by decide +kernel) (Le.mk hB [0, 1, 2, 3, 4] (by repeat first | refine ⟨rfl, ?_⟩ | trivial) rfl rfl (Nat.le_refl _))
          ·
            refine bI rfl hB rfl (by decide) rfl rfl ?_
            refine VA.le _ (Le.lI (t := 104) (xs := [r12, -1, 20]) rfl rfl) ?_
            have hh := hS5 
            rw [hF] at hh
            exact VA.to hh (by decide +kernel) (Le.mk hB [0, 1, 2, 3, 4] (by repeat first | refine ⟨rfl, ?_⟩ | trivial) rfl rfl (Nat.le_refl _))
        rw [hF]
        have hh := hS6 
        rw [hF] at hh
        exact VA.to hh (by decide +kernel) (Le.mk hB [0, 1, 2, 3, 4] ⟨rfl, rfl, rfl, rfl, rfl, rfl, rfl, rfl, trivial⟩ rfl rfl (Nat.le_refl _))
    · have h1 := h1b
      try simp only [qq] at h1
      refine VC.skip ?_
      refine VC.seq ?_
      first | refine VC.le _ (Le.boxRow (i := 4) (n := l.length) (sz := 4) rfl (by simp only [rowL_len, List.length_set]; rfl) (by omega) (by omega)) ?_ | skip
      refine VC.region ?_
      refine VO.vv (OpV.loadK_own (i := 3) rfl hB Tryz.isAgg32 Tryz.sizeOf32 rfl rfl rfl (fun h => h)) ?_
      refine VO.le _ (Le.aggRow (t := 108) (j := 2) (i := 4) (y := avL l) hB hnew rfl rfl rfl (fun w Z u h => Rep.rowL rfl h)) ?_
      refine VO.op rfl (OpE.store (i := 2) rfl hB rfl Tryz.sizeOf32 rfl rfl rfl rfl rfl rfl (Nle rfl) trivial ?_)
      refine VO.nil ?_
      refine VC.le _ (Le.pickH [0, 2] rfl rfl) ?_
      refine VC.ret ?_
      exact Exists.intro _ (And.intro (RetV.one Tryz.results70 ((by first | exact ResV.cellK (i := 0) Tryz.isAgg32 Tryz.sizeOf32 rfl rfl rfl | exact ResV.cellK (i := 1) Tryz.isAgg32 Tryz.sizeOf32 rfl rfl rfl | exact ResV.cellK (i := 2) Tryz.isAgg32 Tryz.sizeOf32 rfl rfl rfl | exact ResV.cellK (i := 3) Tryz.isAgg32 Tryz.sizeOf32 rfl rfl rfl | exact ResV.cellK (i := 4) Tryz.isAgg32 Tryz.sizeOf32 rfl rfl rfl))) (by first | exact pn_out (hV.trans (pnTail_0 (by omega))) | exact pn_out (hV.trans hT2) | exact pn_out (hV.trans (pnTail_3 (by omega) (by omega) (by omega) hm e71 e82 e89))))
end
section
section
variable {L : List Int} {w h : Int} {q j k : Nat} {l : List PlaceS}
theorem prL_ok : ∀ q, (prL L w h k q).1.length ≤ q ∧ (prL L w h k q).2 ≤ k + 5 * q ∧ POk (prL L w h k q).1
 | 0 => ⟨Nat.le_refl _, Nat.le_refl _, fun x h => by cases h⟩
 | q + 1 => by
  obtain ⟨i1, i2, i3⟩ := prL_ok q
  rw [prL, prStep]
  generalize prL L w h k q = y at i1 i2 i3
  split
  ·exact ⟨by show y.1.length ≤ _; omega, by show y.2 + 1 ≤ _; omega, i3⟩
  ·exact ⟨by show (y.1 ++ [_]).length ≤ _; simp; omega, by show y.2 + 5 ≤ _; omega, i3.snoc prNew_sm⟩
theorem nm_sm {s : ByteArray} (h : s.size ≤ 1000) : (someV L j [s, s, ⟨#[]⟩, ⟨#[99, 49]⟩]).size ≤ 1000 := someV_of (P := fun k => k.size ≤ 1000) (fun x hx => by
 simp only [List.mem_cons, List.not_mem_nil, or_false] at hx
 rcases hx with rfl | rfl | rfl | rfl
 ·exact h
 ·exact h
 ·decide
 ·decide) (by simp)
theorem pt_sm {s : ByteArray} (h : s.size ≤ 1000) : (someV L j [s, s, ⟨#[]⟩]).size ≤ 1000 := someV_of (P := fun k => k.size ≤ 1000) (fun x hx => by
 simp only [List.mem_cons, List.not_mem_nil, or_false] at hx
 rcases hx with rfl | rfl | rfl
 ·exact h
 ·exact h
 ·decide) (by simp)
theorem prTail_ok (h5 : l.length ≤ 5) (ho : POk l) : (SmP (prTail L w h l j).1 ∧ (prTail L w h l j).1.places.length ≤ 5) ∧ (prTail L w h l j).2 ≤ j + 8 := by
 have hx := ho.getD (nxt L (j + 2) l.length).toNat
 have hp : (⟨#[112]⟩ : ByteArray).size ≤ 1000 := by decide
 unfold prTail
 split
 ·split
  ·exact ⟨⟨POk.sm (someV_of (P := fun k => k.size ≤ 1000) (by decide) (by decide)) h5 ho, h5⟩, by show j + 5 ≤ _; omega⟩
  ·split
   ·have hs := ho.set (nxt L (j + 2) l.length).toNat (x := ⟨someV L (j + 3) [(l.getD (nxt L (j + 2) l.length).toNat default).name, (l.getD (nxt L (j + 2) l.length).toNat default).name, ⟨#[]⟩, ⟨#[99, 49]⟩],
     someV L (j + 4) [(l.getD (nxt L (j + 2) l.length).toNat default).part, (l.getD (nxt L (j + 2) l.length).toNat default).part, ⟨#[]⟩], pickV L (j + 5) [(l.getD (nxt L (j + 2) l.length).toNat default).x, -1, w + 1],
     pickV L (j + 6) [(l.getD (nxt L (j + 2) l.length).toNat default).y, (l.getD (nxt L (j + 2) l.length).toNat default).y, -1, 4611686018427387904], pickV L (j + 7) [(l.getD (nxt L (j + 2) l.length).toNat default).quarter, 4, -1]⟩) ⟨nm_sm hx.1, pt_sm hx.2⟩
    exact ⟨⟨POk.sm hp (by rw [List.length_set]; exact h5) hs, by show (l.set _ _).length ≤ 5; rw [List.length_set]; exact h5⟩, Nat.le_refl _⟩
   ·exact ⟨⟨POk.sm hp h5 ho, h5⟩, by show j + 2 ≤ _; omega⟩
 ·exact ⟨⟨POk.sm hp h5 ho, h5⟩, by show j + 1 ≤ _; omega⟩
theorem apV_ok : (SmP (apV L k).1 ∧ (apV L k).1.places.length ≤ 5) ∧ (apV L k).2 ≤ k + 35 := by
 obtain ⟨i1, i2, i3⟩ := prL_ok (L := L) (w := pickV L k wd3) (h := pickV L (k + 1) hg3) (k := k + 2) 5
 obtain ⟨j1, j2⟩ := prTail_ok (L := L) (w := pickV L k wd3) (h := pickV L (k + 1) hg3) (j := (prL L (pickV L k wd3) (pickV L (k + 1) hg3) (k + 2) 5).2) i1 i3
 exact ⟨j1, by unfold apV; omega⟩
end
def rpV (L : List Int) : Nat → Nat → ProdS × Nat
 | 0, k => (plainP, k)
 | f + 1, k => if prodF (apV L k).1 = 0 then apV L k else rpV L f (apV L k).2
theorem rpV_ok {L : List Int} : ∀ f k, (SmP (rpV L f k).1 ∧ (rpV L f k).1.places.length ≤ 5 ∧ prodF (rpV L f k).1 = 0) ∧ (rpV L f k).2 ≤ k + f * 35
 | 0, k => ⟨⟨plainP_sm, Nat.zero_le _, plainP_ok⟩, by show k ≤ _; omega⟩
 | f + 1, k => by
  obtain ⟨⟨i1, i2⟩, i3⟩ := apV_ok (L := L) (k := k)
  rw [rpV]
  split
  ·exact ⟨⟨i1, i2, by assumption⟩, by rw [Nat.add_mul]; omega⟩
  ·obtain ⟨g1, g2⟩ := rpV_ok f (apV L k).2
   exact ⟨g1, by rw [Nat.add_mul]; omega⟩
theorem rpV_y {L : List Int} {f k J : Nat} {pr : ProdS} (e : apV L k = (pr, J)) (h : prodF pr = 0) : rpV L (f + 1) k = (pr, J) := by rw [rpV, e, if_pos h]
theorem rpV_n {L : List Int} {f k J : Nat} {pr : ProdS} (e : apV L k = (pr, J)) (h : prodF pr ≠ 0) : rpV L (f + 1) k = rpV L f J := by rw [rpV, e, if_neg h]
theorem rpnV_y {L : List Int} {f k J : Nat} {pr : ProdS} {n : PanS} (e : pnV L pr k = (n, J)) (h : panelF pr n = 0) : rpnV L pr (f + 1) k = (n, J) := by rw [rpnV, e, if_pos h]
theorem rpnV_n {L : List Int} {f k J : Nat} {pr : ProdS} {n : PanS} (e : pnV L pr k = (n, J)) (h : panelF pr n ≠ 0) : rpnV L pr (f + 1) k = rpnV L pr f J := by rw [rpnV, e, if_neg h]
set_option maxHeartbeats 8000000 in
theorem rightProduct_E {p0 cap : Nat} {a0 : Option Addr} {p k : Nat} {L : List Int} (hk : k ≤ 700000) (hp0 : p0 ≤ p) :
  SpecHX (TXI a0 L p0) Tryz.prog 8 [sp p] [bxStr p a0 cap L k] (fun y hp' => y = avProd (rpV L 6 k).1 ∧ ∃ e, hp' = [bxStr p a0 cap L (rpV L 6 k).2, e]) := by
 refine SpecHX.of_VC txi_stab Tryz.func8 rfl Tryz.ntmps8 (Nle rfl) fun w A hB hGX => ?_
 refine VC.sr ?_
 refine VO.op rfl (OpE.alloc rfl hB rfl Tryz.zeroValue28 rfl ?_)
 intro g2
 refine VO.nil ?_
 refine VC.seq ?_
 refine VC.sr ?_
 refine VO.mw ?_
 refine VO.nil ?_
 refine VC.block ?_
 refine VC.loopK [(0, _), (2, _)] ⟨rfl, rfl, trivial⟩ ({t : Nat × Nat // t.2 ≤ 6 ∧ t.1 ≤ k + 50 * t.2 ∧ rpV L (6 - t.2) t.1 = rpV L 6 k}) (fun (iZ : {t : Nat × Nat // t.2 ≤ 6 ∧ t.1 ≤ k + 50 * t.2 ∧ rpV L (6 - t.2) t.1 = rpV L 6 k}) => match iZ with | ⟨⟨j, q⟩, hq, hj, hE⟩ => [(4, avI (q : Int))]) (fun (iZ : {t : Nat × Nat // t.2 ≤ 6 ∧ t.1 ≤ k + 50 * t.2 ∧ rpV L (6 - t.2) t.1 = rpV L 6 k}) => match iZ with | ⟨⟨j, q⟩, hq, hj, hE⟩ => [bxStr p a0 cap L j, bA g2]) (fun (iZ : {t : Nat × Nat // t.2 ≤ 6 ∧ t.1 ≤ k + 50 * t.2 ∧ rpV L (6 - t.2) t.1 = rpV L 6 k}) => match iZ with | ⟨⟨j, q⟩, hq, hj, hE⟩ => 0) (fun (iZ : {t : Nat × Nat // t.2 ≤ 6 ∧ t.1 ≤ k + 50 * t.2 ∧ rpV L (6 - t.2) t.1 = rpV L 6 k}) => match iZ with | ⟨⟨j, q⟩, hq, hj, hE⟩ => 6 - q) ⟨(k, 0), Nat.zero_le _, Nat.le_refl _, rfl⟩ (Le.mk hB [0, 1] ⟨rfl, rfl, rfl, trivial⟩ rfl rfl (Nat.le_refl _)) ?_
 rintro ⟨⟨j, q⟩, hq, hj, hE⟩
 show VC _ _ _ _ ⟨[(4, avI (q : Int))] ++ [(0, _), (2, _)], [bxStr p a0 cap L j, bA g2], 0⟩
 simp only at hq hj hE
 refine VC.sr ?_
 refine VO.vv (OpV.lss rfl rfl rfl) ?_
 refine VO.nil ?_
 refine VC.seq ?_
 refine VC.cond rfl (fun aH1b => ?_) (fun aH1b => ?_)
 ·have aH1 := aH1b
  try simp only [qq] at aH1
  refine VC.skip ?_
  refine VC.seq ?_
  refine VC.block ?_
  refine VC.sr ?_
  refine VO.mw ?_
  refine VO.op rfl (OpE.callHX (rest := [_]) txi_stab hGX rfl hB rfl Tryz.call68 rfl rfl (aProduct_E (by omega) hp0) (List.Perm.refl _) (fun _ _ => trivial) ?_)
  rintro _ _ ⟨rfl, e7, rfl⟩
  obtain ⟨⟨hsm, hpl⟩, hJ⟩ := apV_ok (L := L) (k := j)
  obtain ⟨⟨pr, J⟩, hP⟩ : ∃ z, apV L j = z := ⟨_, rfl⟩
  rw [hP] at hsm hpl hJ
  simp only at hsm hpl hJ
  have h6 : 6 - q = (6 - (q + 1)) + 1 := by omega
  refine VO.le _ (Le.recast (t := 7) (y := avProd pr) rfl (fun w Z u h => by rw [hP] at h; exact h)) ?_
  refine VO.le _ (Le.pickH [0, 2] rfl rfl) ?_
  refine VO.le _ (Le.perm (hp := [bxStr p a0 cap L J, bA g2]) (by have e : (apV L j).2 = J := by { rw [hP] }; show [bxStr p a0 cap L (apV L j).2, _].Perm _; rw [e])) ?_
  refine VO.op rfl (OpE.alloc rfl hB rfl Tryz.zeroValue28 rfl ?_)
  intro g3
  refine VO.op rfl (OpE.store (i := 2) rfl hB rfl Tryz.sizeOf28 rfl rfl rfl rfl rfl rfl (Nle rfl) trivial ?_)
  refine VO.nil ?_
  refine VC.sr ?_
  refine VO.vv (OpV.loadK_own (i := 2) rfl hB Tryz.isAgg28 Tryz.sizeOf28 rfl rfl rfl (fun h => h)) ?_
  refine VO.op rfl (OpE.call rfl hB rfl Tryz.call69 rfl (SpecN.spec (rf_ProductFault hsm)) ?_)
  rintro _ rfl
  refine VO.vv (OpV.eql rfl rfl rfl) ?_
  refine VO.nil ?_
  refine VC.cond rfl (fun h1b => ?_) (fun h1b => ?_)
  ·have h1 := h1b
   try simp only [qq] at h1
   refine VC.sr ?_
   refine VO.vv (OpV.loadK_own (i := 2) rfl hB Tryz.isAgg28 Tryz.sizeOf28 rfl rfl rfl (fun h => h)) ?_
   refine VO.op rfl (OpE.store (i := 1) rfl hB rfl Tryz.sizeOf28 rfl rfl rfl rfl rfl rfl (Nle rfl) trivial ?_)
   refine VO.nil ?_
   refine VC.le _ (Le.pickH [0, 1] rfl rfl) ?_
   refine VC.ret ?_
   exact Exists.intro _ (And.intro (RetV.one Tryz.results8 ((by first | exact ResV.cellK (i := 0) Tryz.isAgg28 Tryz.sizeOf28 rfl rfl rfl | exact ResV.cellK (i := 1) Tryz.isAgg28 Tryz.sizeOf28 rfl rfl rfl | exact ResV.cellK (i := 2) Tryz.isAgg28 Tryz.sizeOf28 rfl rfl rfl))) (by have e : rpV L 6 k = (pr, J) := by { rw [← hE, h6]; exact rpV_y hP (by omega) }; rw [e]; exact ⟨rfl, _, rfl⟩))
  ·have h1 := h1b
   try simp only [qq] at h1
   refine VC.skip ?_
   refine VC.region ?_
   refine VO.vv (OpV.add rfl rfl rfl (by unfold fits; omega)) ?_
   refine VO.mw ?_
   refine VO.nil ?_
   exact Exists.intro (⟨(J, q + 1), by show q + 1 ≤ 6; omega, by show J ≤ k + 50 * (q + 1); omega, by show rpV L (6 - (q + 1)) J = _; rw [← hE, h6, rpV_n hP (by omega)]⟩) (And.intro (Le.mk hB [0, 1] ⟨rfl, rfl, rfl, trivial⟩ rfl rfl (Nat.le_refl _)) (by first | omega | (show _ < _; omega) | (simp only []; omega)))
 ·have aH1 := aH1b
  try simp only [qq] at aH1
  obtain rfl : q = 6 := by omega
  refine VC.exit ?_
  refine VC.sr ?_
  refine VO.vv (OpV.build (pls := #[(0, 1), (1, 1), (2, 1), (3, 1)]) rfl Tryz.zeroValue28 Tryz.underlying28 (fun w => by kernel_rfl) rfl rfl) ?_
  refine VO.le _ (Le.recast (t := 13) (y := avProd plainP) rfl (fun w Z u h => nil_prod h)) ?_
  refine VO.op rfl (OpE.store (i := 1) rfl hB rfl Tryz.sizeOf28 rfl rfl rfl rfl rfl rfl (Nle rfl) trivial ?_)
  refine VO.nil ?_
  refine VC.ret ?_
  exact Exists.intro _ (And.intro (RetV.one Tryz.results8 ((by first | exact ResV.cellK (i := 0) Tryz.isAgg28 Tryz.sizeOf28 rfl rfl rfl | exact ResV.cellK (i := 1) Tryz.isAgg28 Tryz.sizeOf28 rfl rfl rfl))) (by rw [← hE]; exact ⟨rfl, _, rfl⟩))
set_option maxHeartbeats 8000000 in
theorem rightPanel_E {p0 cap : Nat} {a0 : Option Addr} {p k : Nat} {L : List Int} {pr : ProdS} (hk : k ≤ 700000) (hs : SmP pr) (h0 : prodF pr = 0) (hp0 : p0 ≤ p) :
  SpecHX (TXI a0 L p0) Tryz.prog 9 [sp p, avProd pr] [bxStr p a0 cap L k] (fun y hp' => y = avPan (rpnV L pr 6 k).1 ∧ ∃ e, hp' = [bxStr p a0 cap L (rpnV L pr 6 k).2, e]) := by
 refine SpecHX.of_VC txi_stab Tryz.func9 rfl Tryz.ntmps9 (Nle rfl) fun w A hB hGX => ?_
 refine VC.sr ?_
 refine VO.op rfl (OpE.box rfl hB rfl rfl rfl ?_)
 intro g3
 refine VO.op rfl (OpE.alloc rfl hB rfl Tryz.zeroValue32 rfl ?_)
 intro g4
 refine VO.nil ?_
 refine VC.seq ?_
 refine VC.sr ?_
 refine VO.mw ?_
 refine VO.nil ?_
 refine VC.block ?_
 refine VC.loopK [(0, _), (3, _), (4, _)] ⟨rfl, rfl, rfl, trivial⟩ ({t : Nat × Nat // t.2 ≤ 6 ∧ t.1 ≤ k + 50 * t.2 ∧ rpnV L pr (6 - t.2) t.1 = rpnV L pr 6 k}) (fun (iZ : {t : Nat × Nat // t.2 ≤ 6 ∧ t.1 ≤ k + 50 * t.2 ∧ rpnV L pr (6 - t.2) t.1 = rpnV L pr 6 k}) => match iZ with | ⟨⟨j, q⟩, hq, hj, hE⟩ => [(6, avI (q : Int))]) (fun (iZ : {t : Nat × Nat // t.2 ≤ 6 ∧ t.1 ≤ k + 50 * t.2 ∧ rpnV L pr (6 - t.2) t.1 = rpnV L pr 6 k}) => match iZ with | ⟨⟨j, q⟩, hq, hj, hE⟩ => [bxStr p a0 cap L j, boxProd g3 pr 28, bB g4]) (fun (iZ : {t : Nat × Nat // t.2 ≤ 6 ∧ t.1 ≤ k + 50 * t.2 ∧ rpnV L pr (6 - t.2) t.1 = rpnV L pr 6 k}) => match iZ with | ⟨⟨j, q⟩, hq, hj, hE⟩ => 0) (fun (iZ : {t : Nat × Nat // t.2 ≤ 6 ∧ t.1 ≤ k + 50 * t.2 ∧ rpnV L pr (6 - t.2) t.1 = rpnV L pr 6 k}) => match iZ with | ⟨⟨j, q⟩, hq, hj, hE⟩ => 6 - q) ⟨(k, 0), Nat.zero_le _, Nat.le_refl _, rfl⟩ (Le.mk hB [0, 1, 2] ⟨rfl, rfl, rfl, rfl, trivial⟩ rfl rfl (Nat.le_refl _)) ?_
 rintro ⟨⟨j, q⟩, hq, hj, hE⟩
 show VC _ _ _ _ ⟨[(6, avI (q : Int))] ++ [(0, _), (3, _), (4, _)], [bxStr p a0 cap L j, boxProd g3 pr 28, bB g4], 0⟩
 simp only at hq hj hE
 refine VC.sr ?_
 refine VO.vv (OpV.lss rfl rfl rfl) ?_
 refine VO.nil ?_
 refine VC.seq ?_
 refine VC.cond rfl (fun aH1b => ?_) (fun aH1b => ?_)
 ·have aH1 := aH1b
  try simp only [qq] at aH1
  refine VC.skip ?_
  refine VC.seq ?_
  refine VC.block ?_
  refine VC.sr ?_
  refine VO.mw ?_
  refine VO.vv (OpV.loadK_own (i := 1) rfl hB Tryz.isAgg28 Tryz.sizeOf28 rfl rfl rfl (fun h => h)) ?_
  refine VO.op rfl (OpE.callHX (rest := [_, _]) txi_stab hGX rfl hB rfl Tryz.call70 rfl rfl (aPanel_E (by omega) hp0) (List.Perm.refl _) (fun _ _ => trivial) ?_)
  rintro _ _ ⟨rfl, e10, rfl⟩
  obtain ⟨hnl, hJ⟩ := pnV_ok (L := L) (pr := pr) (k := j)
  obtain ⟨⟨n, J⟩, hP⟩ : ∃ z, pnV L pr j = z := ⟨_, rfl⟩
  rw [hP] at hnl hJ
  simp only at hnl hJ
  have h6 : 6 - q = (6 - (q + 1)) + 1 := by omega
  refine VO.le _ (Le.recast (t := 10) (y := avPan n) rfl (fun w Z u h => by rw [hP] at h; exact h)) ?_
  refine VO.le _ (Le.pickH [0, 2, 3] rfl rfl) ?_
  refine VO.le _ (Le.perm (hp := [bxStr p a0 cap L J, boxProd g3 pr 28, bB g4]) (by have e : (pnV L pr j).2 = J := by { rw [hP] }; show [bxStr p a0 cap L (pnV L pr j).2, _, _].Perm _; rw [e])) ?_
  refine VO.op rfl (OpE.alloc rfl hB rfl Tryz.zeroValue32 rfl ?_)
  intro g5
  refine VO.op rfl (OpE.store (i := 3) rfl hB rfl Tryz.sizeOf32 rfl rfl rfl rfl rfl rfl (Nle rfl) trivial ?_)
  refine VO.nil ?_
  refine VC.sr ?_
  refine VO.vv (OpV.loadK_own (i := 1) rfl hB Tryz.isAgg28 Tryz.sizeOf28 rfl rfl rfl (fun h => h)) ?_
  refine VO.vv (OpV.loadK_own (i := 3) rfl hB Tryz.isAgg32 Tryz.sizeOf32 rfl rfl rfl (fun h => h)) ?_
  refine VO.op rfl (OpE.call rfl hB rfl Tryz.call71 rfl (SpecN.spec (rf_PanelFault hs (by omega))) ?_)
  rintro _ rfl
  refine VO.vv (OpV.eql rfl rfl rfl) ?_
  refine VO.nil ?_
  refine VC.cond rfl (fun h1b => ?_) (fun h1b => ?_)
  ·have h1 := h1b
   try simp only [qq] at h1
   refine VC.sr ?_
   refine VO.vv (OpV.loadK_own (i := 3) rfl hB Tryz.isAgg32 Tryz.sizeOf32 rfl rfl rfl (fun h => h)) ?_
   refine VO.op rfl (OpE.store (i := 2) rfl hB rfl Tryz.sizeOf32 rfl rfl rfl rfl rfl rfl (Nle rfl) trivial ?_)
   refine VO.nil ?_
   refine VC.le _ (Le.pickH [0, 2] rfl rfl) ?_
   refine VC.ret ?_
   exact Exists.intro _ (And.intro (RetV.one Tryz.results9 ((by first | exact ResV.cellK (i := 0) Tryz.isAgg32 Tryz.sizeOf32 rfl rfl rfl | exact ResV.cellK (i := 1) Tryz.isAgg32 Tryz.sizeOf32 rfl rfl rfl | exact ResV.cellK (i := 2) Tryz.isAgg32 Tryz.sizeOf32 rfl rfl rfl | exact ResV.cellK (i := 3) Tryz.isAgg32 Tryz.sizeOf32 rfl rfl rfl))) (by have e : rpnV L pr 6 k = (n, J) := by { rw [← hE, h6]; exact rpnV_y hP (by omega) }; rw [e]; exact ⟨rfl, _, rfl⟩))
  ·have h1 := h1b
   try simp only [qq] at h1
   refine VC.skip ?_
   refine VC.region ?_
   refine VO.vv (OpV.add rfl rfl rfl (by unfold fits; omega)) ?_
   refine VO.mw ?_
   refine VO.nil ?_
   exact Exists.intro (⟨(J, q + 1), by show q + 1 ≤ 6; omega, by show J ≤ k + 50 * (q + 1); omega, by show rpnV L pr (6 - (q + 1)) J = _; rw [← hE, h6, rpnV_n hP (by omega)]⟩) (And.intro (Le.mk hB [0, 1, 2] ⟨rfl, rfl, rfl, rfl, trivial⟩ rfl rfl (Nat.le_refl _)) (by first | omega | (show _ < _; omega) | (simp only []; omega)))
 ·have aH1 := aH1b
  try simp only [qq] at aH1
  obtain rfl : q = 6 := by omega
  refine VC.exit ?_
  refine VC.sr ?_
  refine VO.vv (OpV.build (pls := #[(0, 1), (1, 1), (2, 1)]) rfl Tryz.zeroValue32 Tryz.underlying32 (fun w => by kernel_rfl) rfl rfl) ?_
  refine VO.le _ (Le.recast (t := 17) (y := avPan ⟨10, 10, []⟩) rfl (fun w Z u h => nil_panel h)) ?_
  refine VO.op rfl (OpE.store (i := 2) rfl hB rfl Tryz.sizeOf32 rfl rfl rfl rfl rfl rfl (Nle rfl) trivial ?_)
  refine VO.nil ?_
  refine VC.le _ (Le.pickH [0, 2] rfl rfl) ?_
  refine VC.ret ?_
  exact Exists.intro _ (And.intro (RetV.one Tryz.results9 ((by first | exact ResV.cellK (i := 0) Tryz.isAgg32 Tryz.sizeOf32 rfl rfl rfl | exact ResV.cellK (i := 1) Tryz.isAgg32 Tryz.sizeOf32 rfl rfl rfl | exact ResV.cellK (i := 2) Tryz.isAgg32 Tryz.sizeOf32 rfl rfl rfl))) (by rw [← hE]; exact ⟨rfl, _, rfl⟩))
end
section
abbrev xBd (l : List BodyS) (m : Nat) : BodyS := l.getD m default
abbrev pBd (g o : Nat) : AV := .v (.pointer (some ⟨g, o, none⟩))
def bodies_EZ1 (p : Nat) (gr : Nat) (m : Nat) (l : List BodyS) (capL : Nat) : List (Nat × AV) := [(0, sp p), (44, sp p), (51, sp p), (58, sp p), (41, (pBd gr (0 + m * 3))), (42, (pBd gr (0 + m * 3))), (43, (pBd gr (0 + m * 3))), (48, avS (xBd l m).part), (55, avI (xBd l m).wide), (62, avI (xBd l m).high), (66, avI (xBd l m).high), (3, .v (.slice (some ⟨gr, 0, none⟩) l.length capL))]
set_option maxHeartbeats 40000000 in
theorem bodies_E {p0 cap : Nat} {a0 : Option Addr} {p k : Nat} {L : List Int} (hk : k ≤ 800000) (hp0 : p0 ≤ p) :
    SpecHX (TXI a0 L p0) Tryz.prog 16 [sp p] [bxStr p a0 cap L k] (fun y hp' => y = avL (bdV L k).1 ∧ hp' = [bxStr p a0 cap L (bdV L k).2]) := by
  have e4 : bdW.length = 4 := rfl
  have e3 : bdH.length = 3 := rfl
  refine SpecHX.of_VC txi_stab Tryz.func16 rfl Tryz.ntmps16 (Nle rfl) fun w A hB hGX => ?_
  have hnew : True := trivial
  refine VC.sr ?_
  refine VO.mb ?_
  refine VO.nil ?_
  refine VC.sr ?_
  refine VO.mb ?_
  refine VO.nil ?_
  refine VC.seq ?_
  refine VC.sr ?_
  refine VO.op rfl (bS rfl hB rfl (by decide) rfl rfl ?_)
  refine VO.le _ (Le.lS (t := 7) (xs := keysBd) rfl rfl) ?_
  refine VO.vv (OpV.len_im rfl Tryz.underlying82 rfl) ?_
  refine VO.mw ?_
  refine VO.nil ?_
  refine VC.block ?_
  refine VC.le _ (Le.nilRow 3 63) ?_
  refine VC.loopK [(0, _), (7, _)] ⟨rfl, rfl, trivial⟩ ({t : Value × (List BodyS × Nat) × Nat // t.2.2 ≤ 3 ∧ t.2.1 = bdL L k t.2.2}) (fun (iZ : {t : Value × (List BodyS × Nat) × Nat // t.2.2 ≤ 3 ∧ t.2.1 = bdL L k t.2.2}) => match iZ with | ⟨⟨u, ⟨l, j⟩, q⟩, hq, hlj⟩ => [(3, .v u), (8, avI 3), (9, avI (q : Int))]) (fun (iZ : {t : Value × (List BodyS × Nat) × Nat // t.2.2 ≤ 3 ∧ t.2.1 = bdL L k t.2.2}) => match iZ with | ⟨⟨u, ⟨l, j⟩, q⟩, hq, hlj⟩ => [bxStr p a0 cap L j, .row u l.length 3 (rowL l) 63]) (fun (iZ : {t : Value × (List BodyS × Nat) × Nat // t.2.2 ≤ 3 ∧ t.2.1 = bdL L k t.2.2}) => match iZ with | ⟨⟨u, ⟨l, j⟩, q⟩, hq, hlj⟩ => 0) (fun (iZ : {t : Value × (List BodyS × Nat) × Nat // t.2.2 ≤ 3 ∧ t.2.1 = bdL L k t.2.2}) => match iZ with | ⟨⟨u, ⟨l, j⟩, q⟩, hq, hlj⟩ => 3 - q) ⟨(.slice none 0 0, ([], k), 0), Nat.zero_le _, rfl⟩ (Le.mk hB [0, 1] ⟨rfl, rfl, rfl, rfl, rfl, trivial⟩ rfl rfl (Nat.le_refl _)) ?_
  rintro ⟨⟨u, ⟨l, j⟩, q⟩, hq, hlj⟩
  show VC _ _ _ _ ⟨[(3, .v u), (8, avI 3), (9, avI (q : Int))] ++ [(0, _), (7, _)], [bxStr p a0 cap L j, .row u l.length 3 (rowL l) 63], 0⟩
  simp only at hq hlj
  have hB0 := bdL_ok (L := L) (k := k) q
  rw [← hlj] at hB0
  obtain ⟨hl, hj, hok⟩ := hB0
  simp only at hl hj hok
  refine VC.sr ?_
  refine VO.vv (OpV.lss rfl rfl rfl) ?_
  refine VO.nil ?_
  refine VC.seq ?_
  refine VC.cond rfl (fun aH1b => ?_) (fun aH1b => ?_)
  · have aH1 := aH1b
    try simp only [qq] at aH1
    refine VC.skip ?_
    refine VC.seq ?_
    refine VC.block ?_
    refine VC.sr ?_
    refine VO.vv (OpV.indexAddr_1 rfl Tryz.underlying82 Tryz.sizeOf9 rfl rfl rfl (by show _ < 3; omega)) ?_
    refine VO.vv (OpV.load_at rfl hB OutW.no Tryz.isAgg9 rfl rfl) ?_
    refine VO.mb ?_
    refine VO.nil ?_
    refine VC.sr ?_
    refine VO.mw ?_
    refine VO.op rfl (OpE.callHX (rest := [_]) txi_stab hGX rfl hB rfl Tryz.call76 rfl rfl (flip_X (by omega) (by omega) hp0) (List.Perm.refl _) (fun _ _ => trivial) ?_)
    rintro _ _ ⟨rfl, rfl⟩
    refine VO.vv (OpV.not rfl rfl) ?_
    refine VO.nil ?_
    refine VC.cond rfl (fun h1b => ?_) (fun h1b => ?_)
    · have h1 := h1b
      try simp only [qq] at h1
      refine VC.region ?_
      refine VO.mw ?_
      refine VO.mw ?_
      refine VO.mw ?_
      refine VO.op rfl (bI rfl hB rfl (by decide) rfl rfl ?_)
      refine VO.le _ (Le.lI (t := 19) (xs := bdW) rfl rfl) ?_
      refine VO.op rfl (OpE.callHX (rest := [_]) txi_stab hGX rfl hB rfl Tryz.call77 rfl rfl (pick_E (xs := bdW) (by omega) (by omega) hp0) (List.Perm.refl _) (fun _ _ => trivial) ?_)
      rintro _ _ ⟨rfl, rfl⟩
      refine VO.mw ?_
      refine VO.op rfl (bI rfl hB rfl (by decide) rfl rfl ?_)
      refine VO.le _ (Le.lI (t := 22) (xs := bdH) rfl rfl) ?_
      refine VO.op rfl (OpE.callHX (rest := [_]) txi_stab hGX rfl hB rfl Tryz.call77 rfl rfl (pick_E (xs := bdH) (by omega) (by omega) hp0) (List.Perm.refl _) (fun _ _ => trivial) ?_)
      rintro _ _ ⟨rfl, rfl⟩
      refine VO.vv (OpV.build (pls := #[(0, 1), (1, 1), (2, 1)]) rfl Tryz.zeroValue63 Tryz.underlying63 (fun w => by kernel_rfl) rfl rfl) ?_
      refine VO.op rfl (OpE.buildSlice (zc := #[.string ⟨#[]⟩, .int .i64 0, .int .i64 0]) rfl hB rfl Tryz.underlying51 Tryz.sizeOf63 Tryz.zeroValue63 (by decide) (by decide) (by kernel_rfl) rfl rfl ?_)
      refine VO.op rfl (OpE.append1 (i := 1) rfl hB rfl Tryz.underlying51 (infoOf Tryz.t63 3 (by kernel_rfl) rfl rfl) rfl (by decide) (by decide) rfl rfl rfl rfl (rowL_snoc l (⟨keysBd.getD q ByteArray.empty, pickV L (j + 1) bdW, pickV L (j + 2) bdH⟩ : BodyS)) (by omega) (fun _ _ => trivial) ?_)
      intro u2
      refine VO.mb ?_
      refine VO.nil ?_
      refine VC.region ?_
      refine VO.vv (OpV.add rfl rfl rfl (by unfold fits; omega)) ?_
      refine VO.mw ?_
      refine VO.nil ?_
      exact Exists.intro (⟨(u2, (l ++ [⟨keysBd.getD q ByteArray.empty, pickV L (j + 1) bdW, pickV L (j + 2) bdH⟩], j + 3), q + 1), by show q + 1 ≤ 3; omega, by show _ = bdIn L q (bdL L k q); rw [← hlj]; exact (bdIn_y (by omega)).symm⟩) (And.intro (Le.mk hB [0, 1] ⟨rfl, rfl, rfl, rfl, rfl, trivial⟩ rfl (by dsimp only; first | rfl | (rw [List.length_append]; rfl)) (Nat.le_refl _)) (by first | omega | (show _ < _; omega) | (simp only []; omega)))
    · have h1 := h1b
      try simp only [qq] at h1
      refine VC.skip ?_
      refine VC.region ?_
      refine VO.vv (OpV.add rfl rfl rfl (by unfold fits; omega)) ?_
      refine VO.mw ?_
      refine VO.nil ?_
      exact Exists.intro (⟨(u, (l, j + 1), q + 1), by show q + 1 ≤ 3; omega, by show _ = bdIn L q (bdL L k q); rw [← hlj]; exact (bdIn_n (by omega)).symm⟩) (And.intro (Le.mk hB [0, 1] ⟨rfl, rfl, rfl, rfl, rfl, trivial⟩ rfl (by dsimp only; first | rfl | (rw [List.length_append]; rfl)) (Nat.le_refl _)) (by first | omega | (show _ < _; omega) | (simp only []; omega)))
  · have aH1 := aH1b
    try simp only [qq] at aH1
    obtain rfl : q = 3 := by omega
    have hV : bdV L k = bdTail L l j := by unfold bdV; rw [← hlj]
    refine VC.exit ?_
    refine VC.seq ?_
    refine VC.sr ?_
    refine VO.mw ?_
    refine VO.vv (OpV.len_row (i := 1) rfl Tryz.underlying51 rfl rfl) ?_
    refine VO.vv (OpV.gtr rfl rfl rfl) ?_
    refine VO.mw ?_
    refine VO.opG rfl rfl rfl rfl (fun aK2b => ?_) (fun aK2b => ?_)
    · replace aK2b : _ = true := aK2b
      have aK2 := aK2b
      try simp only [qq] at aK2
      refine OpE.val (W := NoB) (OpV.move (.inl rfl) rfl) rfl ?_
      refine VO.opY rfl rfl rfl rfl aK2b ?_
      refine OpE.callHX (rest := [_]) txi_stab hGX rfl hB rfl Tryz.call76 rfl rfl (flip_X (by omega) (by omega) hp0) (List.Perm.refl _) (fun _ _ => trivial) ?_
      rintro _ _ ⟨rfl, rfl⟩
      refine VO.vv (OpV.pickT rfl rfl rfl rfl aK2b) ?_
      refine VO.nil ?_
      refine VC.cond rfl (fun aH3b => ?_) (fun aH3b => ?_)
      · have aH3 := aH3b
        try simp only [qq] at aH3
        refine VC.seq ?_
        refine VC.asBox (i := 1) rfl (by omega) (fun gr capL hu hcap hmx => ?_)
        subst hu
        refine VC.region ?_
        refine VO.mw ?_
        refine VO.mw ?_
        refine VO.mw ?_
        refine VO.vv (OpV.len_v rfl Tryz.underlying51 rfl) ?_
        refine VO.op rfl (OpE.callHX (rest := [_]) txi_stab hGX rfl hB rfl Tryz.call78 rfl rfl (next_X hp0 (by omega) (by omega)) (List.Perm.refl _) (fun _ _ => trivial) ?_)
        rintro _ _ ⟨rfl, rfl⟩
        have hx1 := nxt_lo L (j + 1) l.length
        have hx2 := nxt_lt L (j + 1) l.length (by omega)
        obtain ⟨m, hi⟩ : ∃ i : Nat, nxt L (j + 1) l.length = i := ⟨(nxt L (j + 1) l.length).toNat, by omega⟩
        have hil : m < l.length := by omega
        refine VO.le _ (Le.recast (t := 39) (y := avI (m : Int)) rfl (fun w Z u h => by rw [← hi]; exact h)) ?_
        refine VO.vv (OpV.indexAddr_q rfl Tryz.underlying51 Tryz.sizeOf63 rfl rfl rfl (by omega)) ?_
        refine VO.mb ?_
        refine VO.nil ?_
        refine VC.hap (fun hap => ?_)
        have nrp := apart_ne hap (i := 1) (j := 0) rfl rfl (by decide)
        obtain ⟨r50, e50⟩ : ∃ r, someV L (j + 2) [(xBd l m).part, ⟨#[]⟩, ⟨#[99, 97, 112]⟩] = r := ⟨_, rfl⟩
        obtain ⟨r57, e57⟩ : ∃ r, pickV L (j + 3) [(xBd l m).wide, 0, 500001] = r := ⟨_, rfl⟩
        obtain ⟨r68, e68⟩ : ∃ r, pickV L (j + 4) [(xBd l m).high, (xBd l m).high, -1] = r := ⟨_, rfl⟩
        refine VC.draw (fun jj b => (jj ∈ [30, 33, 36] ∧ b = gr) ∨ (jj ∈ [9, 16, 27] ∧ b = p)) hB (by kernel_rfl) ?_
        refine VA.td (i := 0) rfl (OpV.move (.inl rfl) rfl) ?_
        refine VA.td (i := 1) rfl (OpV.move (.inl rfl) rfl) ?_
        refine VA.td (i := 2) rfl (OpV.move (.inl rfl) rfl) ?_
        refine VA.td (i := 3) rfl (OpV.move (.inl rfl) rfl) ?_
        refine VA.td (i := 4) rfl (OpV.move (.inl rfl) rfl) ?_
        refine VA.td (i := 5) rfl (OpV.nilCheck rfl rfl) ?_
        refine VA.td (i := 6) rfl (OpV.fieldAddrO 0 rfl Tryz.underlying63 rfl rfl Tryz.sizeOf9 rfl) ?_
        refine VA.td (i := 7) rfl (OpV.load_own (i := 1) rfl hB Tryz.isAgg9 rfl rfl (rowL_at rfl (by omega) (by decide)) (Wi.notSS (.inl (by decide +kernel)) nrp)) ?_
        refine VA.td (i := 10) rfl (OpV.move (.inl rfl) rfl) ?_
        refine VA.td (i := 11) rfl (OpV.move (.inl rfl) rfl) ?_
        refine VA.td (i := 12) rfl (OpV.nilCheck rfl rfl) ?_
        refine VA.td (i := 13) rfl (OpV.fieldAddrO 1 rfl Tryz.underlying63 rfl rfl Tryz.sizeOf3 rfl) ?_
        refine VA.td (i := 14) rfl (OpV.load_own (i := 1) rfl hB Tryz.isAgg3 rfl rfl (rowL_at rfl (by omega) (by decide)) (Wi.notSS (.inl (by decide +kernel)) nrp)) ?_
        refine VA.td (i := 17) rfl (OpV.move (.inl rfl) rfl) ?_
        refine VA.td (i := 18) rfl (OpV.move (.inl rfl) rfl) ?_
        refine VA.td (i := 19) rfl (OpV.nilCheck rfl rfl) ?_
        refine VA.td (i := 20) rfl (OpV.fieldAddrO 2 rfl Tryz.underlying63 rfl rfl Tryz.sizeOf3 rfl) ?_
        refine VA.td (i := 21) rfl (OpV.load_own (i := 1) rfl hB Tryz.isAgg3 rfl rfl (rowL_at rfl (by omega) (by decide)) (Wi.notSS (.inl (by decide +kernel)) nrp)) ?_
        refine VA.td (i := 22) rfl (OpV.move (.inl rfl) rfl) ?_
        refine VA.td (i := 23) rfl (OpV.nilCheck rfl rfl) ?_
        refine VA.td (i := 24) rfl (OpV.fieldAddrO 2 rfl Tryz.underlying63 rfl rfl Tryz.sizeOf3 rfl) ?_
        refine VA.td (i := 25) rfl (OpV.load_own (i := 1) rfl hB Tryz.isAgg3 rfl rfl (rowL_at rfl (by omega) (by decide)) (Wi.notSS (.inl (by decide +kernel)) nrp)) ?_
        refine VA.bind (fun F hF => ?_)
        have hS0 : F 7 (lsE 37 30 []) ⟨bodies_EZ1 p gr m l capL ++ [(49, (avStrs [(xBd l m).part, ⟨#[]⟩, ⟨#[99, 97, 112]⟩])), (50, avS r50), (56, (avInts [(xBd l m).wide, 0, 500001])), (57, avI r57), (67, (avInts [(xBd l m).high, (xBd l m).high, -1])), (68, avI r68), (70, (pBd gr (0 + m * 3 + 0)))], [bxStr p a0 cap L (j + 2 + 1 + 1 + 1), .box gr ⟨rowL l, 63, capL * 3⟩], 0⟩ := by
          rw [hF]
          refine VA.all (rs := [30]) (by decide +kernel) (by decide) ?_
          refine ⟨⟨_, rfl, .inl rfl, ?_⟩, trivial⟩
          refine OpE.store1 (i := 1) rfl hB rfl Tryz.sizeOf9 rfl rfl rfl rfl rfl rfl (rowL_in rfl (by omega) (by decide)) (rowL_set (x := ({l.getD m default with part := r50} : BodyS)) rfl (by omega) (by decide) rfl (fun i hi hn => bd_upd (by simp) (by simp) (by simp) i hi hn)) (by first | exact .inl ⟨by decide, rfl⟩) ?_
          refine VA.td (i := 31) rfl (OpV.nilCheck rfl rfl) ?_
          refine VA.td (i := 32) rfl (OpV.fieldAddrO 1 rfl Tryz.underlying63 rfl rfl Tryz.sizeOf3 rfl) ?_
          refine VA.all (rs := [33]) (by decide +kernel) (by decide) ?_
          refine ⟨⟨_, rfl, .inl rfl, ?_⟩, trivial⟩
          refine OpE.store1 (i := 1) rfl hB rfl Tryz.sizeOf3 rfl rfl rfl rfl rfl rfl (rowL_in rfl (by first | omega | (simp only [List.length_set]; omega)) (by decide)) (rowL_set (x := ({l.getD m default with part := r50, wide := r57} : BodyS)) rfl (by first | omega | (simp only [List.length_set]; omega)) (by decide) rfl (fun i hi hn => by rw [getD_setB (by first | omega | (simp only [List.length_set]; omega))]; exact bd_upd (by simp) (by simp) (by simp) i hi hn)) (by first | exact .inl ⟨by decide, rfl⟩) ?_
          refine VA.td (i := 34) rfl (OpV.nilCheck rfl rfl) ?_
          refine VA.td (i := 35) rfl (OpV.fieldAddrO 2 rfl Tryz.underlying63 rfl rfl Tryz.sizeOf3 rfl) ?_
          refine VA.all (rs := [36]) (by decide +kernel) (by decide) ?_
          refine ⟨⟨_, rfl, .inl rfl, ?_⟩, trivial⟩
          refine OpE.store1 (i := 1) rfl hB rfl Tryz.sizeOf3 rfl rfl rfl rfl rfl rfl (rowL_in rfl (by first | omega | (simp only [List.length_set]; omega)) (by decide)) (rowL_set (x := ({l.getD m default with part := r50, wide := r57, high := r68} : BodyS)) rfl (by first | omega | (simp only [List.length_set]; omega)) (by decide) rfl (fun i hi hn => by rw [getD_setB (by first | omega | (simp only [List.length_set]; omega))]; exact bd_upd (by simp) (by simp) (by simp) i hi hn)) (by first | exact .inl ⟨by decide, rfl⟩) ?_
          refine VA.done (by decide +kernel) ?_
          refine VC.sr ?_
          refine VO.mw ?_
          refine VO.mb ?_
          refine VO.nil ?_
          refine VC.le _ (Le.boxT (t := 2) (i := 1) (n := l.length) (xs := (((l.set m ({l.getD m default with part := r50} : BodyS)).set m ({l.getD m default with part := r50, wide := r57} : BodyS)).set m ({l.getD m default with part := r50, wide := r57, high := r68} : BodyS))) hB hnew rfl rfl (by simp) hcap hmx) ?_
          refine VC.ret ?_
          exact Exists.intro _ (And.intro (RetV.one Tryz.results16 (ResV.tmp rfl)) (by first | exact bd_out (hV.trans (bdTail_0 (by omega))) | exact bd_out (hV.trans (bdTail_1 (by omega) (by omega))) | exact bd_out (hV.trans (bdTail_2 (by omega) (by omega) hi e50 e57 e68))))
        have hS1 : F 10 (lsE 37 27 []) ⟨bodies_EZ1 p gr m l capL ++ [(49, (avStrs [(xBd l m).part, ⟨#[]⟩, ⟨#[99, 97, 112]⟩])), (50, avS r50), (56, (avInts [(xBd l m).wide, 0, 500001])), (57, avI r57), (67, (avInts [(xBd l m).high, (xBd l m).high, -1]))], [bxStr p a0 cap L (j + 2 + 1 + 1), .box gr ⟨rowL l, 63, capL * 3⟩], 0⟩ := by
          rw [hF]
          refine VA.all (rs := [27]) (by decide +kernel) (by decide) ?_
          refine ⟨⟨_, rfl, .inl rfl, ?_⟩, trivial⟩
          refine OpE.callHX (rest := [_]) txi_stab hGX rfl hB rfl Tryz.call77 rfl rfl (pick_E (xs := [(xBd l m).high, (xBd l m).high, -1]) (by omega) (by simp) hp0) (List.Perm.refl _) (fun b h => .inr ⟨by decide, blkStr h⟩) ?_
          rintro _ _ ⟨rfl, rfl⟩
          refine VA.le _ (Le.recast (t := 68) (y := avI r68) rfl (fun w Z u h => by rw [← e68]; exact h)) ?_
          refine VA.td (i := 28) rfl (OpV.nilCheck rfl rfl) ?_
          refine VA.td (i := 29) rfl (OpV.fieldAddrO 0 rfl Tryz.underlying63 rfl rfl Tryz.sizeOf9 rfl) ?_
          have hh := hS0 
          rw [hF] at hh
          exact VA.to hh (by decide +kernel) (Le.mk hB [0, 1] (by repeat first | refine ⟨rfl, ?_⟩ | trivial) rfl rfl (Nat.le_refl _))
        have hS2 : F 11 (lsE 37 26 []) ⟨bodies_EZ1 p gr m l capL ++ [(49, (avStrs [(xBd l m).part, ⟨#[]⟩, ⟨#[99, 97, 112]⟩])), (50, avS r50), (56, (avInts [(xBd l m).wide, 0, 500001])), (57, avI r57)], [bxStr p a0 cap L (j + 2 + 1 + 1), .box gr ⟨rowL l, 63, capL * 3⟩], 0⟩ := by
          rw [hF]
          refine VA.all (rs := [26]) (by decide +kernel) (by decide) ?_
          refine ⟨⟨_, rfl, .inl rfl, ?_⟩, trivial⟩
          refine bI rfl hB rfl (by decide) rfl rfl ?_
          refine VA.le _ (Le.lI (t := 67) (xs := [(xBd l m).high, (xBd l m).high, -1]) rfl rfl) ?_
          have hh := hS1 
          rw [hF] at hh
          exact VA.to hh (by decide +kernel) (Le.mk hB [0, 1] (by repeat first | refine ⟨rfl, ?_⟩ | trivial) rfl rfl (Nat.le_refl _))
        have hS3 : F 11 (lsE 37 27 [16]) ⟨bodies_EZ1 p gr m l capL ++ [(49, (avStrs [(xBd l m).part, ⟨#[]⟩, ⟨#[99, 97, 112]⟩])), (50, avS r50), (56, (avInts [(xBd l m).wide, 0, 500001])), (67, (avInts [(xBd l m).high, (xBd l m).high, -1]))], [bxStr p a0 cap L (j + 2 + 1), .box gr ⟨rowL l, 63, capL * 3⟩], 0⟩ := by
          rw [hF]
          refine VA.all (rs := [16]) (by decide +kernel) (by decide) ?_
          refine ⟨⟨_, rfl, .inl rfl, ?_⟩, trivial⟩
          refine OpE.callHX (rest := [_]) txi_stab hGX rfl hB rfl Tryz.call77 rfl rfl (pick_E (xs := [(xBd l m).wide, 0, 500001]) (by omega) (by simp) hp0) (List.Perm.refl _) (fun b h => .inr ⟨by decide, blkStr h⟩) ?_
          rintro _ _ ⟨rfl, rfl⟩
          refine VA.le _ (Le.recast (t := 57) (y := avI r57) rfl (fun w Z u h => by rw [← e57]; exact h)) ?_
          have hh := hS1 
          rw [hF] at hh
          exact VA.to hh (by decide +kernel) (Le.mk hB [0, 1] (by repeat first | refine ⟨rfl, ?_⟩ | trivial) rfl rfl (Nat.le_refl _))
        have hS4 : F 12 (lsE 37 26 [16]) ⟨bodies_EZ1 p gr m l capL ++ [(49, (avStrs [(xBd l m).part, ⟨#[]⟩, ⟨#[99, 97, 112]⟩])), (50, avS r50), (56, (avInts [(xBd l m).wide, 0, 500001]))], [bxStr p a0 cap L (j + 2 + 1), .box gr ⟨rowL l, 63, capL * 3⟩], 0⟩ := by
          rw [hF]
          refine VA.all (rs := [16, 26]) (by decide +kernel) (by decide) ?_
          refine ⟨⟨_, rfl, .inl rfl, ?_⟩, ⟨_, rfl, .inl rfl, ?_⟩, trivial⟩
          ·
            refine OpE.callHX (rest := [_]) txi_stab hGX rfl hB rfl Tryz.call77 rfl rfl (pick_E (xs := [(xBd l m).wide, 0, 500001]) (by omega) (by simp) hp0) (List.Perm.refl _) (fun b h => .inr ⟨by decide, blkStr h⟩) ?_
            rintro _ _ ⟨rfl, rfl⟩
            refine VA.le _ (Le.recast (t := 57) (y := avI r57) rfl (fun w Z u h => by rw [← e57]; exact h)) ?_
            have hh := hS2 
            rw [hF] at hh
            exact VA.to hh (by decide +kernel) (Le.mk hB [0, 1] (by repeat first | refine ⟨rfl, ?_⟩ | trivial) rfl rfl (Nat.le_refl _))
          ·
            refine bI rfl hB rfl (by decide) rfl rfl ?_
            refine VA.le _ (Le.lI (t := 67) (xs := [(xBd l m).high, (xBd l m).high, -1]) rfl rfl) ?_
            have hh := hS3 
            rw [hF] at hh
            exact VA.to hh (by decide +kernel) (Le.mk hB [0, 1] (by repeat first | refine ⟨rfl, ?_⟩ | trivial) rfl rfl (Nat.le_refl _))
        have hS5 : F 12 (lsE 37 27 [15, 16]) ⟨bodies_EZ1 p gr m l capL ++ [(49, (avStrs [(xBd l m).part, ⟨#[]⟩, ⟨#[99, 97, 112]⟩])), (50, avS r50), (67, (avInts [(xBd l m).high, (xBd l m).high, -1]))], [bxStr p a0 cap L (j + 2 + 1), .box gr ⟨rowL l, 63, capL * 3⟩], 0⟩ := by
          rw [hF]
          refine VA.all (rs := [15]) (by decide +kernel) (by decide) ?_
          refine ⟨⟨_, rfl, .inl rfl, ?_⟩, trivial⟩
          refine bI rfl hB rfl (by decide) rfl rfl ?_
          refine VA.le _ (Le.lI (t := 56) (xs := [(xBd l m).wide, 0, 500001]) rfl rfl) ?_
          have hh := hS3 
          rw [hF] at hh
          exact VA.to hh (by decide +kernel) (Le.mk hB [0, 1] (by repeat first | refine ⟨rfl, ?_⟩ | trivial) rfl rfl (Nat.le_refl _))
        have hS6 : F 12 (lsE 37 27 [9, 16]) ⟨bodies_EZ1 p gr m l capL ++ [(49, (avStrs [(xBd l m).part, ⟨#[]⟩, ⟨#[99, 97, 112]⟩])), (56, (avInts [(xBd l m).wide, 0, 500001])), (67, (avInts [(xBd l m).high, (xBd l m).high, -1]))], [bxStr p a0 cap L (j + 2), .box gr ⟨rowL l, 63, capL * 3⟩], 0⟩ := by
          rw [hF]
          refine VA.all (rs := [9]) (by decide +kernel) (by decide) ?_
          refine ⟨⟨_, rfl, .inl rfl, ?_⟩, trivial⟩
          refine OpE.callHX (rest := [_]) txi_stab hGX rfl hB rfl Tryz.call79 rfl rfl (some_X (xs := [(xBd l m).part, ⟨#[]⟩, ⟨#[99, 97, 112]⟩]) (by omega) (by simp) hp0) (List.Perm.refl _) (fun b h => .inr ⟨by decide, blkStr h⟩) ?_
          rintro _ _ ⟨rfl, rfl⟩
          refine VA.le _ (Le.recast (t := 50) (y := avS r50) rfl (fun w Z u h => by rw [← e50]; exact h)) ?_
          have hh := hS3 
          rw [hF] at hh
          exact VA.to hh (by decide +kernel) (Le.mk hB [0, 1] (by repeat first | refine ⟨rfl, ?_⟩ | trivial) rfl rfl (Nat.le_refl _))
        have hS7 : F 13 (lsE 37 26 [15, 16]) ⟨bodies_EZ1 p gr m l capL ++ [(49, (avStrs [(xBd l m).part, ⟨#[]⟩, ⟨#[99, 97, 112]⟩])), (50, avS r50)], [bxStr p a0 cap L (j + 2 + 1), .box gr ⟨rowL l, 63, capL * 3⟩], 0⟩ := by
          rw [hF]
          refine VA.all (rs := [15, 26]) (by decide +kernel) (by decide) ?_
          refine ⟨⟨_, rfl, .inl rfl, ?_⟩, ⟨_, rfl, .inl rfl, ?_⟩, trivial⟩
          ·
            refine bI rfl hB rfl (by decide) rfl rfl ?_
            refine VA.le _ (Le.lI (t := 56) (xs := [(xBd l m).wide, 0, 500001]) rfl rfl) ?_
            have hh := hS4 
            rw [hF] at hh
            exact VA.to hh (by decide +kernel) (Le.mk hB [0, 1] (by repeat first | refine ⟨rfl, ?_⟩ | trivial) rfl rfl (Nat.le_refl _))
          ·
            refine bI rfl hB rfl (by decide) rfl rfl ?_
            refine VA.le _ (Le.lI (t := 67) (xs := [(xBd l m).high, (xBd l m).high, -1]) rfl rfl) ?_
            have hh := hS5 
            rw [hF] at hh
            exact VA.to hh (by decide +kernel) (Le.mk hB [0, 1] (by repeat first | refine ⟨rfl, ?_⟩ | trivial) rfl rfl (Nat.le_refl _))
        have hS8 : F 13 (lsE 37 26 [9, 16]) ⟨bodies_EZ1 p gr m l capL ++ [(49, (avStrs [(xBd l m).part, ⟨#[]⟩, ⟨#[99, 97, 112]⟩])), (56, (avInts [(xBd l m).wide, 0, 500001]))], [bxStr p a0 cap L (j + 2), .box gr ⟨rowL l, 63, capL * 3⟩], 0⟩ := by
          rw [hF]
          refine VA.all (rs := [9, 26]) (by decide +kernel) (by decide) ?_
          refine ⟨⟨_, rfl, .inl rfl, ?_⟩, ⟨_, rfl, .inl rfl, ?_⟩, trivial⟩
          ·
            refine OpE.callHX (rest := [_]) txi_stab hGX rfl hB rfl Tryz.call79 rfl rfl (some_X (xs := [(xBd l m).part, ⟨#[]⟩, ⟨#[99, 97, 112]⟩]) (by omega) (by simp) hp0) (List.Perm.refl _) (fun b h => .inr ⟨by decide, blkStr h⟩) ?_
            rintro _ _ ⟨rfl, rfl⟩
            refine VA.le _ (Le.recast (t := 50) (y := avS r50) rfl (fun w Z u h => by rw [← e50]; exact h)) ?_
            have hh := hS4 
            rw [hF] at hh
            exact VA.to hh (by decide +kernel) (Le.mk hB [0, 1] (by repeat first | refine ⟨rfl, ?_⟩ | trivial) rfl rfl (Nat.le_refl _))
          ·
            refine bI rfl hB rfl (by decide) rfl rfl ?_
            refine VA.le _ (Le.lI (t := 67) (xs := [(xBd l m).high, (xBd l m).high, -1]) rfl rfl) ?_
            have hh := hS6 
            rw [hF] at hh
            exact VA.to hh (by decide +kernel) (Le.mk hB [0, 1] (by repeat first | refine ⟨rfl, ?_⟩ | trivial) rfl rfl (Nat.le_refl _))
        have hS9 : F 13 (lsE 37 27 [9, 15, 16]) ⟨bodies_EZ1 p gr m l capL ++ [(49, (avStrs [(xBd l m).part, ⟨#[]⟩, ⟨#[99, 97, 112]⟩])), (67, (avInts [(xBd l m).high, (xBd l m).high, -1]))], [bxStr p a0 cap L (j + 2), .box gr ⟨rowL l, 63, capL * 3⟩], 0⟩ := by
          rw [hF]
          refine VA.all (rs := [9, 15]) (by decide +kernel) (by decide) ?_
          refine ⟨⟨_, rfl, .inl rfl, ?_⟩, ⟨_, rfl, .inl rfl, ?_⟩, trivial⟩
          ·
            refine OpE.callHX (rest := [_]) txi_stab hGX rfl hB rfl Tryz.call79 rfl rfl (some_X (xs := [(xBd l m).part, ⟨#[]⟩, ⟨#[99, 97, 112]⟩]) (by omega) (by simp) hp0) (List.Perm.refl _) (fun b h => .inr ⟨by decide, blkStr h⟩) ?_
            rintro _ _ ⟨rfl, rfl⟩
            refine VA.le _ (Le.recast (t := 50) (y := avS r50) rfl (fun w Z u h => by rw [← e50]; exact h)) ?_
            have hh := hS5 
            rw [hF] at hh
            exact VA.to hh (by decide +kernel) (Le.mk hB [0, 1] (by repeat first | refine ⟨rfl, ?_⟩ | trivial) rfl rfl (Nat.le_refl _))
          ·
            refine bI rfl hB rfl (by decide) rfl rfl ?_
            refine VA.le _ (Le.lI (t := 56) (xs := [(xBd l m).wide, 0, 500001]) rfl rfl) ?_
            have hh := hS6 
            rw [hF] at hh
            exact VA.to hh (by decide +kernel) (Le.mk hB [0, 1] (by repeat first | refine ⟨rfl, ?_⟩ | trivial) rfl rfl (Nat.le_refl _))
        have hS10 : F 13 (lsE 37 27 [8, 9, 16]) ⟨bodies_EZ1 p gr m l capL ++ [(56, (avInts [(xBd l m).wide, 0, 500001])), (67, (avInts [(xBd l m).high, (xBd l m).high, -1]))], [bxStr p a0 cap L (j + 2), .box gr ⟨rowL l, 63, capL * 3⟩], 0⟩ := by
          rw [hF]
          refine VA.all (rs := [8]) (by decide +kernel) (by decide) ?_
          refine ⟨⟨_, rfl, .inl rfl, ?_⟩, trivial⟩
          refine bS rfl hB rfl (by decide) rfl rfl ?_
          refine VA.le _ (Le.lS (t := 49) (xs := [(xBd l m).part, ⟨#[]⟩, ⟨#[99, 97, 112]⟩]) rfl rfl) ?_
          have hh := hS6 
          rw [hF] at hh
          exact VA.to hh (by decide +kernel) (Le.mk hB [0, 1] (by repeat first | refine ⟨rfl, ?_⟩ | trivial) rfl rfl (Nat.le_refl _))
        have hS11 : F 14 (lsE 37 26 [9, 15, 16]) ⟨bodies_EZ1 p gr m l capL ++ [(49, (avStrs [(xBd l m).part, ⟨#[]⟩, ⟨#[99, 97, 112]⟩]))], [bxStr p a0 cap L (j + 2), .box gr ⟨rowL l, 63, capL * 3⟩], 0⟩ := by
          rw [hF]
          refine VA.all (rs := [9, 15, 26]) (by decide +kernel) (by decide) ?_
          refine ⟨⟨_, rfl, .inl rfl, ?_⟩, ⟨_, rfl, .inl rfl, ?_⟩, ⟨_, rfl, .inl rfl, ?_⟩, trivial⟩
          ·
            refine OpE.callHX (rest := [_]) txi_stab hGX rfl hB rfl Tryz.call79 rfl rfl (some_X (xs := [(xBd l m).part, ⟨#[]⟩, ⟨#[99, 97, 112]⟩]) (by omega) (by simp) hp0) (List.Perm.refl _) (fun b h => .inr ⟨by decide, blkStr h⟩) ?_
            rintro _ _ ⟨rfl, rfl⟩
            refine VA.le _ (Le.recast (t := 50) (y := avS r50) rfl (fun w Z u h => by rw [← e50]; exact h)) ?_
            have hh := hS7 
            rw [hF] at hh
            exact VA.to hh (by decide +kernel) (Le.mk hB [0, 1] (by repeat first | refine ⟨rfl, ?_⟩ | trivial) rfl rfl (Nat.le_refl _))
          ·
            refine bI rfl hB rfl (by decide) rfl rfl ?_
            refine VA.le _ (Le.lI (t := 56) (xs := [(xBd l m).wide, 0, 500001]) rfl rfl) ?_
            have hh := hS8 
            rw [hF] at hh
            exact VA.to hh (by decide +kernel) (Le.mk hB [0, 1] (by repeat first | refine ⟨rfl, ?_⟩ | trivial) rfl rfl (Nat.le_refl _))
          ·
            refine bI rfl hB rfl (by decide) rfl rfl ?_
            refine VA.le _ (Le.lI (t := 67) (xs := [(xBd l m).high, (xBd l m).high, -1]) rfl rfl) ?_
            have hh := hS9 
            rw [hF] at hh
            exact VA.to hh (by decide +kernel) (Le.mk hB [0, 1] (by repeat first | refine ⟨rfl, ?_⟩ | trivial) rfl rfl (Nat.le_refl _))
        have hS12 : F 14 (lsE 37 26 [8, 9, 16]) ⟨bodies_EZ1 p gr m l capL ++ [(56, (avInts [(xBd l m).wide, 0, 500001]))], [bxStr p a0 cap L (j + 2), .box gr ⟨rowL l, 63, capL * 3⟩], 0⟩ := by
          rw [hF]
          refine VA.all (rs := [8, 26]) (by decide +kernel) (by decide) ?_
          refine ⟨⟨_, rfl, .inl rfl, ?_⟩, ⟨_, rfl, .inl rfl, ?_⟩, trivial⟩
          ·
            refine bS rfl hB rfl (by decide) rfl rfl ?_
            refine VA.le _ (Le.lS (t := 49) (xs := [(xBd l m).part, ⟨#[]⟩, ⟨#[99, 97, 112]⟩]) rfl rfl) ?_
            have hh := hS8 
            rw [hF] at hh
            exact VA.to hh (by decide +kernel) (Le.mk hB [0, 1] (by repeat first | refine ⟨rfl, ?_⟩ | trivial) rfl rfl (Nat.le_refl _))
          ·
            refine bI rfl hB rfl (by decide) rfl rfl ?_
            refine VA.le _ (Le.lI (t := 67) (xs := [(xBd l m).high, (xBd l m).high, -1]) rfl rfl) ?_
            have hh := hS10 
            rw [hF] at hh
            exact VA.to hh (by decide +kernel) (Le.mk hB [0, 1] (by repeat first | refine ⟨rfl, ?_⟩ | trivial) rfl rfl (Nat.le_refl _))
        have hS13 : F 14 (lsE 37 27 [8, 9, 15, 16]) ⟨bodies_EZ1 p gr m l capL ++ [(67, (avInts [(xBd l m).high, (xBd l m).high, -1]))], [bxStr p a0 cap L (j + 2), .box gr ⟨rowL l, 63, capL * 3⟩], 0⟩ := by
          rw [hF]
          refine VA.all (rs := [8, 15]) (by decide +kernel) (by decide) ?_
          refine ⟨⟨_, rfl, .inl rfl, ?_⟩, ⟨_, rfl, .inl rfl, ?_⟩, trivial⟩
          ·
            refine bS rfl hB rfl (by decide) rfl rfl ?_
            refine VA.le _ (Le.lS (t := 49) (xs := [(xBd l m).part, ⟨#[]⟩, ⟨#[99, 97, 112]⟩]) rfl rfl) ?_
            have hh := hS9 
            rw [hF] at hh
            exact VA.to hh (by decide +kernel) (Le.mk hB [0, 1] (by repeat first | refine ⟨rfl, ?_⟩ | trivial) rfl rfl (Nat.le_refl _))
          ·
            refine bI rfl hB rfl (by decide) rfl rfl ?_
            refine VA.le _ (Le.lI (t := 56) (xs := [(xBd l m).wide, 0, 500001]) rfl rfl) ?_
            have hh := hS10 
            rw [hF] at hh
            exact VA.to hh (by decide +kernel) (Le.mk hB [0, 1] (by repeat first | refine ⟨rfl, ?_⟩ | trivial) rfl rfl (Nat.le_refl _))
        have hS14 : F 15 (lsE 37 26 [8, 9, 15, 16]) ⟨bodies_EZ1 p gr m l capL, [bxStr p a0 cap L (j + 2), .box gr ⟨rowL l, 63, capL * 3⟩], 0⟩ := by
          rw [hF]
          refine VA.all (rs := [8, 15, 26]) (by decide +kernel) (by decide) ?_
          refine ⟨⟨_, rfl, .inl rfl, ?_⟩, ⟨_, rfl, .inl rfl, ?_⟩, ⟨_, rfl, .inl rfl, ?_⟩, trivial⟩
          ·
            refine bS rfl hB rfl (by decide) rfl rfl ?_
            refine VA.le _ (Le.lS (t := 49) (xs := [(xBd l m).part, ⟨#[]⟩, ⟨#[99, 97, 112]⟩]) rfl rfl) ?_
            have hh := hS11 
            rw [hF] at hh
            exact VA.to hh (by decide +kernel) (Le.mk hB [0, 1] (by repeat first | refine ⟨rfl, ?_⟩ | trivial) rfl rfl (Nat.le_refl _))
          ·
            refine bI rfl hB rfl (by decide) rfl rfl ?_
            refine VA.le _ (Le.lI (t := 56) (xs := [(xBd l m).wide, 0, 500001]) rfl rfl) ?_
            have hh := hS12 
            rw [hF] at hh
            exact VA.to hh (by decide +kernel) (Le.mk hB [0, 1] (by repeat first | refine ⟨rfl, ?_⟩ | trivial) rfl rfl (Nat.le_refl _))
          ·
            refine bI rfl hB rfl (by decide) rfl rfl ?_
            refine VA.le _ (Le.lI (t := 67) (xs := [(xBd l m).high, (xBd l m).high, -1]) rfl rfl) ?_
            have hh := hS13 
            rw [hF] at hh
            exact VA.to hh (by decide +kernel) (Le.mk hB [0, 1] (by repeat first | refine ⟨rfl, ?_⟩ | trivial) rfl rfl (Nat.le_refl _))
        rw [hF]
        have hh := hS14 
        rw [hF] at hh
        exact VA.to hh (by decide +kernel) (Le.mk hB [0, 1] (by repeat first | refine ⟨rfl, ?_⟩ | trivial) rfl rfl (Nat.le_refl _))
      · have aH3 := aH3b
        try simp only [qq] at aH3
        refine VC.skip ?_
        refine VC.sr ?_
        refine VO.mw ?_
        refine VO.mb ?_
        refine VO.nil ?_
        refine VC.le _ (Le.rowT (t := 2) (i := 1) (n := l.length) (xs := l) hB hnew rfl rfl rfl) ?_
        refine VC.ret ?_
        exact Exists.intro _ (And.intro (RetV.one Tryz.results16 (ResV.tmp rfl)) (by first | exact bd_out (hV.trans (bdTail_0 (by omega))) | exact bd_out (hV.trans (bdTail_1 (by omega) (by omega))) | exact bd_out (hV.trans (bdTail_2 (by omega) (by omega) hi e50 e57 e68))))
    · replace aK2b : _ = false := aK2b
      have aK2 := aK2b
      try simp only [qq] at aK2
      refine VO.opX rfl rfl rfl rfl aK2b ?_
      refine VO.vv (OpV.pickF rfl rfl rfl rfl aK2b) ?_
      refine VO.nil ?_
      refine VC.condF rfl rfl ?_
      refine VC.skip ?_
      refine VC.sr ?_
      refine VO.mw ?_
      refine VO.mb ?_
      refine VO.nil ?_
      refine VC.le _ (Le.rowT (t := 2) (i := 1) (n := l.length) (xs := l) hB hnew rfl rfl rfl) ?_
      refine VC.ret ?_
      exact Exists.intro _ (And.intro (RetV.one Tryz.results16 (ResV.tmp rfl)) (by first | exact bd_out (hV.trans (bdTail_0 (by omega))) | exact bd_out (hV.trans (bdTail_1 (by omega) (by omega))) | exact bd_out (hV.trans (bdTail_2 (by omega) (by omega) hi e50 e57 e68))))
end
section
def cmpB (a b : ByteArray) : Int := Lib.compareBytes a.data.toList b.data.toList
theorem strings_Compare_S {a b : ByteArray} : SpecN Tryz.prog 95 [avS a, avS b] (fun y => y = avI (cmpB a b)) := by
 intro w us ha
 rw [argsV2 ha]
 refine (Tryz.strings_Compare a b w).mono ?_
 rintro e w' ⟨rfl, rfl⟩
 exact ⟨_, _, rfl, rfl, .v _, Chg.refl _ _, trivial⟩
theorem cmp_lt : ∀ x y : List UInt8, decide (Lib.compareBytes x y < 0) = Op.bytesLess x y
 | [], [] => rfl
 | [], _ :: _ => rfl
 | _ :: _, [] => rfl
 | a :: x, b :: y => by
  unfold Lib.compareBytes Op.bytesLess
  have ih := cmp_lt x y
  by_cases h1 : a < b
  ·simp [h1]
  ·by_cases h2 : b < a
   ·simp [h1, h2]
    intro e; subst e; exact absurd h2 (UInt8.lt_irrefl _)
   ·have e : a = b := UInt8.le_antisymm (UInt8.not_lt.1 h2) (UInt8.not_lt.1 h1)
    subst e
    simp [UInt8.lt_irrefl]
    simpa using ih
theorem cmpB_lt (a b : ByteArray) : decide (cmpB a b < 0) = sLt a b := by
 unfold sLt
 rw [Lib.toList_data, Lib.toList_data]
 exact cmp_lt _ _
theorem cmp_eq : ∀ {x y : List UInt8}, Lib.compareBytes x y = 0 ↔ x = y
 | [], [] => by simp [Lib.compareBytes]
 | [], _ :: _ => by simp [Lib.compareBytes]
 | _ :: _, [] => by simp [Lib.compareBytes]
 | a :: x, b :: y => by
  unfold Lib.compareBytes
  by_cases h1 : a < b
  ·simp [h1]
   intro e; subst e; exact absurd h1 (UInt8.lt_irrefl _)
  ·by_cases h2 : b < a
   ·simp [h1, h2]
    intro e; subst e; exact absurd h2 (UInt8.lt_irrefl _)
   ·have e : a = b := UInt8.le_antisymm (UInt8.not_lt.1 h2) (UInt8.not_lt.1 h1)
    subst e
    simp [UInt8.lt_irrefl, cmp_eq]
theorem cmpB_eq {a b : ByteArray} : cmpB a b = 0 ↔ a = b := by
 unfold cmpB
 rw [cmp_eq]
 constructor
 ·intro h
  cases a; cases b
  simpa using h
 ·intro h; rw [h]
theorem sLt_total {a b : ByteArray} (h : sLt a b = false) (hne : a ≠ b) : sLt b a = true := by
 unfold sLt at h ⊢
 rw [Lib.toList_data, Lib.toList_data] at h ⊢
 exact bl_total h fun e => hne (by cases a; cases b; simpa using e)
section
variable {α : Type} {k : α → ByteArray}
end
end
section
abbrev kv2 : ByteArray × ByteArray → Value := fun k => .agg #[.string k.1, .string k.2]
theorem sEq_dec (a b : ByteArray) : sEq a b = decide (a = b) := by
 by_cases h : a = b
 ·rw [decide_eq_true h]; exact sEq_eq.2 h
 ·rw [decide_eq_false h]
  cases e : sEq a b with
  | false => rfl
  | true => exact absurd (sEq_eq.1 e) h
section
variable {P : Program} {kt : TypeId} {f1 f2 : Field} (hu : P.underlying kt = some (.struct (P.fieldsOf kt))) (hs : P.stoodInHeld kt = false) (hf : P.fieldsOf kt = #[f1, f2]) (h1 : P.underlying f1.type = some .string) (h2 : P.underlying f2.type = some .string)
 (a1 : ∀ w, (isAgg f1.type).run P w = .ok false w) (a2 : ∀ w, (isAgg f2.type).run P w = .ok false w) (o1 : f1.offset = 0) (o2 : f2.offset = 1) (n1 : f1.name ≠ "_") (n2 : f2.name ≠ "_")
include hu hs hf h1 h2 a1 a2 o1 o2 n1 n2
theorem key2_eq (k k' : ByteArray × ByteArray) (w : World) : (Op.equal kt (kv2 k) (kv2 k')).run P w = .ok (decide (k = k')) w := by
 have hE : EqFs P 0 (P.fieldsOf kt).toList [avS k.1, avS k.2] [avS k'.1, avS k'.2] (sEq k.1 k'.1 && (sEq k.2 k'.2 && true)) := by
  rw [hf]
  exact EqFs.str h1 a1 o1 n1 (EqFs.str h2 a2 o2 n2 (EqFs.nil _))
 have rep : ∀ q : ByteArray × ByteArray, Rep w (fun _ => True) (.agg [avS q.1, avS q.2]) (kv2 q) := fun q => .agg _ _ rfl fun j hj => by
  match j, hj with
  | 0, _ => exact .v _
  | 1, _ => exact .v _
 obtain ⟨us, vs, e1, e2, e3⟩ := agg_eq hu hs hE (rep k) (rep k')
 have := e3 w
 have e4 : (sEq k.1 k'.1 && (sEq k.2 k'.2 && true)) = decide (k = k') := by
  rw [sEq_dec, sEq_dec, Bool.and_true]
  obtain ⟨a, b⟩ := k
  obtain ⟨c, d⟩ := k'
  simp [Prod.mk.injEq]
 rw [e4] at this
 exact this
theorem asking2 {α : Type} : ∀ (l : List ((ByteArray × ByteArray) × α)) (c : List MapEntry) (k : ByteArray × ByteArray) (w : World) (i : Nat), c.length = l.length → (∀ j (h : j < l.length), ∃ e, c[j]? = some e ∧ e.key = kv2 (l[j]).1) →
  (Instr.findAsking kt (kv2 k) c i).run P w = .ok (if mpos l k < l.length then (c[mpos l k]?).map fun e => (i + mpos l k, e.val) else none) w
 | [], c, k, w, i, hl, h => by
  have : c = [] := List.eq_nil_of_length_eq_zero (by simpa using hl)
  subst this; rfl
 | p :: r, [], k, w, i, hl, h => by simp at hl
 | p :: r, e :: c, k, w, i, hl, h => by
  obtain ⟨e0, g1, g2⟩ := h 0 (by simp)
  simp at g1 g2
  subst g1
  have hq := key2_eq hu hs hf h1 h2 a1 a2 o1 o2 n1 n2 k p.1 w
  simp only [Instr.findAsking, Sem.run_bind, g2, hq, Result.andThen_ok]
  by_cases ek : k = p.1
  ·simp [mpos, ek]
  ·simp only [ek, decide_false, Bool.false_eq_true, if_false]
   rw [asking2 r c k w (i + 1) (by simpa using hl) (fun j hj => h (j + 1) (Nat.succ_lt_succ hj))]
   simp only [mpos, if_neg ek, List.length_cons, Nat.add_lt_add_iff_right, List.getElem?_cons_succ]
   rw [show i + 1 + mpos r k = i + (mpos r k + 1) by omega]
omit hs in
theorem check2 (e : Bool) (n : Nat) (k : ByteArray × ByteArray) (w : World) : (Instr.checkKey e (n + 1 + 1) kt (kv2 k)).run P w = .ok () w := by
 have q1 : ∀ s w, (Instr.checkKey e (n + 1) f1.type (.string s)).run P w = .ok () w := fun s w => by
  rw [Instr.checkKey]; simp only [Sem.run_bind, run_underlying h1, Result.andThen_ok, Sem.run_pure]
 have q2 : ∀ s w, (Instr.checkKey e (n + 1) f2.type (.string s)).run P w = .ok () w := fun s w => by
  rw [Instr.checkKey]; simp only [Sem.run_bind, run_underlying h2, Result.andThen_ok, Sem.run_pure]
 have hu' := hu
 rw [hf] at hu'
 rw [Instr.checkKey]
 simp only [kv2, Sem.run_bind, run_underlying hu', Result.andThen_ok]
 simp [n1, n2, o1, o2, part, a1, a2, q1, q2]
theorem KeyOk.str2 : KeyOk P kt kv2 where
 check e k w := by
  rw [show (10000 : Nat) = 9998 + 1 + 1 from rfl]
  exact check2 hu hf h1 h2 a1 a2 o1 o2 n1 n2 e 9998 k w
 find l c k w hl h := by
  have hu' := hu
  rw [hf] at hu'
  cases c with
  | nil =>
   have : l = [] := List.eq_nil_of_length_eq_zero (by simpa using hl.symm)
   subst this
   simp [Instr.findKey, run_underlying hu', Instr.findNow, mpos]
  | cons e c =>
   have := asking2 hu hs hf h1 h2 a1 a2 o1 o2 n1 n2 l (e :: c) k w 0 hl h
   simp only [Nat.zero_add] at this
   simp only [Instr.findKey, Sem.run_bind, run_underlying hu', Result.andThen_ok, Instr.findNow, Instr.sameNow]
   exact this
 stay k w := by
  have : Instr.sameBits 10000 (kv2 k) (kv2 k) = true := by
   rw [show (10000 : Nat) = 9999 + 1 from rfl]
   simp [kv2, Instr.sameBits]
  simp [Instr.keyThatStays, this]
end
end
end Go.Proofs.YtcploodfholkkaaGreatDoor
namespace Go.Proofs.YtcploodfholkkaaGreatDoor
open Go.RowKit
set_option maxRecDepth 100000
section
def lowK {α : Type} (key : α → ByteArray) (l : List α) (k : ByteArray) : Nat := (l.takeWhile fun x => sLt (key x) k).length
theorem lowK_le {α : Type} {key : α → ByteArray} {l : List α} {k : ByteArray} : lowK key l k ≤ l.length := by
 unfold lowK
 exact (List.takeWhile_sublist _).length_le
section
variable {α : Type} [Inhabited α] (key : α → ByteArray) (l : List α) (k : ByteArray)
def RiseK : Prop := ∀ j, 0 < j → j < l.length → sLe (key (l.getD j default)) (key (l.getD (j - 1) default)) = false
variable {key l k}
theorem takeWhile_at {p : α → Bool} : ∀ (l : List α) (j : Nat), j < (l.takeWhile p).length → p (l.getD j default) = true
 | [], j, h => by simp at h
 | x :: l, j, h => by
  rw [List.takeWhile_cons] at h
  split at h
  ·rename_i hx
   cases j with
   | zero => simpa using hx
   | succ j => simpa using takeWhile_at l j (by simpa using h)
  ·simp at h
theorem takeWhile_end {p : α → Bool} : ∀ (l : List α), (l.takeWhile p).length < l.length → p (l.getD (l.takeWhile p).length default) = false
 | [], h => by simp at h
 | x :: l, h => by
  rw [List.takeWhile_cons] at h ⊢
  split
  ·rename_i hx
   rw [if_pos hx] at h
   simpa using takeWhile_end l (by simpa using h)
  ·rename_i hx
   simpa using hx
theorem lowK_lt {j : Nat} (h : j < lowK key l k) : sLt (key (l.getD j default)) k = true := takeWhile_at (p := fun x => sLt (key x) k) l j h
theorem rise_step {a b : ByteArray} (h : sLe b a = false) : sLt a b = true := by
 unfold sLe at h
 rw [Bool.or_eq_false_iff] at h
 exact sLt_total h.1 fun e => by rw [e, sEq_eq.2 rfl] at h; cases h.2
theorem rise_lt (hr : RiseK key l) : ∀ (i j : Nat), i < j → j < l.length → sLt (key (l.getD i default)) (key (l.getD j default)) = true
 | i, 0, h, _ => by omega
 | i, j + 1, h, hl => by
  have h1 := rise_step (hr (j + 1) (by omega) hl)
  rw [Nat.add_sub_cancel] at h1
  by_cases e : i = j
  ·subst e; exact h1
  ·exact sLt_trans (rise_lt hr i j (by omega) (by omega)) h1
theorem lowK_ge (hr : RiseK key l) {j : Nat} (h : lowK key l k ≤ j) (hj : j < l.length) : sLt (key (l.getD j default)) k = false := by
 have h0 : sLt (key (l.getD (lowK key l k) default)) k = false := takeWhile_end (p := fun x => sLt (key x) k) l (Nat.lt_of_le_of_lt h hj)
 by_cases e : j = lowK key l k
 ·rw [e]; exact h0
 ·have h1 := rise_lt hr (lowK key l k) j (by omega) hj
  cases h2 : sLt (key (l.getD j default)) k with
  | false => rfl
  | true => rw [sLt_trans h1 h2] at h0; cases h0
theorem lowK_any (hr : RiseK key l) : (decide (lowK key l k < l.length) && sEq (key (l.getD (lowK key l k) default)) k) = l.any fun x => sEq (key x) k := by
 cases hb : l.any (fun x => sEq (key x) k) with
 | true =>
  obtain ⟨x, hx, he⟩ := List.any_eq_true.1 hb
  obtain ⟨j, hj, rfl⟩ := List.getElem_of_mem hx
  have hd : l.getD j default = l[j] := by rw [List.getD_eq_getElem?_getD, List.getElem?_eq_getElem hj]; rfl
  have he' : key (l.getD j default) = k := by rw [hd]; exact sEq_eq.1 he
  have h1 : lowK key l k ≤ j := by
   rcases Nat.lt_or_ge j (lowK key l k) with h | h
   ·have := lowK_lt h; rw [he', sLt_irr] at this; cases this
   ·exact h
  have h2 : lowK key l k = j := by
   by_cases e : lowK key l k = j
   ·exact e
   ·have := rise_lt hr (lowK key l k) j (by omega) hj
    rw [he'] at this
    have := lowK_ge hr (k := k) (Nat.le_refl _) (by omega)
    simp_all
  rw [h2, he', decide_eq_true hj, sEq_eq.2 rfl]; rfl
 | false =>
  cases hc : (decide (lowK key l k < l.length) && sEq (key (l.getD (lowK key l k) default)) k) with
  | false => rfl
  | true =>
   rw [Bool.and_eq_true, decide_eq_true_eq] at hc
   rw [List.any_eq_false] at hb
   have := hb _ (List.getElem_mem hc.1)
   have hc1 := hc.1
   have hd : l.getD (lowK key l k) default = l[lowK key l k]'hc1 := by rw [List.getD_eq_getElem?_getD, List.getElem?_eq_getElem hc1]; rfl
   have hc2 := hc.2
   rw [hd] at hc2
   exact absurd hc2 this
theorem find_first {p : α → Bool} : ∀ (l : List α) (j : Nat), j < l.length → p (l.getD j default) = true → (∀ i, i < j → p (l.getD i default) = false) → (l.find? p).getD default = l.getD j default
 | [], j, h, _, _ => by simp at h
 | x :: l, 0, _, h, _ => by simp at h; simp [h]
 | x :: l, j + 1, hj, h, hn => by
  have h0 := hn 0 (by omega)
  simp at h0
  simp only [List.find?_cons, h0]
  rw [find_first l j (by simpa using hj) (by simpa using h) (fun i hi => by simpa using hn (i + 1) (by omega))]
  simp
theorem lowK_find (hr : RiseK key l) (h1 : lowK key l k < l.length) (h2 : sEq (key (l.getD (lowK key l k) default)) k = true) : (l.find? fun x => sEq (key x) k).getD default = l.getD (lowK key l k) default :=
 find_first l _ h1 h2 fun i hi => by
  have := lowK_lt hi
  cases e : sEq (key (l.getD i default)) k with
  | false => rfl
  | true => rw [sEq_eq.1 e, sLt_irr] at this; cases this
theorem find_none' {p : α → Bool} {l : List α} (h : l.any p = false) : (l.find? p).getD default = default := by
 rw [List.find?_eq_none.2 fun x hx => by rw [List.any_eq_false] at h; exact h x hx]; rfl
theorem lowK_cmp (hr : RiseK key l) : (∀ j, j < lowK key l k → cmpB (key (l.getD j default)) k < 0) ∧ (∀ j, lowK key l k ≤ j → j < l.length → 0 ≤ cmpB (key (l.getD j default)) k) := by
 refine ⟨fun j hj => ?_, fun j hj hl => ?_⟩
 ·have := lowK_lt hj
  rw [← cmpB_lt, decide_eq_true_eq] at this; exact this
 ·have := lowK_ge hr hj hl
  rw [← cmpB_lt, decide_eq_false_iff_not] at this; omega
theorem cmp_zero (a b : ByteArray) : decide (cmpB a b = 0) = sEq a b := by
 rw [sEq_dec]
 by_cases h : a = b
 ·rw [decide_eq_true h, decide_eq_true (cmpB_eq.2 h)]
 ·rw [decide_eq_false h, decide_eq_false fun e => h (cmpB_eq.1 e)]
end
theorem bsf_lo {f : Nat → Int} {s0 n h : Nat} (hhi : ∀ j, s0 ≤ j → j < n → 0 ≤ f j) (hn : h < n) (hc : f h < 0) : h + 1 ≤ s0 := by
 rcases Nat.lt_or_ge h s0 with h1 | h1
 ·exact h1
 ·have := hhi h h1 hn; omega
theorem bsf_hi {f : Nat → Int} {s0 h : Nat} (hlo : ∀ j, j < s0 → f j < 0) (hc : 0 ≤ f h) : s0 ≤ h := by
 rcases Nat.lt_or_ge h s0 with h1 | h1
 ·have := hlo h h1; omega
 ·exact h1
end
section
structure SpotS where
 slot : Int
 name : ByteArray
 x : Int
 y : Int
 quarter : Int
instance : Inhabited SpotS := ⟨⟨0, ByteArray.empty, 0, 0, 0⟩⟩
instance : Sxc SpotS where
 k := 5
 pos := by decide
 cell m j := match j with
  | 0 => avI m.slot
  | 1 => avS m.name
  | 2 => avI m.x
  | 3 => avI m.y
  | 4 => avI m.quarter
  | _ => .any
abbrev avSpot (x : SpotS) : AV := .agg [avI x.slot, avS x.name, avI x.x, avI x.y, avI x.quarter]
abbrev avPl (x : PlaceS) : AV := .agg [avS x.name, avS x.part, avI x.x, avI x.y, avI x.quarter]
def spotS (p : ProdS) (i : Int) (s : SlotS) (c : PlaceS) : SpotS := ⟨i, c.name, s.x + plX p s.quarter c.x c.y, s.y + plY p s.quarter c.x c.y, Int.tmod (s.quarter + c.quarter) 4⟩
def spotF (p : ProdS) (n : PanS) (i : Nat) (c : PlaceS) : SpotS := spotS p (i : Int) (n.slots.getD i default) c
def spotQ (p : ProdS) (n : PanS) (q : Nat) : List SpotS := (List.range q).flatMap fun i => if (n.slots.getD i default).skip = true then [] else p.places.map (spotF p n i)
theorem spotQ_skip {p : ProdS} {n : PanS} {q : Nat} (h : (n.slots.getD q default).skip = true) : spotQ p n (q + 1) = spotQ p n q := by
 rw [spotQ, List.range_succ, List.flatMap_append]
 simp only [List.flatMap_cons, List.flatMap_nil, if_pos h, List.append_nil]
 rfl
theorem spotQ_some {p : ProdS} {n : PanS} {q : Nat} (h : (n.slots.getD q default).skip = false) : spotQ p n (q + 1) = spotQ p n q ++ p.places.map (spotF p n q) := by
 rw [spotQ, List.range_succ, List.flatMap_append]
 simp only [List.flatMap_cons, List.flatMap_nil, if_neg (show ¬ (n.slots.getD q default).skip = true by rw [h]; simp), List.append_nil]
 rfl
theorem place_snoc {α : Type} {l : List PlaceS} {q : Nat} (f : PlaceS → α) (h : q < l.length) : (l.take (q + 1)).map f = (l.take q).map f ++ [f (l.getD q default)] := by
 rw [List.take_add_one, List.map_append, List.getD_eq_getElem?_getD, List.getElem?_eq_getElem h]; rfl
def boardN (n : PanS) (q : Nat) : Nat := ((n.slots.take q).filter fun s => !s.skip).length
theorem boardN_le (n : PanS) (q : Nat) : boardN n q ≤ q := by
 unfold boardN
 have := List.length_filter_le (fun s : SlotS => !s.skip) (n.slots.take q)
 rw [List.length_take] at this
 omega
theorem boardN_succ {n : PanS} {q : Nat} (h : q < n.slots.length) : boardN n (q + 1) = boardN n q + if (n.slots.getD q default).skip = true then 0 else 1 := by
 unfold boardN
 rw [List.take_add_one, List.getElem?_eq_getElem h, List.filter_append, List.length_append]
 have : n.slots.getD q default = n.slots[q] := by rw [List.getD_eq_getElem?_getD, List.getElem?_eq_getElem h]; rfl
 rw [this]
 cases hs : n.slots[q].skip <;> simp [hs]
theorem spotQ_len {p : ProdS} {n : PanS} : ∀ q, q ≤ n.slots.length → (spotQ p n q).length = boardN n q * p.places.length
 | 0, _ => by simp [spotQ, boardN]
 | q + 1, h => by
  rw [boardN_succ (by omega)]
  cases hs : (n.slots.getD q default).skip with
  | true => rw [spotQ_skip hs, spotQ_len q (by omega)]; simp
  | false => rw [spotQ_some hs, List.length_append, spotQ_len q (by omega), List.length_map]; simp [Nat.add_mul]
theorem spotQ_bd {p : ProdS} {n : PanS} {q : Nat} (h : q ≤ n.slots.length) (hn : n.slots.length ≤ 100) (hp : p.places.length ≤ 1000) : (spotQ p n q).length ≤ 100000 := by
 rw [spotQ_len q h]
 have := boardN_le n q
 exact Nat.le_trans (Nat.mul_le_mul (show boardN n q ≤ 100 by omega) hp) (by decide)
theorem plX_bd {p : ProdS} {q x y : Int} (hw : 1 ≤ p.wide ∧ p.wide ≤ 500000) (hh : 1 ≤ p.high ∧ p.high ≤ 500000) (hx : 0 ≤ x ∧ x ≤ p.wide) (hy : 0 ≤ y ∧ y ≤ p.high) : (0 ≤ plX p q x y ∧ plX p q x y ≤ 500000) ∧ 0 ≤ plY p q x y ∧ plY p q x y ≤ 500000 := by
 unfold plX plY
 repeat' split
 all_goals omega
end
section
section
variable {P : Program} {B : Bs} {s : St'} {o : Oper} {K : St' → Prop} {V : Nat → Nat → Prop} {ops : Array Oper} {Q : Exit → St' → Prop} {n N : Nat} {L : Array Bool}
def VN (P : Program) (B : Bs) (V : Nat → Nat → Prop) (ops : Array Oper) (Q : Exit → St' → Prop) (n : Nat) (L : Array Bool) (s : St') (N : Nat) : Prop :=
 ∀ a w, R B s a w → w.heap.size = N → wpAnyE P .any ops (fun a w => ∃ s, Q .normal s ∧ R B s a w) (fun j => Ew B (V j)) n L a w
def VM (P : Program) (B : Bs) (V : Nat → Nat → Prop) (ops : Array Oper) (Q : Exit → St' → Prop) (n : Nat) (L : Array Bool) (s : St') (N : Nat) : Prop :=
 ∀ a w, R B s a w → N ≤ w.heap.size → wpAnyE P .any ops (fun a w => ∃ s, Q .normal s ∧ R B s a w) (fun j => Ew B (V j)) n L a w
def OpVN (P : Program) (B : Bs) (W : Nat → Prop) (s : St') (o : Oper) (x : AV) (N : Nat) : Prop :=
 ∀ a w, R B s a w → w.heap.size = N → ∃ v, (∀ w', Chg (fun b => B.str b ∨ W b) w w' → (execOp a.eval o).run P w' = .ok (.value v) w') ∧ Rep w (Zn B s.hp w) x v
theorem OpVN.of {W : Nat → Prop} {x : AV} (h : OpV P B W s o x) : OpVN P B W s o x N := fun a w hr _ => h a w hr
theorem new_keep {W : Nat → Prop} (hB : B.Ok) {a : Act} {w w' : World} (hr : R B s a w) (hW : ∀ b, W b → w.heap.size ≤ b) (hc : Chg (fun b => B.str b ∨ W b) w w') {b : Nat} (hZ : Zn B s.hp w b) : w'.heap[b]? = w.heap[b]? := by
 refine hc.block b hZ.1 ?_
 rintro (h | h)
 ·obtain ⟨h1, h2⟩ := hB.str b h
  exact (hZ.2.2 (hB.low b h1)).2 h
 ·exact absurd hZ.1 (Nat.not_lt.2 (hW b h))
theorem OpVN.loadK_at {W : Nat → Prop} {x : Operand} {t m k : Nat} {F : Nat → AV} (ho : o.op = .load t x) (hB : B.Ok) (hW : ∀ b, W b → N ≤ b) (hag : ∀ w, (isAgg t).run P w = .ok true w) (hsz : ∀ w, (sizeOf t).run P w = .ok k w) (hx : evO s x = some (.at_ m F)) (hm : Nat.ble k m = true) : OpVN P B W s o (.agg (tab k F)) N := by
 intro a w hr hN
 have := hr.ev hx
 generalize hv : a.eval x = u at this
 have hm' := Nat.le_of_ble_eq_true hm
 cases this with
 | at_ m f' b off c e u hZ hb hc hr' =>
  refine ⟨.agg ((List.range k).map u).toArray, fun w' hcw => ?_, .agg _ _ (by simp [tab_len]) fun j hj => ?_⟩
  ·have hb' := (new_keep hB hr (fun b h => hN ▸ hW b h) hcw hZ).trans hb
   have hcell : ∀ j v, ((List.range k).map u)[j]? = some v → w'.cell? ((⟨b, off, none⟩ : Addr).add j) = some v := by
    intro j v hj
    simp only [List.getElem?_map, Option.map_eq_some_iff] at hj
    obtain ⟨q, hq, rfl⟩ := hj
    obtain ⟨hlt, hq'⟩ := List.getElem?_eq_some_iff.1 hq
    simp at hlt hq'
    subst hq'
    rw [Addr.add_lit]
    simpa [World.cell?, hb'] using hc j (by omega)
   have hl := run_loadCells_list (P := P) w' ⟨b, off, none⟩ _ hcell
   simp only [List.length_map, List.length_range] at hl
   simp only [execOp, ho, hv, Instr.loadAt, Instr.sureAddr, loadVar, hag, hsz, hl, Sem.run_bind, Sem.run_pure, Result.andThen_ok, if_true]
  ·rw [tab_len] at hj
   rw [tab_get]
   simp [hj]
   exact hr' j (by omega)
theorem VN.take {i : Nat} {x : AV} (hi : ops[i]? = some o) (hs : Region.noSelect ops = true) (hf : Region.free .any ops L i = true) (hr : (Region.ready .any ops L).contains i = true) (hg : o.guard = none) (hd : okd B.nt o.dst = true)
  (hv : OpVN P B (Wi V ops i) s o x N) (h : VN P B V ops Q n (L.setIfInBounds i true) (s.put o.dst x) N) : VN P B V ops Q (n + 1) L s N := fun a w hR hN => by
 obtain ⟨v, h1, h2⟩ := hv a w hR hN
 exact wpAnyE_first (F := Ew B (Wi V ops i)) Ew.tr Ew.rf (fun x => Ew.rf x) Wi.of hi (Region.noSelect_spec hs) n L a w (Region.free_spec hi hf) (by simpa using hr) (.inl ⟨by simp [Region.wanted, hg], h1⟩) (h _ _ (hR.put _ hd _ _ h2) hN)
theorem VM.take {i : Nat} {x : AV} (hi : ops[i]? = some o) (hs : Region.noSelect ops = true) (hf : Region.free .any ops L i = true) (hr : (Region.ready .any ops L).contains i = true) (hg : o.guard = none) (hd : okd B.nt o.dst = true)
  (hv : OpV P B (Wi V ops i) s o x) (h : VM P B V ops Q n (L.setIfInBounds i true) (s.put o.dst x) N) : VM P B V ops Q (n + 1) L s N := fun a w hR hN => by
 obtain ⟨v, h1, h2⟩ := hv a w hR
 exact wpAnyE_first (F := Ew B (Wi V ops i)) Ew.tr Ew.rf (fun x => Ew.rf x) Wi.of hi (Region.noSelect_spec hs) n L a w (Region.free_spec hi hf) (by simpa using hr) (.inl ⟨by simp [Region.wanted, hg], h1⟩) (h _ _ (hR.put _ hd _ _ h2) hN)
theorem VM.done (hr : Region.ready .any ops L = []) (h : Q .normal s) : VM P B V ops Q n L s N := fun a w hR _ => by
 cases n with
 | zero => exact ⟨hr, s, h, hR⟩
 | succ n => exact ⟨fun _ => ⟨s, h, hR⟩, by rw [hr]; simp⟩
def OpM (P : Program) (B : Bs) (W : Nat → Prop) (s : St') (o : Oper) (K : St' → Prop) (N : Nat) : Prop :=
 ∀ a w, R B s a w → N ≤ w.heap.size → ∀ (next : Act → World → Prop) (Qx : Exit → Act → World → Prop), (∀ s' a' w', K s' → R B s' a' w' → Ew B W w w' → next a' w') → o.wp P a w next Qx
theorem OpM.of {W : Nat → Prop} (h : OpE P B W s o K) : OpM P B W s o K N := fun a w hr _ => h a w hr
theorem OpM.alloc {W : Nat → Prop} {e : TypeId} {z : Value} {cs : List AV} (ho : o.op = .alloc e) (hB : B.Ok) (hd : okd B.nt o.dst = true) (hz : ∀ w, (zeroValue e).run P w = .ok z w) (hcs : cellsOf (.v z) = cs)
  (hK : ∀ g, N ≤ g → K ((St'.mk s.sl (s.hp ++ [.box g ⟨cs, e, cs.length⟩]) s.k).put o.dst (.v (.pointer (some ⟨g, 0, none⟩))))) : OpM P B W s o K N := by
 subst hcs
 intro a w hr hN next Qx hn
 have h1 := hr.newBox hB _ e _ (Rep.cells (.v z) rfl)
 unfold Oper.wp
 simp only [execOp, ho, Instr.alloc, newVar, newRow, Sem.run_bind, hz, run_newObj_alloc, Result.andThen_ok, Sem.run_pure]
 exact hn _ _ _ (hK _ hN) (h1.put _ hd _ _ (.v _)) (.ofN ((Chg.refl _ _).alloc _))
def EachM (P : Program) (B : Bs) (V : Nat → Nat → Prop) (ops : Array Oper) (Q : Exit → St' → Prop) (n : Nat) (L : Array Bool) (s : St') (N : Nat) : List Nat → Prop
 | [] => True
 | i :: r => (∃ o, ops[i]? = some o ∧ o.guard = none ∧ OpM P B (V i) s o (fun s' => VM P B V ops Q n (L.setIfInBounds i true) s' N) N) ∧ EachM P B V ops Q n L s N r
theorem VM.all {rs : List Nat} (hr : Region.ready .any ops L = rs) (hne : rs ≠ []) (h : EachM P B V ops Q n L s N rs) : VM P B V ops Q (n + 1) L s N := fun a w hR hN => by
 refine ⟨fun h0 => absurd (hr ▸ h0) hne, fun i hi => ?_⟩
 rw [hr] at hi
 have key : ∀ rs, EachM P B V ops Q n L s N rs → i ∈ rs → ∃ o, ops[i]? = some o ∧ o.guard = none ∧ OpM P B (V i) s o (fun s' => VM P B V ops Q n (L.setIfInBounds i true) s' N) N := by
  intro rs
  induction rs with
  | nil => intro _ h; simp at h
  | cons j r ih =>
   intro h hi
   rcases List.mem_cons.1 hi with rfl | hi
   ·exact h.1
   ·exact ih h.2 hi
 obtain ⟨o, ho, hg, hop⟩ := key rs h hi
 unfold wpOp
 simp only [ho]
 have hwant : Region.wanted o (yielded ops a.tmps) = true := by simp [Region.wanted, hg]
 rw [if_pos hwant]
 exact .inl (hop a w hR hN _ _ fun s' a' w' k1 k2 k3 => ⟨k3, k1 a' w' k2 (Nat.le_trans hN k3.size)⟩)
theorem VM.le {s' : St'} (h : Le B s s') (k : VM P B V ops Q n L s' N) : VM P B V ops Q n L s N := fun a w hr => k a w (h a w hr)
end
end
section
theorem panel_turned {p : ProdS} {q cx cy : Int} (hw : 1 ≤ p.wide ∧ p.wide ≤ 500000) (hh : 1 ≤ p.high ∧ p.high ≤ 500000) (hq : 0 ≤ q ∧ q ≤ 3) (hx : 0 ≤ cx ∧ cx ≤ p.wide) (hy : 0 ≤ cy ∧ cy ≤ p.high) :
  SpecN Tryz.prog 162 [avProd p, avI q, avI cx, avI cy] (fun y => y = .tup [avI (plX p q cx cy), avI (plY p q cx cy)]) := by
 refine SpecN.of_VCN Tryz.func162 rfl Tryz.ntmps162 (Nle rfl) fun w A hB => ?_
 refine VC.sr ?_
 refine VO.op rfl (OpE.box rfl hB rfl rfl rfl ?_)
 intro g4
 refine VO.mb ?_
 refine VO.mb ?_
 refine VO.nil ?_
 refine VC.seq ?_
 refine VC.sr ?_
 refine VO.mw ?_
 refine VO.nil ?_
 refine VC.block ?_
 refine VC.sr ?_
 refine VO.vv (OpV.eql rfl rfl rfl) ?_
 refine VO.mb ?_
 refine VO.nil ?_
 refine VC.cond rfl (fun h0b => ?_) (fun h0b => ?_)
 ·have h0 := h0b
  try simp only [qq] at h0
  refine VC.sr ?_
  refine VO.vv (OpV.fieldAddrO 2 rfl Tryz.underlying28 rfl rfl Tryz.sizeOf3 rfl) ?_
  refine VO.vv (OpV.load_own (i := 0) rfl hB Tryz.isAgg3 rfl rfl rfl (fun h => h)) ?_
  refine VO.mw ?_
  refine VO.vv (OpV.sub rfl rfl rfl (by unfold fits; omega)) ?_
  refine VO.mw ?_
  refine VO.mb ?_
  refine VO.mb ?_
  refine VO.nil ?_
  refine VC.ret ?_
  exact Exists.intro _ (And.intro (RetN.two Tryz.results162 (ResN.v rfl) (ResN.v rfl)) (by rw [h0]; rfl))
 ·have h0 := h0b
  try simp only [qq] at h0
  refine VC.sr ?_
  refine VO.vv (OpV.eql rfl rfl rfl) ?_
  refine VO.mb ?_
  refine VO.nil ?_
  refine VC.cond rfl (fun h1b => ?_) (fun h1b => ?_)
  ·have h1 := h1b
   try simp only [qq] at h1
   refine VC.seq ?_
   refine VC.draw (fun _ => NoB) hB (by kernel_rfl) ?_
   refine VA.tk (i := 0) rfl (OpV.fieldAddrO 1 rfl Tryz.underlying28 rfl rfl Tryz.sizeOf3 rfl) ?_
   refine VA.tk (i := 1) rfl (OpV.load_own (i := 0) rfl hB Tryz.isAgg3 rfl rfl rfl Wi.not0) ?_
   refine VA.tk (i := 2) rfl (OpV.move (.inl rfl) rfl) ?_
   refine VA.tk (i := 3) rfl (OpV.sub rfl rfl rfl (by unfold fits; omega)) ?_
   refine VA.tk (i := 4) rfl (OpV.fieldAddrO 2 rfl Tryz.underlying28 rfl rfl Tryz.sizeOf3 rfl) ?_
   refine VA.tk (i := 5) rfl (OpV.load_own (i := 0) rfl hB Tryz.isAgg3 rfl rfl rfl Wi.not0) ?_
   refine VA.tk (i := 6) rfl (OpV.move (.inl rfl) rfl) ?_
   refine VA.tk (i := 7) rfl (OpV.sub rfl rfl rfl (by unfold fits; omega)) ?_
   refine VA.tk (i := 8) rfl (OpV.move (.inr rfl) rfl) ?_
   refine VA.tk (i := 9) rfl (OpV.move (.inr rfl) rfl) ?_
   refine VA.done (by kernel_rfl) ?_
   refine VC.ret ?_
   exact Exists.intro _ (And.intro (RetN.two Tryz.results162 (ResN.v rfl) (ResN.v rfl)) (by rw [h1]; rfl))
  ·have h1 := h1b
   try simp only [qq] at h1
   refine VC.sr ?_
   refine VO.vv (OpV.eql rfl rfl rfl) ?_
   refine VO.mb ?_
   refine VO.nil ?_
   refine VC.cond rfl (fun h2b => ?_) (fun h2b => ?_)
   ·have h2 := h2b
    try simp only [qq] at h2
    refine VC.seq ?_
    refine VC.draw (fun _ => NoB) hB (by kernel_rfl) ?_
    refine VA.tk (i := 0) rfl (OpV.move (.inl rfl) rfl) ?_
    refine VA.tk (i := 1) rfl (OpV.fieldAddrO 1 rfl Tryz.underlying28 rfl rfl Tryz.sizeOf3 rfl) ?_
    refine VA.tk (i := 2) rfl (OpV.load_own (i := 0) rfl hB Tryz.isAgg3 rfl rfl rfl Wi.not0) ?_
    refine VA.tk (i := 3) rfl (OpV.move (.inl rfl) rfl) ?_
    refine VA.tk (i := 4) rfl (OpV.sub rfl rfl rfl (by unfold fits; omega)) ?_
    refine VA.tk (i := 5) rfl (OpV.move (.inr rfl) rfl) ?_
    refine VA.tk (i := 6) rfl (OpV.move (.inr rfl) rfl) ?_
    refine VA.done (by kernel_rfl) ?_
    refine VC.ret ?_
    exact Exists.intro _ (And.intro (RetN.two Tryz.results162 (ResN.v rfl) (ResN.v rfl)) (by rw [h2]; rfl))
   ·have h2 := h2b
    try simp only [qq] at h2
    refine VC.skip ?_
    refine VC.sr ?_
    refine VO.mw ?_
    refine VO.mw ?_
    refine VO.mb ?_
    refine VO.mb ?_
    refine VO.nil ?_
    refine VC.ret ?_
    exact Exists.intro _ (And.intro (RetN.two Tryz.results162 (ResN.v rfl) (ResN.v rfl)) (by rw [show q = 0 by omega]; rfl))
set_option maxHeartbeats 2000000 in
theorem panel_spot {p : ProdS} {n : PanS} {i : Nat} {c : PlaceS} (hw : 1 ≤ p.wide ∧ p.wide ≤ 500000) (hh : 1 ≤ p.high ∧ p.high ≤ 500000) (hi : i < n.slots.length) (hs : (0 ≤ (n.slots.getD i default).x ∧ (n.slots.getD i default).x ≤ 500000) ∧ (0 ≤ (n.slots.getD i default).y ∧ (n.slots.getD i default).y ≤ 500000) ∧ 0 ≤ (n.slots.getD i default).quarter ∧ (n.slots.getD i default).quarter ≤ 3) (hc : (0 ≤ c.x ∧ c.x ≤ p.wide) ∧ (0 ≤ c.y ∧ c.y ≤ p.high) ∧ 0 ≤ c.quarter ∧ c.quarter ≤ 3) :
  SpecN Tryz.prog 75 [avProd p, avPan n, avI (i : Int), avPl c] (fun y => y = avSpot (spotF p n i c)) := by
 refine SpecN.of_VCN Tryz.func75 rfl Tryz.ntmps75 (Nle rfl) fun w A hB => ?_
 refine VC.seq ?_
 have hb := plX_bd (q := (n.slots.getD i default).quarter) hw hh hc.1 hc.2.1
 have h4 := Int.tmod_eq_emod_of_nonneg (a := (n.slots.getD i default).quarter + c.quarter) (b := 4) (by omega)
 refine VC.region ?_
 refine VO.op rfl (OpE.box rfl hB rfl rfl rfl ?_)
 intro g4
 refine VO.op rfl (OpE.box rfl hB rfl rfl rfl ?_)
 intro g5
 refine VO.op rfl (OpE.box rfl hB rfl rfl rfl ?_)
 intro g7
 refine VO.op rfl (OpE.alloc rfl hB rfl Tryz.zeroValue45 rfl ?_)
 intro g8
 refine VO.nil ?_
 refine VC.sr ?_
 refine VO.vv (OpV.fieldAddrO 2 rfl Tryz.underlying32 rfl rfl Tryz.sizeOf30 rfl) ?_
 refine VO.vv (OpV.load_own (i := 1) rfl hB Tryz.isAgg30 rfl rfl rfl (fun h => h)) ?_
 refine VO.mw ?_
 refine VO.vv (OpV.indexAddr_E rfl Tryz.underlying30 Tryz.sizeOf39 rfl rfl rfl (by omega)) ?_
 refine VO.vv (OpV.loadK_at rfl hB OutW.no Tryz.isAgg39 Tryz.sizeOf39 rfl rfl) ?_
 refine VO.op rfl (OpE.alloc rfl hB rfl Tryz.zeroValue39 rfl ?_)
 intro g9
 refine VO.op rfl (OpE.store (i := 4) rfl hB rfl Tryz.sizeOf39 rfl rfl rfl rfl rfl rfl (Nle rfl) trivial ?_)
 refine VO.nil ?_
 refine VC.sr ?_
 refine VO.vv (OpV.loadK_own (i := 0) rfl hB Tryz.isAgg28 Tryz.sizeOf28 rfl rfl rfl (fun h => h)) ?_
 refine VO.vv (OpV.fieldAddrO 2 rfl Tryz.underlying39 rfl rfl Tryz.sizeOf3 rfl) ?_
 refine VO.vv (OpV.load_own (i := 4) rfl hB Tryz.isAgg3 rfl rfl rfl (fun h => h)) ?_
 refine VO.vv (OpV.fieldAddrO 2 rfl Tryz.underlying152 rfl rfl Tryz.sizeOf3 rfl) ?_
 refine VO.vv (OpV.load_own (i := 2) rfl hB Tryz.isAgg3 rfl rfl rfl (fun h => h)) ?_
 refine VO.vv (OpV.fieldAddrO 3 rfl Tryz.underlying152 rfl rfl Tryz.sizeOf3 rfl) ?_
 refine VO.vv (OpV.load_own (i := 2) rfl hB Tryz.isAgg3 rfl rfl rfl (fun h => h)) ?_
 refine VO.op rfl (OpE.call rfl hB rfl Tryz.call162 rfl (SpecN.spec (panel_turned hw hh hs.2.2 hc.1 hc.2.1)) ?_)
 rintro _ rfl
 refine VO.mw ?_
 refine VO.vv (OpV.extract rfl rfl rfl) ?_
 refine VO.vv (OpV.extract rfl rfl rfl) ?_
 refine VO.mb ?_
 refine VO.mb ?_
 refine VO.nil ?_
 refine VC.sr ?_
 refine VO.mw ?_
 refine VO.vv (OpV.fieldAddrO 0 rfl Tryz.underlying152 rfl rfl Tryz.sizeOf9 rfl) ?_
 refine VO.vv (OpV.load_own (i := 2) rfl hB Tryz.isAgg9 rfl rfl rfl (fun h => h)) ?_
 refine VO.vv (OpV.fieldAddrO 0 rfl Tryz.underlying39 rfl rfl Tryz.sizeOf3 rfl) ?_
 refine VO.vv (OpV.load_own (i := 4) rfl hB Tryz.isAgg3 rfl rfl rfl (fun h => h)) ?_
 refine VO.mw ?_
 refine VO.vv (OpV.add rfl rfl rfl (by unfold fits; omega)) ?_
 refine VO.vv (OpV.fieldAddrO 1 rfl Tryz.underlying39 rfl rfl Tryz.sizeOf3 rfl) ?_
 refine VO.vv (OpV.load_own (i := 4) rfl hB Tryz.isAgg3 rfl rfl rfl (fun h => h)) ?_
 refine VO.mw ?_
 refine VO.vv (OpV.add rfl rfl rfl (by unfold fits; omega)) ?_
 refine VO.vv (OpV.fieldAddrO 2 rfl Tryz.underlying39 rfl rfl Tryz.sizeOf3 rfl) ?_
 refine VO.vv (OpV.load_own (i := 4) rfl hB Tryz.isAgg3 rfl rfl rfl (fun h => h)) ?_
 refine VO.vv (OpV.fieldAddrO 4 rfl Tryz.underlying152 rfl rfl Tryz.sizeOf3 rfl) ?_
 refine VO.vv (OpV.load_own (i := 2) rfl hB Tryz.isAgg3 rfl rfl rfl (fun h => h)) ?_
 refine VO.vv (OpV.add rfl rfl rfl (by unfold fits; omega)) ?_
 refine VO.vv (OpV.rem rfl rfl rfl (by omega) (by unfold fits; omega)) ?_
 refine VO.vv (OpV.build (pls := #[(0, 1), (1, 1), (2, 1), (3, 1), (4, 1)]) rfl Tryz.zeroValue45 Tryz.underlying45 (fun w => by kernel_rfl) rfl rfl) ?_
 refine VO.op rfl (OpE.store (i := 3) rfl hB rfl Tryz.sizeOf45 rfl rfl rfl rfl rfl rfl (Nle rfl) trivial ?_)
 refine VO.nil ?_
 refine VC.ret ?_
 exact Exists.intro _ (And.intro (RetN.one Tryz.results75 ((by first | exact ResN.cellF (i := 0) Tryz.isAgg45 Tryz.sizeOf45 rfl rfl rfl (flat_ofB rfl) | exact ResN.cellF (i := 1) Tryz.isAgg45 Tryz.sizeOf45 rfl rfl rfl (flat_ofB rfl) | exact ResN.cellF (i := 2) Tryz.isAgg45 Tryz.sizeOf45 rfl rfl rfl (flat_ofB rfl) | exact ResN.cellF (i := 3) Tryz.isAgg45 Tryz.sizeOf45 rfl rfl rfl (flat_ofB rfl) | exact ResN.cellF (i := 4) Tryz.isAgg45 Tryz.sizeOf45 rfl rfl rfl (flat_ofB rfl)))) (rfl))
end
section
theorem rowN_t {α : Type} [Inhabited α] {f : α → α → Bool} {l : List α} {i k : Nat} (h : i < k) (e : f (l.getD i default) (l.getD k default) = true) : rowN f l i (k + 1) = rowN f l i k ++ [⟨(i : Int), (k : Int)⟩] := by rw [rowN_succ f l h, if_pos e]
theorem rowN_f {α : Type} [Inhabited α] {f : α → α → Bool} {l : List α} {i k : Nat} (h : i < k) (e : f (l.getD i default) (l.getD k default) = false) : rowN f l i (k + 1) = rowN f l i k := by rw [rowN_succ f l h, if_neg (by rw [e]; simp), List.append_nil]
theorem ov_t {p : ProdS} {a b : SlotS} (h1 : decide (a.x < b.x + szW p b.quarter) = true) (h2 : decide (b.x < a.x + szW p a.quarter) = true) (h3 : decide (a.y < b.y + szH p b.quarter) = true) (h4 : decide (b.y < a.y + szH p a.quarter) = true) : ovO p a b = true := by
 unfold ovO; rw [h1, h2, h3, h4]; rfl
theorem ov_1 {p : ProdS} {a b : SlotS} (h1 : decide (a.x < b.x + szW p b.quarter) = false) : ovO p a b = false := by unfold ovO; rw [h1]; rfl
theorem ov_2 {p : ProdS} {a b : SlotS} (h2 : decide (b.x < a.x + szW p a.quarter) = false) : ovO p a b = false := by unfold ovO; rw [h2]; simp
theorem ov_3 {p : ProdS} {a b : SlotS} (h3 : decide (a.y < b.y + szH p b.quarter) = false) : ovO p a b = false := by unfold ovO; rw [h3]; simp
theorem ov_4 {p : ProdS} {a b : SlotS} (h4 : decide (b.y < a.y + szH p a.quarter) = false) : ovO p a b = false := by unfold ovO; rw [h4]; simp
def accN {α : Type} [Inhabited α] (f : α → α → Bool) (l : List α) (q k : Nat) : List IPair := pairN f l q ++ rowN f l q k
theorem accN_0 {α : Type} [Inhabited α] (f : α → α → Bool) (l : List α) (q : Nat) : accN f l q (q + 1) = pairN f l q := by rw [accN, rowN_0, List.append_nil]
theorem accN_t {α : Type} [Inhabited α] {f : α → α → Bool} {l : List α} {q k : Nat} (h : q < k) (e : f (l.getD q default) (l.getD k default) = true) : accN f l q (k + 1) = accN f l q k ++ [⟨(q : Int), (k : Int)⟩] := by rw [accN, rowN_t h e, accN, List.append_assoc]
theorem accN_f {α : Type} [Inhabited α] {f : α → α → Bool} {l : List α} {q k : Nat} (h : q < k) (e : f (l.getD q default) (l.getD k default) = false) : accN f l q (k + 1) = accN f l q k := by rw [accN, rowN_f h e, accN]
theorem accN_all {α : Type} [Inhabited α] {f : α → α → Bool} {l : List α} {q k : Nat} (h : q < k) (h1 : k ≤ max (q + 1) l.length) (h2 : l.length ≤ k) : accN f l q k = pairN f l (q + 1) := by
 rw [pairN_succ, accN, show max (q + 1) l.length = k by omega]
theorem accN_len {α : Type} [Inhabited α] {f : α → α → Bool} {l : List α} {q k : Nat} (hq : q < l.length) (hk : k ≤ max (q + 1) l.length) (hl : l.length ≤ 1000) : (accN f l q k).length ≤ 2000000 := by
 rw [accN, List.length_append]
 have h1 := pairN_len f l q (by omega)
 have h2 := rowN_len f l q k
 have h3 : q * l.length ≤ 1000 * 1000 := Nat.mul_le_mul (by omega) hl
 omega
end
section
section
variable {P : Program} {B : Bs} {s : St'}
theorem Le.cellRow {i k j g n sz : Nat} {o' : Own'} {u : Value} {cs : List AV} {ty : TypeId} {y : AV} (hB : B.Ok) (hi : s.hp[i]? = some (.box g o')) (hj : o'.cs[j]? = some (.v u)) (hk : s.hp[k]? = some (.row u n sz cs ty)) (hik : i < k) (hy : ∀ w Z u, Rep w Z (.im n sz fun j => cs.getD j .any) u → Rep w Z y u) :
  Le B s ⟨s.sl, (s.hp.eraseIdx k).set i (.box g ⟨o'.cs.set j y, o'.ty, o'.tot⟩), s.k⟩ := fun a w hr => by
 have hr1 := hr.erase k
 have hi1 : (s.hp.eraseIdx k)[i]? = some (.box g o') := by rw [List.getElem?_eraseIdx, if_pos hik]; exact hi
 have hz : ∀ b, Zn B (s.hp.eraseIdx k) w b → Zn B ((s.hp.eraseIdx k).set i (.box g ⟨o'.cs.set j y, o'.ty, o'.tot⟩)) w b := fun b hb => ⟨hb.1, fun p hp hpb => by
  rcases List.mem_or_eq_of_mem_set hp with h | h
  ·exact hb.2.1 p h hpb
  ·subst h; exact hb.2.1 _ (List.mem_of_getElem? hi1) hpb, hb.2.2⟩
 have hz0 : ∀ b, Zn B s.hp w b → Zn B (s.hp.eraseIdx k) w b := fun b hb => ⟨hb.1, fun p hp => hb.2.1 p ((List.eraseIdx_sublist s.hp k).subset hp), hb.2.2⟩
 refine hr1.set hB hi1 (w' := w) (Chg.refl _ w) (.inl rfl) ?_
 obtain ⟨c, h1, h2, h3, h4⟩ := hr1.blocks _ (List.mem_of_getElem? hi1)
 refine ⟨c, h1, h2, by simpa using h3, fun q hq => ?_⟩
 have hq' : q < o'.cs.length := by simpa using hq
 obtain ⟨hjl, hje⟩ := List.getElem?_eq_some_iff.1 hj
 obtain ⟨v, k1, k2⟩ := h4 q hq'
 refine ⟨v, k1, ?_⟩
 rw [List.getElem_set]
 split
 ·rename_i e
  subst e
  rw [hje] at k2
  rw [k2.eq_v]
  exact hy _ _ _ (hr.repRow hk (fun b hb => hz b (hz0 b hb)) fun g' hg hl => hz g' (hr.erased hB hk hg))
 ·exact k2.keep fun b hb _ => ⟨rfl, hz b hb⟩
end
end
section
theorem not_true_false {b : Bool} (h : (!b) = true) : b = false := by cases b <;> simp_all
theorem not_false_true {b : Bool} (h : (!b) = false) : b = true := by cases b <;> simp_all
def eqLs {α : Type} (e : α → α → Bool) : List α → List α → Bool
 | [], [] => true
 | x :: l, y :: r => e x y && eqLs e l r
 | _, _ => false
theorem eqLs_self {α : Type} {e : α → α → Bool} (h : ∀ x, e x x = true) : ∀ l : List α, eqLs e l l = true
 | [] => rfl
 | x :: l => by rw [eqLs, h, eqLs_self h l]; rfl
theorem eqLs_len {α : Type} {e : α → α → Bool} : ∀ {l r : List α}, l.length ≠ r.length → eqLs e l r = false
 | [], [], h => absurd rfl h
 | [], _ :: _, _ => rfl
 | _ :: _, [], _ => rfl
 | x :: l, y :: r, h => by rw [eqLs, eqLs_len (by simpa using h), Bool.and_false]
theorem eqLs_at {α : Type} {e : α → α → Bool} {d : α} : ∀ {l r : List α} {q : Nat}, q < l.length → e (l.getD q d) (r.getD q d) = false → eqLs e l r = false
 | [], _, q, h, _ => by simp at h
 | x :: l, [], q, h, _ => rfl
 | x :: l, y :: r, 0, _, h2 => by simp at h2; rw [eqLs, h2]; rfl
 | x :: l, y :: r, q + 1, h1, h2 => by rw [eqLs, eqLs_at (d := d) (q := q) (by simpa using h1) (by simpa using h2), Bool.and_false]
theorem eqLs_all {α : Type} {e : α → α → Bool} {d : α} : ∀ {l r : List α}, l.length = r.length → (∀ j, j < l.length → e (l.getD j d) (r.getD j d) = true) → eqLs e l r = true
 | [], [], _, _ => rfl
 | [], _ :: _, h, _ => by simp at h
 | _ :: _, [], h, _ => by simp at h
 | x :: l, y :: r, h, h2 => by
  have h0 := h2 0 (by simp)
  simp at h0
  rw [eqLs, h0, eqLs_all (d := d) (by simpa using h) (fun j hj => by simpa using h2 (j + 1) (by simpa using hj))]
  rfl
end
section
theorem turnE_1 {p : ProdS} {n : PanS} (h : panelF p n ≠ 0) : turnE p n = panelF p n := if_pos h
theorem turnE_2 {p : ProdS} {n : PanS} (h : panelF p n = 0) : turnE p n = panF (turnP p n) := if_neg (by omega)
theorem turn_len (p : ProdS) (n : PanS) (q : Nat) : ((n.slots.take q).map (turnS p n)).length ≤ n.slots.length := by rw [List.length_map, List.length_take]; omega
theorem turn_take {p : ProdS} {n : PanS} {q : Nat} (h : q < n.slots.length) : (n.slots.take (q + 1)).map (turnS p n) = (n.slots.take q).map (turnS p n) ++ [turnS p n (n.slots.getD q default)] := by
 rw [take_snocD h default, List.map_append]; rfl
end
section
section
variable {α : Type} [Inhabited α] [Sxc α]
theorem rowL_inE {xs : List α} {q k : Nat} (hk : k = Sxc.k α) (h : q < xs.length) : 0 + q * k + k ≤ (rowL xs).length := by
 subst hk
 rw [rowL_len, Nat.zero_add]
 have : (q + 1) * Sxc.k α ≤ xs.length * Sxc.k α := Nat.mul_le_mul_right _ h
 rw [Nat.add_mul] at this; omega
theorem setAll_gt : ∀ (r cs : List AV) (off i : Nat), off + r.length ≤ cs.length → (setAll cs off r)[i]? = if off ≤ i ∧ i < off + r.length then r[i - off]? else cs[i]?
 | [], cs, off, i, h => by simp [setAll]; intro h1 h2; omega
 | x :: r, cs, off, i, h => by
  simp only [List.length_cons] at h
  rw [setAll, setAll_gt r _ (off + 1) i (by simp; omega)]
  by_cases h1 : i = off
  ·subst h1
   rw [if_neg (by omega), if_pos (by simp only [List.length_cons]; omega), Nat.sub_self, List.getElem?_set_self (by omega)]
   rfl
  ·rw [List.getElem?_set_ne (by omega)]
   by_cases h2 : off ≤ i ∧ i < off + (r.length + 1)
   ·rw [if_pos (by omega), if_pos (by simpa using h2), show i - off = (i - (off + 1)) + 1 by omega, List.getElem?_cons_succ]
   ·rw [if_neg (by omega), if_neg (by simpa using h2)]
theorem rowL_get' (xs : List α) {i : Nat} (hi : i < xs.length * Sxc.k α) : (rowL xs)[i]? = some (Sxc.cell (xs.getD (i / Sxc.k α) default) (i % Sxc.k α)) := by
 have hp := Sxc.pos (α := α)
 have h1 : i / Sxc.k α < xs.length := Nat.div_lt_of_lt_mul (by rw [Nat.mul_comm]; exact hi)
 have h2 := rowL_get xs (i / Sxc.k α) (i % Sxc.k α) h1 (Nat.mod_lt _ hp)
 rw [Nat.mul_comm, Nat.div_add_mod] at h2
 exact h2
theorem rowL_setAll {xs : List α} {q k : Nat} {x : α} (hk : k = Sxc.k α) (h : q < xs.length) : setAll (rowL xs) (0 + q * k) (tab (Sxc.k α) (Sxc.cell x)) = rowL (xs.set q x) := by
 subst hk
 have hp := Sxc.pos (α := α)
 have hle : 0 + q * Sxc.k α + Sxc.k α ≤ xs.length * Sxc.k α := by
  have : (q + 1) * Sxc.k α ≤ xs.length * Sxc.k α := Nat.mul_le_mul_right _ h
  rw [Nat.add_mul] at this; omega
 apply List.ext_getElem?
 intro i
 rw [setAll_gt _ _ _ _ (by rw [tab_len, rowL_len]; exact hle), tab_len]
 by_cases hi : i < xs.length * Sxc.k α
 ·rw [rowL_get' (xs.set q x) (by rw [List.length_set]; exact hi)]
  by_cases hr : 0 + q * Sxc.k α ≤ i ∧ i < 0 + q * Sxc.k α + Sxc.k α
  ·rw [if_pos hr]
   have e1 : i / Sxc.k α = q := Nat.div_eq_of_lt_le (by omega) (by rw [Nat.add_mul]; omega)
   have e2 : i % Sxc.k α = i - (0 + q * Sxc.k α) := by
    have := Nat.div_add_mod i (Sxc.k α); rw [e1, Nat.mul_comm] at this; omega
   rw [e1, e2, List.getElem?_eq_getElem (by rw [tab_len]; omega), tab_get]
   simp [List.getD_eq_getElem?_getD, h]
  ·rw [if_neg hr, rowL_get' xs hi]
   have e1 : i / Sxc.k α ≠ q := fun e => by
    have h1 := Nat.div_add_mod i (Sxc.k α)
    have h2 := Nat.mod_lt i hp
    rw [e, Nat.mul_comm] at h1
    exact hr ⟨by omega, by omega⟩
   simp [List.getD_eq_getElem?_getD, List.getElem?_set_ne (Ne.symm e1)]
 ·rw [if_neg (by omega), List.getElem?_eq_none (by rw [rowL_len]; omega), List.getElem?_eq_none (by rw [rowL_len, List.length_set]; omega)]
end
section
variable {P : Program} {B : Bs} {W : Nat → Prop} {s : St'} {o : Oper} {K : St' → Prop}
theorem OpE.storeE {x y : Operand} {t g j i k : Nat} {o' : Own'} {v : AV} {cs' : List AV} (ho : o.op = .store t x y) (hB : B.Ok) (hd : okd B.nt o.dst = true) (hsz : ∀ w, (sizeOf t).run P w = .ok k w) (hx : evO s x = some (.v (.pointer (some ⟨g, j, none⟩)))) (hy : evO s y = some v)
  (hk : v.known = true) (hl : (cellsOf v).length = k) (hone : (cellsOf v).all AV.one = true) (hi : s.hp[i]? = some (.box g o')) (hj : j + k ≤ o'.cs.length) (hcs : setAll o'.cs j (cellsOf v) = cs') (hW : W g)
  (hK : K ((St'.mk s.sl (s.hp.set i (.box g ⟨cs', o'.ty, o'.tot⟩)) s.k).put o.dst (.v undef))) : OpE P B W s o K := by
 subst hcs
 exact OpE.store ho hB hd hsz hx hy hk hl hone hi hj hW hK
end
end
section
theorem spoil_P {n : Nat} {cs : List AV} {u : Value} (hcs : cs.length = n * 2) :
  SpecH Tryz.prog 18 [.v u] [.row u n 2 cs 58] (fun y hp' => ∃ cs' : List AV, hp' = [.row u n 2 cs' 58]) := by
 refine SpecH.of_VC Tryz.func18 rfl Tryz.ntmps18 (Nle rfl) fun w A hB => ?_
 refine VC.sr ?_
 refine VO.op rfl (OpE.alloc rfl hB rfl Tryz.zeroValue58 rfl ?_)
 intro g2
 refine VO.nil ?_
 refine VC.sr ?_
 refine VO.mw ?_
 refine VO.vv (OpV.len_row (i := 0) rfl Tryz.underlying53 rfl rfl) ?_
 refine VO.mw ?_
 refine VO.nil ?_
 refine VC.block ?_
 refine VC.loopK [(0, _), (2, _), (5, _)] ⟨rfl, rfl, rfl, trivial⟩ ({t : List AV × Nat // t.2 ≤ n ∧ t.1.length = n * 2}) (fun (iZ : {t : List AV × Nat // t.2 ≤ n ∧ t.1.length = n * 2}) => match iZ with | ⟨⟨z, q⟩, hq, hz⟩ => [(6, avI (q : Int))]) (fun (iZ : {t : List AV × Nat // t.2 ≤ n ∧ t.1.length = n * 2}) => match iZ with | ⟨⟨z, q⟩, hq, hz⟩ => [.row u n 2 z 58, .box g2 ⟨[avS ⟨#[]⟩, avS ⟨#[]⟩], 58, 2⟩]) (fun (iZ : {t : List AV × Nat // t.2 ≤ n ∧ t.1.length = n * 2}) => match iZ with | ⟨⟨z, q⟩, hq, hz⟩ => 0) (fun (iZ : {t : List AV × Nat // t.2 ≤ n ∧ t.1.length = n * 2}) => match iZ with | ⟨⟨z, q⟩, hq, hz⟩ => n - q) ⟨(cs, 0), Nat.zero_le _, hcs⟩ (Le.mk hB [0, 1] ⟨rfl, rfl, rfl, rfl, trivial⟩ rfl rfl (Nat.le_refl _)) ?_
 rintro ⟨⟨z, q⟩, hq, hz⟩
 show VC _ _ _ _ ⟨[(6, avI (q : Int))] ++ [(0, _), (2, _), (5, _)], [.row u n 2 z 58, .box g2 ⟨[avS ⟨#[]⟩, avS ⟨#[]⟩], 58, 2⟩], 0⟩
 simp only at hq hz
 refine VC.sr ?_
 refine VO.vv (OpV.lss rfl rfl rfl) ?_
 refine VO.nil ?_
 refine VC.seq ?_
 refine VC.cond rfl (fun aH1b => ?_) (fun aH1b => ?_)
 ·have aH1 := aH1b
  try simp only [qq] at aH1
  refine VC.asBox (i := 0) rfl (by omega) (fun g cap hu hcap hmx => ?_)
  subst hu
  have hmx2 := hmx
  unfold maxLen at hmx2
  refine VC.skip ?_
  refine VC.seq ?_
  refine VC.block ?_
  refine VC.sr ?_
  refine VO.mw ?_
  refine VO.mb ?_
  refine VO.nil ?_
  refine VC.region ?_
  refine VO.mw ?_
  refine VO.mw ?_
  refine VO.vv (OpV.loadK_own (i := 1) rfl hB Tryz.isAgg58 Tryz.sizeOf58 rfl rfl rfl (fun h => h)) ?_
  refine VO.vv (OpV.indexAddr_q rfl Tryz.underlying53 Tryz.sizeOf58 rfl rfl rfl (by omega)) ?_
  refine VO.op rfl (OpE.storeE (i := 0) rfl hB rfl Tryz.sizeOf58 rfl rfl rfl rfl rfl rfl (by show 0 + q * 2 + 2 ≤ z.length; omega) rfl trivial ?_)
  refine VO.nil ?_
  refine VC.le _ (Le.boxRow (i := 0) (n := n) (sz := 2) (cap := cap) rfl (by rw [setAll_len]; omega) hcap hmx) ?_
  refine VC.region ?_
  refine VO.vv (OpV.add rfl rfl rfl (by unfold fits; omega)) ?_
  refine VO.mw ?_
  refine VO.nil ?_
  exact Exists.intro (⟨(_, q + 1), by show q + 1 ≤ _; omega, by show (setAll z _ _).length = _; rw [setAll_len]; exact hz⟩) (And.intro (Le.mk hB [0, 1] ⟨rfl, rfl, rfl, rfl, trivial⟩ rfl rfl (Nat.le_refl _)) (by first | omega | (show _ < _; omega) | (simp only []; omega)))
 ·have aH1 := aH1b
  try simp only [qq] at aH1
  refine VC.le _ (Le.pickH [0] rfl rfl) ?_
  refine VC.exit ?_
  exact Exists.intro _ (And.intro (RetV.none Tryz.results18) (⟨z, rfl⟩))
end
end Go.Proofs.YtcploodfholkkaaGreatDoor
