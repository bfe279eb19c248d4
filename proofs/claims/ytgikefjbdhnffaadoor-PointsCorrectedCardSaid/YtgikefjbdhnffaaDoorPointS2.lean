/- Walks: the corrected point and the stretch. -/
import Derived.Test.YtgikefjbdhnffaaDoorPointS
namespace Go.Proofs.YtgikefjbdhnffaaDoor
open Go.RowKit
set_option linter.unusedVariables false
set_option linter.unusedSimpArgs false
theorem far_bd {p : PtS} (h : farP p = false) : (-500000 ≤ p.x ∧ p.x ≤ 500000) ∧ -500000 ≤ p.y ∧ p.y ≤ 500000 := by
  simp only [farP, outR, Bool.or_eq_false_iff, decide_eq_false_iff_not] at h
  omega
theorem pE_0 {a b c d : PtS} {more : List PtS} (h : pointsE a b c d more = 0) : (farP a = false ∧ farP b = false ∧ farP c = false ∧ farP d = false ∧ ∀ p ∈ more, farP p = false) ∧ ptEq a b = false ∧ ptEq c d = false := by
  unfold pointsE at h
  split at h
  · cases h
  · rename_i h1
    split at h
    · cases h
    · rename_i h2
      simp only [Bool.or_eq_true, not_or, Bool.not_eq_true] at h2
      simp only [Bool.not_eq_true, List.any_eq_false, List.mem_append] at h1
      have g : ∀ p, (p ∈ [a, b, c, d] ∨ p ∈ more) → farP p = false := fun p hp => by simpa using h1 p hp
      refine ⟨⟨g a (.inl (by simp)), g b (.inl (by simp)), g c (.inl (by simp)), g d (.inl (by simp)), fun p hp => g p (.inr hp)⟩, h2⟩
/-- What holds of the differences of fiducials that are right. -/
structure FidOk (a b c d : PtS) : Prop where
  nx : -1000000 ≤ (cSub b a).x ∧ (cSub b a).x ≤ 1000000
  ny : -1000000 ≤ (cSub b a).y ∧ (cSub b a).y ≤ 1000000
  mx : -1000000 ≤ (cSub d c).x ∧ (cSub d c).x ≤ 1000000
  my : -1000000 ≤ (cSub d c).y ∧ (cSub d c).y ≤ 1000000
  cx : -500000 ≤ c.x ∧ c.x ≤ 500000
  cy : -500000 ≤ c.y ∧ c.y ≤ 500000
  sq : 0 < sqP (cSub b a) ∧ sqP (cSub b a) ≤ 2000000000000
  sq0 : 0 ≤ sqP (cSub d c) ∧ sqP (cSub d c) ≤ 2000000000000
theorem sq_nn (x : Int) : 0 ≤ x * x := by
  have := Int.natAbs_mul_self' x
  rw [← this]; exact Int.natCast_nonneg _
theorem sq_pos {x : Int} (h : x ≠ 0) : 0 < x * x := by
  have h1 := sq_nn x
  have h2 : x * x ≠ 0 := fun e => by rcases Int.mul_eq_zero.1 e with h' | h' <;> exact h h'
  omega
theorem sq_bd {v : PtS} (hx : -1000000 ≤ v.x ∧ v.x ≤ 1000000) (hy : -1000000 ≤ v.y ∧ v.y ≤ 1000000) : 0 ≤ sqP v ∧ sqP v ≤ 2000000000000 := by
  have h1 := mulB hx hx
  have h2 := mulB hy hy
  have h3 := sq_nn v.x
  have h4 := sq_nn v.y
  unfold sqP
  omega
theorem pE_fid {a b c d : PtS} {more : List PtS} (h : pointsE a b c d more = 0) : FidOk a b c d := by
  obtain ⟨⟨h1, h2, h3, h4, h5⟩, h6, h7⟩ := pE_0 h
  have b1 := far_bd h1; have b2 := far_bd h2; have b3 := far_bd h3; have b4 := far_bd h4
  have n1 : -1000000 ≤ (cSub b a).x ∧ (cSub b a).x ≤ 1000000 := by show _ ≤ b.x - a.x ∧ b.x - a.x ≤ _; omega
  have n2 : -1000000 ≤ (cSub b a).y ∧ (cSub b a).y ≤ 1000000 := by show _ ≤ b.y - a.y ∧ b.y - a.y ≤ _; omega
  have m1 : -1000000 ≤ (cSub d c).x ∧ (cSub d c).x ≤ 1000000 := by show _ ≤ d.x - c.x ∧ d.x - c.x ≤ _; omega
  have m2 : -1000000 ≤ (cSub d c).y ∧ (cSub d c).y ≤ 1000000 := by show _ ≤ d.y - c.y ∧ d.y - c.y ≤ _; omega
  refine ⟨n1, n2, m1, m2, by omega, by omega, ⟨?_, (sq_bd n1 n2).2⟩, sq_bd m1 m2⟩
  have h3 := sq_nn (cSub b a).x
  have h4 := sq_nn (cSub b a).y
  have hne : (cSub b a).x ≠ 0 ∨ (cSub b a).y ≠ 0 := by
    show b.x - a.x ≠ 0 ∨ b.y - a.y ≠ 0
    have : ¬ (a.x = b.x ∧ a.y = b.y) := fun ⟨e1, e2⟩ => by
      have : ptEq a b = true := by simp [ptEq, e1, e2]
      rw [this] at h6; cases h6
    omega
  unfold sqP
  rcases hne with h | h
  · have := sq_pos h; omega
  · have := sq_pos h; omega
/-- The difference of the point. -/
theorem pE_pt {a b c d p : PtS} (h : pointsE a b c d [p] = 0) : (-1000000 ≤ (cSub p a).x ∧ (cSub p a).x ≤ 1000000) ∧ -1000000 ≤ (cSub p a).y ∧ (cSub p a).y ≤ 1000000 := by
  obtain ⟨⟨h1, h2, h3, h4, h5⟩, h6, h7⟩ := pE_0 h
  have b1 := far_bd h1
  have b2 := far_bd (h5 p (by simp))
  exact ⟨by show _ ≤ p.x - a.x ∧ p.x - a.x ≤ _; omega, by show _ ≤ p.y - a.y ∧ p.y - a.y ≤ _; omega⟩
theorem cMul_bd {v w : PtS} {A : Int} (h1 : -A ≤ v.x ∧ v.x ≤ A) (h2 : -A ≤ v.y ∧ v.y ≤ A) (hx : -1000000 ≤ w.x ∧ w.x ≤ 1000000) (hy : -1000000 ≤ w.y ∧ w.y ≤ 1000000) :
    (-(A * 1000000) ≤ v.x * w.x ∧ v.x * w.x ≤ A * 1000000) ∧ (-(A * 1000000) ≤ v.y * w.y ∧ v.y * w.y ≤ A * 1000000) ∧ (-(A * 1000000) ≤ v.x * w.y ∧ v.x * w.y ≤ A * 1000000) ∧ (-(A * 1000000) ≤ v.y * w.x ∧ v.y * w.x ≤ A * 1000000) :=
  ⟨mulB h1 hx, mulB h2 hy, mulB h1 hy, mulB h2 hx⟩
theorem cMul_xy {v w : PtS} {A : Int} (h1 : -A ≤ v.x ∧ v.x ≤ A) (h2 : -A ≤ v.y ∧ v.y ≤ A) (hx : -1000000 ≤ w.x ∧ w.x ≤ 1000000) (hy : -1000000 ≤ w.y ∧ w.y ≤ 1000000) :
    (-(2 * (A * 1000000)) ≤ (cMul v w).x ∧ (cMul v w).x ≤ 2 * (A * 1000000)) ∧ (-(2 * (A * 1000000)) ≤ (cMul v w).y ∧ (cMul v w).y ≤ 2 * (A * 1000000)) := by
  obtain ⟨k1, k2, k3, k4⟩ := cMul_bd h1 h2 hx hy
  constructor
  · show _ ≤ v.x * w.x - v.y * w.y ∧ v.x * w.x - v.y * w.y ≤ _; omega
  · show _ ≤ v.x * w.y + v.y * w.x ∧ v.x * w.y + v.y * w.x ≤ _; omega
/-- The products of a corrected point. -/
structure CorOk (a b c d p : PtS) : Prop where
  m1 : (-1000000000000 ≤ (cSub p a).x * (cSub d c).x ∧ (cSub p a).x * (cSub d c).x ≤ 1000000000000) ∧ (-1000000000000 ≤ (cSub p a).y * (cSub d c).y ∧ (cSub p a).y * (cSub d c).y ≤ 1000000000000) ∧ (-1000000000000 ≤ (cSub p a).x * (cSub d c).y ∧ (cSub p a).x * (cSub d c).y ≤ 1000000000000) ∧ (-1000000000000 ≤ (cSub p a).y * (cSub d c).x ∧ (cSub p a).y * (cSub d c).x ≤ 1000000000000)
  m2 : let v := cMul (cSub p a) (cSub d c); let w : PtS := ⟨(cSub b a).x, -(cSub b a).y⟩; (-2000000000000000000 ≤ v.x * w.x ∧ v.x * w.x ≤ 2000000000000000000) ∧ (-2000000000000000000 ≤ v.y * w.y ∧ v.y * w.y ≤ 2000000000000000000) ∧ (-2000000000000000000 ≤ v.x * w.y ∧ v.x * w.y ≤ 2000000000000000000) ∧ (-2000000000000000000 ≤ v.y * w.x ∧ v.y * w.x ≤ 2000000000000000000)
  m3 : let v := cMul (cMul (cSub p a) (cSub d c)) ⟨(cSub b a).x, -(cSub b a).y⟩; (-4000000000000000000 ≤ v.x ∧ v.x ≤ 4000000000000000000) ∧ (-4000000000000000000 ≤ v.y ∧ v.y ≤ 4000000000000000000)
theorem corOk {a b c d p : PtS} (hf : FidOk a b c d) (hp : (-1000000 ≤ (cSub p a).x ∧ (cSub p a).x ≤ 1000000) ∧ -1000000 ≤ (cSub p a).y ∧ (cSub p a).y ≤ 1000000) : CorOk a b c d p := by
  have h1 := cMul_bd hp.1 hp.2 hf.mx hf.my
  have h2 := cMul_xy hp.1 hp.2 hf.mx hf.my
  have hy : -1000000 ≤ -(cSub b a).y ∧ -(cSub b a).y ≤ 1000000 := by have := hf.ny; omega
  have h3 := cMul_bd (w := ⟨(cSub b a).x, -(cSub b a).y⟩) h2.1 h2.2 hf.nx hy
  have h4 := cMul_xy (w := ⟨(cSub b a).x, -(cSub b a).y⟩) h2.1 h2.2 hf.nx hy
  exact ⟨by omega, by simp only at h3 ⊢; omega, by simp only at h4 ⊢; omega⟩
theorem round_bd {n c : Int} (hc : 0 < c) (h : -4000000000000000000 ≤ n ∧ n ≤ 4000000000000000000) : -4000000000000000001 ≤ roundI n c ∧ roundI n c ≤ 4000000000000000001 := by
  have := ediv_bd hc h
  unfold roundI
  split <;> omega
def corrR (a b c d p : PtS) : PtS := if pointsE a b c d [p] = 0 then corrP a b c d p else ⟨0, 0⟩
set_option maxRecDepth 100000 in
set_option maxHeartbeats 4000000 in
theorem panel_Corrected {a b c d p : PtS}  :
    SpecN Tryd.prog 7 [avPt2 a b, avPt2 c d, avPt p] (fun y => y = .tup [avPt (corrR a b c d p), avI (pointsE a b c d [p])]) := by
  refine SpecN.of_VCN Tryd.func7 rfl Tryd.ntmps7 (Nat.le_of_ble_eq_true rfl) fun w A hB => ?_
  have hnew : True := trivial
  refine VC.seq ?_
  refine VC.region ?_
  refine VO.op rfl (OpE.box rfl hB rfl rfl rfl ?_)
  intro g3
  refine VO.op rfl (OpE.box rfl hB rfl rfl rfl ?_)
  intro g4
  refine VO.op rfl (OpE.box rfl hB rfl rfl rfl ?_)
  intro g5
  refine VO.op rfl (OpE.alloc rfl hB rfl Tryd.zeroValue27 rfl ?_)
  intro g6
  refine VO.val rfl rfl (OpV.move (.inr rfl) rfl) ?_
  refine VO.nil ?_
  show VC _ _ _ _ _
  refine VC.seq ?_
  refine VC.seq ?_
  refine VC.region ?_
  refine VO.val rfl rfl (OpV.loadK_own (i := 0) rfl hB Tryd.isAgg29 Tryd.sizeOf29 rfl rfl rfl (fun h => h)) ?_
  refine VO.val rfl rfl (OpV.loadK_own (i := 1) rfl hB Tryd.isAgg29 Tryd.sizeOf29 rfl rfl rfl (fun h => h)) ?_
  refine VO.val rfl rfl (OpV.loadK_own (i := 2) rfl hB Tryd.isAgg27 Tryd.sizeOf27 rfl rfl rfl (fun h => h)) ?_
  refine VO.op rfl (OpE.call rfl hB rfl Tryd.call39 rfl (SpecN.spec (panel_fiducialsFault)) ?_)
  rintro _ rfl
  refine VO.val rfl rfl (OpV.move (.inr rfl) rfl) ?_
  refine VO.nil ?_
  show VC _ _ _ _ _
  refine VC.seq ?_
  refine VC.region ?_
  refine VO.val rfl rfl (OpV.move (.inl rfl) rfl) ?_
  refine VO.val rfl rfl (OpV.neq rfl rfl rfl) ?_
  refine VO.nil ?_
  show VC _ _ _ _ _
  refine VC.cond rfl (fun h0b => ?_) (fun h0b => ?_)
  · have h0 := h0b
    try simp only [decide_eq_true_eq, decide_eq_false_iff_not, Bool.not_eq_true', Bool.not_eq_false', Int.not_lt, Int.not_le] at h0
    refine VC.seq ?_
    refine VC.region ?_
    refine VO.val rfl rfl (OpV.build (pls := #[(0, 1), (1, 1)]) rfl Tryd.zeroValue27 Tryd.underlying27 (fun w => by kernel_rfl) rfl rfl) ?_
    refine VO.val rfl rfl (OpV.move (.inl rfl) rfl) ?_
    refine VO.op rfl (OpE.store (i := 3) rfl hB rfl Tryd.sizeOf27 rfl rfl rfl rfl rfl rfl (Nat.le_of_ble_eq_true rfl) trivial ?_)
    refine VO.val rfl rfl (OpV.move (.inr rfl) rfl) ?_
    refine VO.nil ?_
    show VC _ _ _ _ _
    refine VC.ret ?_
    exact Exists.intro _ (And.intro (RetN.two Tryd.results7 ((by first | exact ResN.cellF (i := 0) Tryd.isAgg27 Tryd.sizeOf27 rfl rfl rfl (flat_ofB rfl) | exact ResN.cellF (i := 1) Tryd.isAgg27 Tryd.sizeOf27 rfl rfl rfl (flat_ofB rfl) | exact ResN.cellF (i := 2) Tryd.isAgg27 Tryd.sizeOf27 rfl rfl rfl (flat_ofB rfl) | exact ResN.cellF (i := 3) Tryd.isAgg27 Tryd.sizeOf27 rfl rfl rfl (flat_ofB rfl))) (ResN.v rfl)) (by first | (rw [corrR, if_neg h0]; rfl) | (rw [corrR, if_pos h00, h00]; rfl)))
  · have h0 := h0b
    try simp only [decide_eq_true_eq, decide_eq_false_iff_not, Bool.not_eq_true', Bool.not_eq_false', Int.not_lt, Int.not_le] at h0
    have h00 : pointsE a b c d [p] = 0 := by omega
    have hf := pE_fid h00
    have hp := pE_pt h00
    have hc := corOk hf hp
    refine VC.skip ?_
    show VC _ _ _ _ _
    refine VC.joinK [(3, _), (4, _), (5, _), (6, _)] ⟨rfl, rfl, rfl, rfl, trivial⟩ (Nat × Nat) (fun (i : Nat × Nat) => match i with | ⟨g9, g10⟩ => [(9, .v (.pointer (some ⟨g9, 0, none⟩))), (10, .v (.pointer (some ⟨g10, 0, none⟩)))]) (fun (i : Nat × Nat) => match i with | ⟨g9, g10⟩ => [.box g9 ⟨[avI (cSub b a).x, avI (cSub b a).y], 87, 2⟩, .box g10 ⟨[avI (cSub d c).x, avI (cSub d c).y], 87, 2⟩]) ?_ ?_
    ·
      refine VC.draw (fun j b => (j = 12 ∨ j = 13) ∧ b ≠ g3 ∧ b ≠ g4) hB (by kernel_rfl) ?_
      refine VA.take (i := 0) rfl (by kernel_rfl) (by kernel_rfl) (by kernel_rfl) rfl rfl (OpV.indexAddr_arr rfl Tryd.underlying29 Tryd.sizeOf27 rfl rfl (by omega) (by omega)) ?_
      refine VA.take (i := 1) rfl (by kernel_rfl) (by kernel_rfl) (by kernel_rfl) rfl rfl (OpV.loadK_own (i := 0) rfl hB Tryd.isAgg27 Tryd.sizeOf27 rfl rfl rfl (by first | exact (fun ⟨_, _, _, h⟩ => h rfl) | exact (fun ⟨_, _, _, h⟩ => h.1 rfl) | exact (fun ⟨_, _, _, h⟩ => h.2 rfl) | exact (fun ⟨_, _, _, h⟩ => h.2.1 rfl) | exact (fun ⟨_, _, _, h⟩ => h.2.2 rfl))) ?_
      refine VA.take (i := 2) rfl (by kernel_rfl) (by kernel_rfl) (by kernel_rfl) rfl rfl (OpV.indexAddr_arr rfl Tryd.underlying29 Tryd.sizeOf27 rfl rfl (by omega) (by omega)) ?_
      refine VA.take (i := 3) rfl (by kernel_rfl) (by kernel_rfl) (by kernel_rfl) rfl rfl (OpV.loadK_own (i := 0) rfl hB Tryd.isAgg27 Tryd.sizeOf27 rfl rfl rfl (by first | exact (fun ⟨_, _, _, h⟩ => h rfl) | exact (fun ⟨_, _, _, h⟩ => h.1 rfl) | exact (fun ⟨_, _, _, h⟩ => h.2 rfl) | exact (fun ⟨_, _, _, h⟩ => h.2.1 rfl) | exact (fun ⟨_, _, _, h⟩ => h.2.2 rfl))) ?_
      refine VA.take (i := 5) rfl (by kernel_rfl) (by kernel_rfl) (by kernel_rfl) rfl rfl (OpV.indexAddr_arr rfl Tryd.underlying29 Tryd.sizeOf27 rfl rfl (by omega) (by omega)) ?_
      refine VA.take (i := 6) rfl (by kernel_rfl) (by kernel_rfl) (by kernel_rfl) rfl rfl (OpV.loadK_own (i := 1) rfl hB Tryd.isAgg27 Tryd.sizeOf27 rfl rfl rfl (by first | exact (fun ⟨_, _, _, h⟩ => h rfl) | exact (fun ⟨_, _, _, h⟩ => h.1 rfl) | exact (fun ⟨_, _, _, h⟩ => h.2 rfl) | exact (fun ⟨_, _, _, h⟩ => h.2.1 rfl) | exact (fun ⟨_, _, _, h⟩ => h.2.2 rfl))) ?_
      refine VA.take (i := 7) rfl (by kernel_rfl) (by kernel_rfl) (by kernel_rfl) rfl rfl (OpV.indexAddr_arr rfl Tryd.underlying29 Tryd.sizeOf27 rfl rfl (by omega) (by omega)) ?_
      refine VA.take (i := 8) rfl (by kernel_rfl) (by kernel_rfl) (by kernel_rfl) rfl rfl (OpV.loadK_own (i := 1) rfl hB Tryd.isAgg27 Tryd.sizeOf27 rfl rfl rfl (by first | exact (fun ⟨_, _, _, h⟩ => h rfl) | exact (fun ⟨_, _, _, h⟩ => h.1 rfl) | exact (fun ⟨_, _, _, h⟩ => h.2 rfl) | exact (fun ⟨_, _, _, h⟩ => h.2.1 rfl) | exact (fun ⟨_, _, _, h⟩ => h.2.2 rfl))) ?_
      refine VA.all (rs := [4, 10, 11]) (by kernel_rfl) (by decide) ?_
      refine ⟨⟨_, rfl, .inl rfl, ?_⟩, ⟨_, rfl, .inl rfl, ?_⟩, ⟨_, rfl, .inl rfl, ?_⟩, trivial⟩
      ·
        refine OpE.call rfl hB rfl Tryd.call40 rfl (SpecN.spec (panel_less (p := b) (q := a) (by have := hf.nx; unfold cSub at this; simp only at this; omega) (by have := hf.ny; unfold cSub at this; simp only at this; omega))) ?_
        rintro _ rfl
        refine VA.all (rs := [9, 10, 11]) (by kernel_rfl) (by decide) ?_
        refine ⟨⟨_, rfl, .inl rfl, ?_⟩, ⟨_, rfl, .inl rfl, ?_⟩, ⟨_, rfl, .inl rfl, ?_⟩, trivial⟩
        ·
          refine OpE.call rfl hB rfl Tryd.call40 rfl (SpecN.spec (panel_less (p := d) (q := c) (by have := hf.mx; unfold cSub at this; simp only at this; omega) (by have := hf.my; unfold cSub at this; simp only at this; omega))) ?_
          rintro _ rfl
          refine VA.all (rs := [10, 11]) (by kernel_rfl) (by decide) ?_
          refine ⟨⟨_, rfl, .inl rfl, ?_⟩, ⟨_, rfl, .inl rfl, ?_⟩, trivial⟩
          ·
            refine OpE.alloc rfl hB rfl Tryd.zeroValue87 rfl ?_
            intro g9
            refine VA.all (rs := [11]) (by kernel_rfl) (by decide) ?_
            refine ⟨⟨_, rfl, .inl rfl, ?_⟩, trivial⟩
            refine OpE.alloc rfl hB rfl Tryd.zeroValue87 rfl ?_
            intro g10
            refine VA.all (rs := [12]) (by kernel_rfl) (by decide) ?_
            refine ⟨⟨_, rfl, .inl rfl, ?_⟩, trivial⟩
            refine OpE.hap (fun hap => ?_)
            refine OpE.store (i := 4) rfl hB rfl Tryd.sizeOf87 rfl rfl rfl rfl rfl rfl (Nat.le_of_ble_eq_true rfl) (by refine ⟨by first | exact rfl | exact .inl rfl | exact .inr rfl, ?_⟩; repeat (first | (first | exact apart_ne hap (i := 4) (j := 0) rfl rfl (by decide) | exact apart_ne hap (i := 4) (j := 1) rfl rfl (by decide) | exact apart_ne hap (i := 4) (j := 2) rfl rfl (by decide) | exact apart_ne hap (i := 4) (j := 3) rfl rfl (by decide) | exact apart_ne hap (i := 4) (j := 5) rfl rfl (by decide)) | refine And.intro ?_ ?_)) ?_
            refine VA.all (rs := [13]) (by kernel_rfl) (by decide) ?_
            refine ⟨⟨_, rfl, .inl rfl, ?_⟩, trivial⟩
            refine OpE.hap (fun hap => ?_)
            refine OpE.store (i := 5) rfl hB rfl Tryd.sizeOf87 rfl rfl rfl rfl rfl rfl (Nat.le_of_ble_eq_true rfl) (by refine ⟨by first | exact rfl | exact .inl rfl | exact .inr rfl, ?_⟩; repeat (first | (first | exact apart_ne hap (i := 5) (j := 0) rfl rfl (by decide) | exact apart_ne hap (i := 5) (j := 1) rfl rfl (by decide) | exact apart_ne hap (i := 5) (j := 2) rfl rfl (by decide) | exact apart_ne hap (i := 5) (j := 3) rfl rfl (by decide) | exact apart_ne hap (i := 5) (j := 4) rfl rfl (by decide)) | refine And.intro ?_ ?_)) ?_
            refine VA.done (by kernel_rfl) ?_
            exact Exists.intro (⟨g9, g10⟩) (Le.pick hB [0, 1, 2, 3, 4, 5] ⟨rfl, rfl, rfl, rfl, rfl, rfl, trivial⟩ rfl rfl (Nat.le_refl _))
          ·
            refine OpE.alloc rfl hB rfl Tryd.zeroValue87 rfl ?_
            intro g10
            refine VA.all (rs := [10]) (by kernel_rfl) (by decide) ?_
            refine ⟨⟨_, rfl, .inl rfl, ?_⟩, trivial⟩
            refine OpE.alloc rfl hB rfl Tryd.zeroValue87 rfl ?_
            intro g9
            refine VA.all (rs := [12]) (by kernel_rfl) (by decide) ?_
            refine ⟨⟨_, rfl, .inl rfl, ?_⟩, trivial⟩
            refine OpE.hap (fun hap => ?_)
            refine OpE.store (i := 5) rfl hB rfl Tryd.sizeOf87 rfl rfl rfl rfl rfl rfl (Nat.le_of_ble_eq_true rfl) (by refine ⟨by first | exact rfl | exact .inl rfl | exact .inr rfl, ?_⟩; repeat (first | (first | exact apart_ne hap (i := 5) (j := 0) rfl rfl (by decide) | exact apart_ne hap (i := 5) (j := 1) rfl rfl (by decide) | exact apart_ne hap (i := 5) (j := 2) rfl rfl (by decide) | exact apart_ne hap (i := 5) (j := 3) rfl rfl (by decide) | exact apart_ne hap (i := 5) (j := 4) rfl rfl (by decide)) | refine And.intro ?_ ?_)) ?_
            refine VA.all (rs := [13]) (by kernel_rfl) (by decide) ?_
            refine ⟨⟨_, rfl, .inl rfl, ?_⟩, trivial⟩
            refine OpE.hap (fun hap => ?_)
            refine OpE.store (i := 4) rfl hB rfl Tryd.sizeOf87 rfl rfl rfl rfl rfl rfl (Nat.le_of_ble_eq_true rfl) (by refine ⟨by first | exact rfl | exact .inl rfl | exact .inr rfl, ?_⟩; repeat (first | (first | exact apart_ne hap (i := 4) (j := 0) rfl rfl (by decide) | exact apart_ne hap (i := 4) (j := 1) rfl rfl (by decide) | exact apart_ne hap (i := 4) (j := 2) rfl rfl (by decide) | exact apart_ne hap (i := 4) (j := 3) rfl rfl (by decide) | exact apart_ne hap (i := 4) (j := 5) rfl rfl (by decide)) | refine And.intro ?_ ?_)) ?_
            refine VA.done (by kernel_rfl) ?_
            exact Exists.intro (⟨g9, g10⟩) (Le.pick hB [0, 1, 2, 3, 5, 4] ⟨rfl, rfl, rfl, rfl, rfl, rfl, trivial⟩ rfl rfl (Nat.le_refl _))
        ·
          refine OpE.alloc rfl hB rfl Tryd.zeroValue87 rfl ?_
          intro g9
          refine VA.all (rs := [9, 11]) (by kernel_rfl) (by decide) ?_
          refine ⟨⟨_, rfl, .inl rfl, ?_⟩, ⟨_, rfl, .inl rfl, ?_⟩, trivial⟩
          ·
            refine OpE.call rfl hB rfl Tryd.call40 rfl (SpecN.spec (panel_less (p := d) (q := c) (by have := hf.mx; unfold cSub at this; simp only at this; omega) (by have := hf.my; unfold cSub at this; simp only at this; omega))) ?_
            rintro _ rfl
            refine VA.all (rs := [11]) (by kernel_rfl) (by decide) ?_
            refine ⟨⟨_, rfl, .inl rfl, ?_⟩, trivial⟩
            refine OpE.alloc rfl hB rfl Tryd.zeroValue87 rfl ?_
            intro g10
            refine VA.all (rs := [12]) (by kernel_rfl) (by decide) ?_
            refine ⟨⟨_, rfl, .inl rfl, ?_⟩, trivial⟩
            refine OpE.hap (fun hap => ?_)
            refine OpE.store (i := 4) rfl hB rfl Tryd.sizeOf87 rfl rfl rfl rfl rfl rfl (Nat.le_of_ble_eq_true rfl) (by refine ⟨by first | exact rfl | exact .inl rfl | exact .inr rfl, ?_⟩; repeat (first | (first | exact apart_ne hap (i := 4) (j := 0) rfl rfl (by decide) | exact apart_ne hap (i := 4) (j := 1) rfl rfl (by decide) | exact apart_ne hap (i := 4) (j := 2) rfl rfl (by decide) | exact apart_ne hap (i := 4) (j := 3) rfl rfl (by decide) | exact apart_ne hap (i := 4) (j := 5) rfl rfl (by decide)) | refine And.intro ?_ ?_)) ?_
            refine VA.all (rs := [13]) (by kernel_rfl) (by decide) ?_
            refine ⟨⟨_, rfl, .inl rfl, ?_⟩, trivial⟩
            refine OpE.hap (fun hap => ?_)
            refine OpE.store (i := 5) rfl hB rfl Tryd.sizeOf87 rfl rfl rfl rfl rfl rfl (Nat.le_of_ble_eq_true rfl) (by refine ⟨by first | exact rfl | exact .inl rfl | exact .inr rfl, ?_⟩; repeat (first | (first | exact apart_ne hap (i := 5) (j := 0) rfl rfl (by decide) | exact apart_ne hap (i := 5) (j := 1) rfl rfl (by decide) | exact apart_ne hap (i := 5) (j := 2) rfl rfl (by decide) | exact apart_ne hap (i := 5) (j := 3) rfl rfl (by decide) | exact apart_ne hap (i := 5) (j := 4) rfl rfl (by decide)) | refine And.intro ?_ ?_)) ?_
            refine VA.done (by kernel_rfl) ?_
            exact Exists.intro (⟨g9, g10⟩) (Le.pick hB [0, 1, 2, 3, 4, 5] ⟨rfl, rfl, rfl, rfl, rfl, rfl, trivial⟩ rfl rfl (Nat.le_refl _))
          ·
            refine OpE.alloc rfl hB rfl Tryd.zeroValue87 rfl ?_
            intro g10
            refine VA.all (rs := [9]) (by kernel_rfl) (by decide) ?_
            refine ⟨⟨_, rfl, .inl rfl, ?_⟩, trivial⟩
            refine OpE.call rfl hB rfl Tryd.call40 rfl (SpecN.spec (panel_less (p := d) (q := c) (by have := hf.mx; unfold cSub at this; simp only at this; omega) (by have := hf.my; unfold cSub at this; simp only at this; omega))) ?_
            rintro _ rfl
            refine VA.all (rs := [12]) (by kernel_rfl) (by decide) ?_
            refine ⟨⟨_, rfl, .inl rfl, ?_⟩, trivial⟩
            refine OpE.hap (fun hap => ?_)
            refine OpE.store (i := 4) rfl hB rfl Tryd.sizeOf87 rfl rfl rfl rfl rfl rfl (Nat.le_of_ble_eq_true rfl) (by refine ⟨by first | exact rfl | exact .inl rfl | exact .inr rfl, ?_⟩; repeat (first | (first | exact apart_ne hap (i := 4) (j := 0) rfl rfl (by decide) | exact apart_ne hap (i := 4) (j := 1) rfl rfl (by decide) | exact apart_ne hap (i := 4) (j := 2) rfl rfl (by decide) | exact apart_ne hap (i := 4) (j := 3) rfl rfl (by decide) | exact apart_ne hap (i := 4) (j := 5) rfl rfl (by decide)) | refine And.intro ?_ ?_)) ?_
            refine VA.all (rs := [13]) (by kernel_rfl) (by decide) ?_
            refine ⟨⟨_, rfl, .inl rfl, ?_⟩, trivial⟩
            refine OpE.hap (fun hap => ?_)
            refine OpE.store (i := 5) rfl hB rfl Tryd.sizeOf87 rfl rfl rfl rfl rfl rfl (Nat.le_of_ble_eq_true rfl) (by refine ⟨by first | exact rfl | exact .inl rfl | exact .inr rfl, ?_⟩; repeat (first | (first | exact apart_ne hap (i := 5) (j := 0) rfl rfl (by decide) | exact apart_ne hap (i := 5) (j := 1) rfl rfl (by decide) | exact apart_ne hap (i := 5) (j := 2) rfl rfl (by decide) | exact apart_ne hap (i := 5) (j := 3) rfl rfl (by decide) | exact apart_ne hap (i := 5) (j := 4) rfl rfl (by decide)) | refine And.intro ?_ ?_)) ?_
            refine VA.done (by kernel_rfl) ?_
            exact Exists.intro (⟨g9, g10⟩) (Le.pick hB [0, 1, 2, 3, 4, 5] ⟨rfl, rfl, rfl, rfl, rfl, rfl, trivial⟩ rfl rfl (Nat.le_refl _))
        ·
          refine OpE.alloc rfl hB rfl Tryd.zeroValue87 rfl ?_
          intro g10
          refine VA.all (rs := [9, 10]) (by kernel_rfl) (by decide) ?_
          refine ⟨⟨_, rfl, .inl rfl, ?_⟩, ⟨_, rfl, .inl rfl, ?_⟩, trivial⟩
          ·
            refine OpE.call rfl hB rfl Tryd.call40 rfl (SpecN.spec (panel_less (p := d) (q := c) (by have := hf.mx; unfold cSub at this; simp only at this; omega) (by have := hf.my; unfold cSub at this; simp only at this; omega))) ?_
            rintro _ rfl
            refine VA.all (rs := [10]) (by kernel_rfl) (by decide) ?_
            refine ⟨⟨_, rfl, .inl rfl, ?_⟩, trivial⟩
            refine OpE.alloc rfl hB rfl Tryd.zeroValue87 rfl ?_
            intro g9
            refine VA.all (rs := [12]) (by kernel_rfl) (by decide) ?_
            refine ⟨⟨_, rfl, .inl rfl, ?_⟩, trivial⟩
            refine OpE.hap (fun hap => ?_)
            refine OpE.store (i := 5) rfl hB rfl Tryd.sizeOf87 rfl rfl rfl rfl rfl rfl (Nat.le_of_ble_eq_true rfl) (by refine ⟨by first | exact rfl | exact .inl rfl | exact .inr rfl, ?_⟩; repeat (first | (first | exact apart_ne hap (i := 5) (j := 0) rfl rfl (by decide) | exact apart_ne hap (i := 5) (j := 1) rfl rfl (by decide) | exact apart_ne hap (i := 5) (j := 2) rfl rfl (by decide) | exact apart_ne hap (i := 5) (j := 3) rfl rfl (by decide) | exact apart_ne hap (i := 5) (j := 4) rfl rfl (by decide)) | refine And.intro ?_ ?_)) ?_
            refine VA.all (rs := [13]) (by kernel_rfl) (by decide) ?_
            refine ⟨⟨_, rfl, .inl rfl, ?_⟩, trivial⟩
            refine OpE.hap (fun hap => ?_)
            refine OpE.store (i := 4) rfl hB rfl Tryd.sizeOf87 rfl rfl rfl rfl rfl rfl (Nat.le_of_ble_eq_true rfl) (by refine ⟨by first | exact rfl | exact .inl rfl | exact .inr rfl, ?_⟩; repeat (first | (first | exact apart_ne hap (i := 4) (j := 0) rfl rfl (by decide) | exact apart_ne hap (i := 4) (j := 1) rfl rfl (by decide) | exact apart_ne hap (i := 4) (j := 2) rfl rfl (by decide) | exact apart_ne hap (i := 4) (j := 3) rfl rfl (by decide) | exact apart_ne hap (i := 4) (j := 5) rfl rfl (by decide)) | refine And.intro ?_ ?_)) ?_
            refine VA.done (by kernel_rfl) ?_
            exact Exists.intro (⟨g9, g10⟩) (Le.pick hB [0, 1, 2, 3, 5, 4] ⟨rfl, rfl, rfl, rfl, rfl, rfl, trivial⟩ rfl rfl (Nat.le_refl _))
          ·
            refine OpE.alloc rfl hB rfl Tryd.zeroValue87 rfl ?_
            intro g9
            refine VA.all (rs := [9]) (by kernel_rfl) (by decide) ?_
            refine ⟨⟨_, rfl, .inl rfl, ?_⟩, trivial⟩
            refine OpE.call rfl hB rfl Tryd.call40 rfl (SpecN.spec (panel_less (p := d) (q := c) (by have := hf.mx; unfold cSub at this; simp only at this; omega) (by have := hf.my; unfold cSub at this; simp only at this; omega))) ?_
            rintro _ rfl
            refine VA.all (rs := [12]) (by kernel_rfl) (by decide) ?_
            refine ⟨⟨_, rfl, .inl rfl, ?_⟩, trivial⟩
            refine OpE.hap (fun hap => ?_)
            refine OpE.store (i := 5) rfl hB rfl Tryd.sizeOf87 rfl rfl rfl rfl rfl rfl (Nat.le_of_ble_eq_true rfl) (by refine ⟨by first | exact rfl | exact .inl rfl | exact .inr rfl, ?_⟩; repeat (first | (first | exact apart_ne hap (i := 5) (j := 0) rfl rfl (by decide) | exact apart_ne hap (i := 5) (j := 1) rfl rfl (by decide) | exact apart_ne hap (i := 5) (j := 2) rfl rfl (by decide) | exact apart_ne hap (i := 5) (j := 3) rfl rfl (by decide) | exact apart_ne hap (i := 5) (j := 4) rfl rfl (by decide)) | refine And.intro ?_ ?_)) ?_
            refine VA.all (rs := [13]) (by kernel_rfl) (by decide) ?_
            refine ⟨⟨_, rfl, .inl rfl, ?_⟩, trivial⟩
            refine OpE.hap (fun hap => ?_)
            refine OpE.store (i := 4) rfl hB rfl Tryd.sizeOf87 rfl rfl rfl rfl rfl rfl (Nat.le_of_ble_eq_true rfl) (by refine ⟨by first | exact rfl | exact .inl rfl | exact .inr rfl, ?_⟩; repeat (first | (first | exact apart_ne hap (i := 4) (j := 0) rfl rfl (by decide) | exact apart_ne hap (i := 4) (j := 1) rfl rfl (by decide) | exact apart_ne hap (i := 4) (j := 2) rfl rfl (by decide) | exact apart_ne hap (i := 4) (j := 3) rfl rfl (by decide) | exact apart_ne hap (i := 4) (j := 5) rfl rfl (by decide)) | refine And.intro ?_ ?_)) ?_
            refine VA.done (by kernel_rfl) ?_
            exact Exists.intro (⟨g9, g10⟩) (Le.pick hB [0, 1, 2, 3, 5, 4] ⟨rfl, rfl, rfl, rfl, rfl, rfl, trivial⟩ rfl rfl (Nat.le_refl _))
      ·
        refine OpE.alloc rfl hB rfl Tryd.zeroValue87 rfl ?_
        intro g9
        refine VA.all (rs := [4, 11]) (by kernel_rfl) (by decide) ?_
        refine ⟨⟨_, rfl, .inl rfl, ?_⟩, ⟨_, rfl, .inl rfl, ?_⟩, trivial⟩
        ·
          refine OpE.call rfl hB rfl Tryd.call40 rfl (SpecN.spec (panel_less (p := b) (q := a) (by have := hf.nx; unfold cSub at this; simp only at this; omega) (by have := hf.ny; unfold cSub at this; simp only at this; omega))) ?_
          rintro _ rfl
          refine VA.all (rs := [9, 11]) (by kernel_rfl) (by decide) ?_
          refine ⟨⟨_, rfl, .inl rfl, ?_⟩, ⟨_, rfl, .inl rfl, ?_⟩, trivial⟩
          ·
            refine OpE.call rfl hB rfl Tryd.call40 rfl (SpecN.spec (panel_less (p := d) (q := c) (by have := hf.mx; unfold cSub at this; simp only at this; omega) (by have := hf.my; unfold cSub at this; simp only at this; omega))) ?_
            rintro _ rfl
            refine VA.all (rs := [11]) (by kernel_rfl) (by decide) ?_
            refine ⟨⟨_, rfl, .inl rfl, ?_⟩, trivial⟩
            refine OpE.alloc rfl hB rfl Tryd.zeroValue87 rfl ?_
            intro g10
            refine VA.all (rs := [12]) (by kernel_rfl) (by decide) ?_
            refine ⟨⟨_, rfl, .inl rfl, ?_⟩, trivial⟩
            refine OpE.hap (fun hap => ?_)
            refine OpE.store (i := 4) rfl hB rfl Tryd.sizeOf87 rfl rfl rfl rfl rfl rfl (Nat.le_of_ble_eq_true rfl) (by refine ⟨by first | exact rfl | exact .inl rfl | exact .inr rfl, ?_⟩; repeat (first | (first | exact apart_ne hap (i := 4) (j := 0) rfl rfl (by decide) | exact apart_ne hap (i := 4) (j := 1) rfl rfl (by decide) | exact apart_ne hap (i := 4) (j := 2) rfl rfl (by decide) | exact apart_ne hap (i := 4) (j := 3) rfl rfl (by decide) | exact apart_ne hap (i := 4) (j := 5) rfl rfl (by decide)) | refine And.intro ?_ ?_)) ?_
            refine VA.all (rs := [13]) (by kernel_rfl) (by decide) ?_
            refine ⟨⟨_, rfl, .inl rfl, ?_⟩, trivial⟩
            refine OpE.hap (fun hap => ?_)
            refine OpE.store (i := 5) rfl hB rfl Tryd.sizeOf87 rfl rfl rfl rfl rfl rfl (Nat.le_of_ble_eq_true rfl) (by refine ⟨by first | exact rfl | exact .inl rfl | exact .inr rfl, ?_⟩; repeat (first | (first | exact apart_ne hap (i := 5) (j := 0) rfl rfl (by decide) | exact apart_ne hap (i := 5) (j := 1) rfl rfl (by decide) | exact apart_ne hap (i := 5) (j := 2) rfl rfl (by decide) | exact apart_ne hap (i := 5) (j := 3) rfl rfl (by decide) | exact apart_ne hap (i := 5) (j := 4) rfl rfl (by decide)) | refine And.intro ?_ ?_)) ?_
            refine VA.done (by kernel_rfl) ?_
            exact Exists.intro (⟨g9, g10⟩) (Le.pick hB [0, 1, 2, 3, 4, 5] ⟨rfl, rfl, rfl, rfl, rfl, rfl, trivial⟩ rfl rfl (Nat.le_refl _))
          ·
            refine OpE.alloc rfl hB rfl Tryd.zeroValue87 rfl ?_
            intro g10
            refine VA.all (rs := [9]) (by kernel_rfl) (by decide) ?_
            refine ⟨⟨_, rfl, .inl rfl, ?_⟩, trivial⟩
            refine OpE.call rfl hB rfl Tryd.call40 rfl (SpecN.spec (panel_less (p := d) (q := c) (by have := hf.mx; unfold cSub at this; simp only at this; omega) (by have := hf.my; unfold cSub at this; simp only at this; omega))) ?_
            rintro _ rfl
            refine VA.all (rs := [12]) (by kernel_rfl) (by decide) ?_
            refine ⟨⟨_, rfl, .inl rfl, ?_⟩, trivial⟩
            refine OpE.hap (fun hap => ?_)
            refine OpE.store (i := 4) rfl hB rfl Tryd.sizeOf87 rfl rfl rfl rfl rfl rfl (Nat.le_of_ble_eq_true rfl) (by refine ⟨by first | exact rfl | exact .inl rfl | exact .inr rfl, ?_⟩; repeat (first | (first | exact apart_ne hap (i := 4) (j := 0) rfl rfl (by decide) | exact apart_ne hap (i := 4) (j := 1) rfl rfl (by decide) | exact apart_ne hap (i := 4) (j := 2) rfl rfl (by decide) | exact apart_ne hap (i := 4) (j := 3) rfl rfl (by decide) | exact apart_ne hap (i := 4) (j := 5) rfl rfl (by decide)) | refine And.intro ?_ ?_)) ?_
            refine VA.all (rs := [13]) (by kernel_rfl) (by decide) ?_
            refine ⟨⟨_, rfl, .inl rfl, ?_⟩, trivial⟩
            refine OpE.hap (fun hap => ?_)
            refine OpE.store (i := 5) rfl hB rfl Tryd.sizeOf87 rfl rfl rfl rfl rfl rfl (Nat.le_of_ble_eq_true rfl) (by refine ⟨by first | exact rfl | exact .inl rfl | exact .inr rfl, ?_⟩; repeat (first | (first | exact apart_ne hap (i := 5) (j := 0) rfl rfl (by decide) | exact apart_ne hap (i := 5) (j := 1) rfl rfl (by decide) | exact apart_ne hap (i := 5) (j := 2) rfl rfl (by decide) | exact apart_ne hap (i := 5) (j := 3) rfl rfl (by decide) | exact apart_ne hap (i := 5) (j := 4) rfl rfl (by decide)) | refine And.intro ?_ ?_)) ?_
            refine VA.done (by kernel_rfl) ?_
            exact Exists.intro (⟨g9, g10⟩) (Le.pick hB [0, 1, 2, 3, 4, 5] ⟨rfl, rfl, rfl, rfl, rfl, rfl, trivial⟩ rfl rfl (Nat.le_refl _))
        ·
          refine OpE.alloc rfl hB rfl Tryd.zeroValue87 rfl ?_
          intro g10
          refine VA.all (rs := [4]) (by kernel_rfl) (by decide) ?_
          refine ⟨⟨_, rfl, .inl rfl, ?_⟩, trivial⟩
          refine OpE.call rfl hB rfl Tryd.call40 rfl (SpecN.spec (panel_less (p := b) (q := a) (by have := hf.nx; unfold cSub at this; simp only at this; omega) (by have := hf.ny; unfold cSub at this; simp only at this; omega))) ?_
          rintro _ rfl
          refine VA.all (rs := [9]) (by kernel_rfl) (by decide) ?_
          refine ⟨⟨_, rfl, .inl rfl, ?_⟩, trivial⟩
          refine OpE.call rfl hB rfl Tryd.call40 rfl (SpecN.spec (panel_less (p := d) (q := c) (by have := hf.mx; unfold cSub at this; simp only at this; omega) (by have := hf.my; unfold cSub at this; simp only at this; omega))) ?_
          rintro _ rfl
          refine VA.all (rs := [12]) (by kernel_rfl) (by decide) ?_
          refine ⟨⟨_, rfl, .inl rfl, ?_⟩, trivial⟩
          refine OpE.hap (fun hap => ?_)
          refine OpE.store (i := 4) rfl hB rfl Tryd.sizeOf87 rfl rfl rfl rfl rfl rfl (Nat.le_of_ble_eq_true rfl) (by refine ⟨by first | exact rfl | exact .inl rfl | exact .inr rfl, ?_⟩; repeat (first | (first | exact apart_ne hap (i := 4) (j := 0) rfl rfl (by decide) | exact apart_ne hap (i := 4) (j := 1) rfl rfl (by decide) | exact apart_ne hap (i := 4) (j := 2) rfl rfl (by decide) | exact apart_ne hap (i := 4) (j := 3) rfl rfl (by decide) | exact apart_ne hap (i := 4) (j := 5) rfl rfl (by decide)) | refine And.intro ?_ ?_)) ?_
          refine VA.all (rs := [13]) (by kernel_rfl) (by decide) ?_
          refine ⟨⟨_, rfl, .inl rfl, ?_⟩, trivial⟩
          refine OpE.hap (fun hap => ?_)
          refine OpE.store (i := 5) rfl hB rfl Tryd.sizeOf87 rfl rfl rfl rfl rfl rfl (Nat.le_of_ble_eq_true rfl) (by refine ⟨by first | exact rfl | exact .inl rfl | exact .inr rfl, ?_⟩; repeat (first | (first | exact apart_ne hap (i := 5) (j := 0) rfl rfl (by decide) | exact apart_ne hap (i := 5) (j := 1) rfl rfl (by decide) | exact apart_ne hap (i := 5) (j := 2) rfl rfl (by decide) | exact apart_ne hap (i := 5) (j := 3) rfl rfl (by decide) | exact apart_ne hap (i := 5) (j := 4) rfl rfl (by decide)) | refine And.intro ?_ ?_)) ?_
          refine VA.done (by kernel_rfl) ?_
          exact Exists.intro (⟨g9, g10⟩) (Le.pick hB [0, 1, 2, 3, 4, 5] ⟨rfl, rfl, rfl, rfl, rfl, rfl, trivial⟩ rfl rfl (Nat.le_refl _))
      ·
        refine OpE.alloc rfl hB rfl Tryd.zeroValue87 rfl ?_
        intro g10
        refine VA.all (rs := [4, 10]) (by kernel_rfl) (by decide) ?_
        refine ⟨⟨_, rfl, .inl rfl, ?_⟩, ⟨_, rfl, .inl rfl, ?_⟩, trivial⟩
        ·
          refine OpE.call rfl hB rfl Tryd.call40 rfl (SpecN.spec (panel_less (p := b) (q := a) (by have := hf.nx; unfold cSub at this; simp only at this; omega) (by have := hf.ny; unfold cSub at this; simp only at this; omega))) ?_
          rintro _ rfl
          refine VA.all (rs := [9, 10]) (by kernel_rfl) (by decide) ?_
          refine ⟨⟨_, rfl, .inl rfl, ?_⟩, ⟨_, rfl, .inl rfl, ?_⟩, trivial⟩
          ·
            refine OpE.call rfl hB rfl Tryd.call40 rfl (SpecN.spec (panel_less (p := d) (q := c) (by have := hf.mx; unfold cSub at this; simp only at this; omega) (by have := hf.my; unfold cSub at this; simp only at this; omega))) ?_
            rintro _ rfl
            refine VA.all (rs := [10]) (by kernel_rfl) (by decide) ?_
            refine ⟨⟨_, rfl, .inl rfl, ?_⟩, trivial⟩
            refine OpE.alloc rfl hB rfl Tryd.zeroValue87 rfl ?_
            intro g9
            refine VA.all (rs := [12]) (by kernel_rfl) (by decide) ?_
            refine ⟨⟨_, rfl, .inl rfl, ?_⟩, trivial⟩
            refine OpE.hap (fun hap => ?_)
            refine OpE.store (i := 5) rfl hB rfl Tryd.sizeOf87 rfl rfl rfl rfl rfl rfl (Nat.le_of_ble_eq_true rfl) (by refine ⟨by first | exact rfl | exact .inl rfl | exact .inr rfl, ?_⟩; repeat (first | (first | exact apart_ne hap (i := 5) (j := 0) rfl rfl (by decide) | exact apart_ne hap (i := 5) (j := 1) rfl rfl (by decide) | exact apart_ne hap (i := 5) (j := 2) rfl rfl (by decide) | exact apart_ne hap (i := 5) (j := 3) rfl rfl (by decide) | exact apart_ne hap (i := 5) (j := 4) rfl rfl (by decide)) | refine And.intro ?_ ?_)) ?_
            refine VA.all (rs := [13]) (by kernel_rfl) (by decide) ?_
            refine ⟨⟨_, rfl, .inl rfl, ?_⟩, trivial⟩
            refine OpE.hap (fun hap => ?_)
            refine OpE.store (i := 4) rfl hB rfl Tryd.sizeOf87 rfl rfl rfl rfl rfl rfl (Nat.le_of_ble_eq_true rfl) (by refine ⟨by first | exact rfl | exact .inl rfl | exact .inr rfl, ?_⟩; repeat (first | (first | exact apart_ne hap (i := 4) (j := 0) rfl rfl (by decide) | exact apart_ne hap (i := 4) (j := 1) rfl rfl (by decide) | exact apart_ne hap (i := 4) (j := 2) rfl rfl (by decide) | exact apart_ne hap (i := 4) (j := 3) rfl rfl (by decide) | exact apart_ne hap (i := 4) (j := 5) rfl rfl (by decide)) | refine And.intro ?_ ?_)) ?_
            refine VA.done (by kernel_rfl) ?_
            exact Exists.intro (⟨g9, g10⟩) (Le.pick hB [0, 1, 2, 3, 5, 4] ⟨rfl, rfl, rfl, rfl, rfl, rfl, trivial⟩ rfl rfl (Nat.le_refl _))
          ·
            refine OpE.alloc rfl hB rfl Tryd.zeroValue87 rfl ?_
            intro g9
            refine VA.all (rs := [9]) (by kernel_rfl) (by decide) ?_
            refine ⟨⟨_, rfl, .inl rfl, ?_⟩, trivial⟩
            refine OpE.call rfl hB rfl Tryd.call40 rfl (SpecN.spec (panel_less (p := d) (q := c) (by have := hf.mx; unfold cSub at this; simp only at this; omega) (by have := hf.my; unfold cSub at this; simp only at this; omega))) ?_
            rintro _ rfl
            refine VA.all (rs := [12]) (by kernel_rfl) (by decide) ?_
            refine ⟨⟨_, rfl, .inl rfl, ?_⟩, trivial⟩
            refine OpE.hap (fun hap => ?_)
            refine OpE.store (i := 5) rfl hB rfl Tryd.sizeOf87 rfl rfl rfl rfl rfl rfl (Nat.le_of_ble_eq_true rfl) (by refine ⟨by first | exact rfl | exact .inl rfl | exact .inr rfl, ?_⟩; repeat (first | (first | exact apart_ne hap (i := 5) (j := 0) rfl rfl (by decide) | exact apart_ne hap (i := 5) (j := 1) rfl rfl (by decide) | exact apart_ne hap (i := 5) (j := 2) rfl rfl (by decide) | exact apart_ne hap (i := 5) (j := 3) rfl rfl (by decide) | exact apart_ne hap (i := 5) (j := 4) rfl rfl (by decide)) | refine And.intro ?_ ?_)) ?_
            refine VA.all (rs := [13]) (by kernel_rfl) (by decide) ?_
            refine ⟨⟨_, rfl, .inl rfl, ?_⟩, trivial⟩
            refine OpE.hap (fun hap => ?_)
            refine OpE.store (i := 4) rfl hB rfl Tryd.sizeOf87 rfl rfl rfl rfl rfl rfl (Nat.le_of_ble_eq_true rfl) (by refine ⟨by first | exact rfl | exact .inl rfl | exact .inr rfl, ?_⟩; repeat (first | (first | exact apart_ne hap (i := 4) (j := 0) rfl rfl (by decide) | exact apart_ne hap (i := 4) (j := 1) rfl rfl (by decide) | exact apart_ne hap (i := 4) (j := 2) rfl rfl (by decide) | exact apart_ne hap (i := 4) (j := 3) rfl rfl (by decide) | exact apart_ne hap (i := 4) (j := 5) rfl rfl (by decide)) | refine And.intro ?_ ?_)) ?_
            refine VA.done (by kernel_rfl) ?_
            exact Exists.intro (⟨g9, g10⟩) (Le.pick hB [0, 1, 2, 3, 5, 4] ⟨rfl, rfl, rfl, rfl, rfl, rfl, trivial⟩ rfl rfl (Nat.le_refl _))
        ·
          refine OpE.alloc rfl hB rfl Tryd.zeroValue87 rfl ?_
          intro g9
          refine VA.all (rs := [4]) (by kernel_rfl) (by decide) ?_
          refine ⟨⟨_, rfl, .inl rfl, ?_⟩, trivial⟩
          refine OpE.call rfl hB rfl Tryd.call40 rfl (SpecN.spec (panel_less (p := b) (q := a) (by have := hf.nx; unfold cSub at this; simp only at this; omega) (by have := hf.ny; unfold cSub at this; simp only at this; omega))) ?_
          rintro _ rfl
          refine VA.all (rs := [9]) (by kernel_rfl) (by decide) ?_
          refine ⟨⟨_, rfl, .inl rfl, ?_⟩, trivial⟩
          refine OpE.call rfl hB rfl Tryd.call40 rfl (SpecN.spec (panel_less (p := d) (q := c) (by have := hf.mx; unfold cSub at this; simp only at this; omega) (by have := hf.my; unfold cSub at this; simp only at this; omega))) ?_
          rintro _ rfl
          refine VA.all (rs := [12]) (by kernel_rfl) (by decide) ?_
          refine ⟨⟨_, rfl, .inl rfl, ?_⟩, trivial⟩
          refine OpE.hap (fun hap => ?_)
          refine OpE.store (i := 5) rfl hB rfl Tryd.sizeOf87 rfl rfl rfl rfl rfl rfl (Nat.le_of_ble_eq_true rfl) (by refine ⟨by first | exact rfl | exact .inl rfl | exact .inr rfl, ?_⟩; repeat (first | (first | exact apart_ne hap (i := 5) (j := 0) rfl rfl (by decide) | exact apart_ne hap (i := 5) (j := 1) rfl rfl (by decide) | exact apart_ne hap (i := 5) (j := 2) rfl rfl (by decide) | exact apart_ne hap (i := 5) (j := 3) rfl rfl (by decide) | exact apart_ne hap (i := 5) (j := 4) rfl rfl (by decide)) | refine And.intro ?_ ?_)) ?_
          refine VA.all (rs := [13]) (by kernel_rfl) (by decide) ?_
          refine ⟨⟨_, rfl, .inl rfl, ?_⟩, trivial⟩
          refine OpE.hap (fun hap => ?_)
          refine OpE.store (i := 4) rfl hB rfl Tryd.sizeOf87 rfl rfl rfl rfl rfl rfl (Nat.le_of_ble_eq_true rfl) (by refine ⟨by first | exact rfl | exact .inl rfl | exact .inr rfl, ?_⟩; repeat (first | (first | exact apart_ne hap (i := 4) (j := 0) rfl rfl (by decide) | exact apart_ne hap (i := 4) (j := 1) rfl rfl (by decide) | exact apart_ne hap (i := 4) (j := 2) rfl rfl (by decide) | exact apart_ne hap (i := 4) (j := 3) rfl rfl (by decide) | exact apart_ne hap (i := 4) (j := 5) rfl rfl (by decide)) | refine And.intro ?_ ?_)) ?_
          refine VA.done (by kernel_rfl) ?_
          exact Exists.intro (⟨g9, g10⟩) (Le.pick hB [0, 1, 2, 3, 5, 4] ⟨rfl, rfl, rfl, rfl, rfl, rfl, trivial⟩ rfl rfl (Nat.le_refl _))
    ·
      rintro ⟨g9, g10⟩
      refine VC.seq ?_
      refine VC.draw (fun j b => j = 14 ∧ True) hB (by kernel_rfl) ?_
      refine VA.take (i := 0) rfl (by kernel_rfl) (by kernel_rfl) (by kernel_rfl) rfl rfl (OpV.loadK_own (i := 2) rfl hB Tryd.isAgg27 Tryd.sizeOf27 rfl rfl rfl (by first | exact Wi.not1 (by kernel_rfl) | exact Wi.not2 (by kernel_rfl) (by kernel_rfl) | exact Wi.notX (by kernel_rfl))) ?_
      refine VA.take (i := 1) rfl (by kernel_rfl) (by kernel_rfl) (by kernel_rfl) rfl rfl (OpV.indexAddr_arr rfl Tryd.underlying29 Tryd.sizeOf27 rfl rfl (by omega) (by omega)) ?_
      refine VA.take (i := 2) rfl (by kernel_rfl) (by kernel_rfl) (by kernel_rfl) rfl rfl (OpV.loadK_own (i := 0) rfl hB Tryd.isAgg27 Tryd.sizeOf27 rfl rfl rfl (by first | exact Wi.not1 (by kernel_rfl) | exact Wi.not2 (by kernel_rfl) (by kernel_rfl) | exact Wi.notX (by kernel_rfl))) ?_
      refine VA.take (i := 4) rfl (by kernel_rfl) (by kernel_rfl) (by kernel_rfl) rfl rfl (OpV.loadK_own (i := 5) rfl hB Tryd.isAgg87 Tryd.sizeOf87 rfl rfl rfl (by first | exact Wi.not1 (by kernel_rfl) | exact Wi.not2 (by kernel_rfl) (by kernel_rfl) | exact Wi.notX (by kernel_rfl))) ?_
      first
        | refine VA.take (i := 6) rfl (by kernel_rfl) (by kernel_rfl) (by kernel_rfl) rfl rfl (OpV.fieldAddr_atO 0 rfl Tryd.underlying87 rfl rfl Tryd.sizeOf3 rfl rfl) ?_
        | refine VA.take (i := 6) rfl (by kernel_rfl) (by kernel_rfl) (by kernel_rfl) rfl rfl (OpV.fieldAddrO 0 rfl Tryd.underlying87 rfl rfl Tryd.sizeOf3 rfl) ?_
      refine VA.take (i := 7) rfl (by kernel_rfl) (by kernel_rfl) (by kernel_rfl) rfl rfl (OpV.load_own (i := 4) rfl hB Tryd.isAgg3 rfl rfl rfl (by first | exact Wi.not1 (by kernel_rfl) | exact Wi.not2 (by kernel_rfl) (by kernel_rfl) | exact Wi.notX (by kernel_rfl))) ?_
      first
        | refine VA.take (i := 8) rfl (by kernel_rfl) (by kernel_rfl) (by kernel_rfl) rfl rfl (OpV.fieldAddr_atO 1 rfl Tryd.underlying87 rfl rfl Tryd.sizeOf3 rfl rfl) ?_
        | refine VA.take (i := 8) rfl (by kernel_rfl) (by kernel_rfl) (by kernel_rfl) rfl rfl (OpV.fieldAddrO 1 rfl Tryd.underlying87 rfl rfl Tryd.sizeOf3 rfl) ?_
      refine VA.take (i := 9) rfl (by kernel_rfl) (by kernel_rfl) (by kernel_rfl) rfl rfl (OpV.load_own (i := 4) rfl hB Tryd.isAgg3 rfl rfl rfl (by first | exact Wi.not1 (by kernel_rfl) | exact Wi.not2 (by kernel_rfl) (by kernel_rfl) | exact Wi.notX (by kernel_rfl))) ?_
      refine VA.take (i := 10) rfl (by kernel_rfl) (by kernel_rfl) (by kernel_rfl) rfl rfl (OpV.neg rfl rfl (by have := hf.ny; unfold fits; omega)) ?_
      refine VA.take (i := 11) rfl (by kernel_rfl) (by kernel_rfl) (by kernel_rfl) rfl rfl (OpV.build (pls := #[(0, 1), (1, 1)]) rfl Tryd.zeroValue87 Tryd.underlying87 (fun w => by kernel_rfl) rfl rfl) ?_
      refine VA.all (rs := [3, 13]) (by kernel_rfl) (by decide) ?_
      refine ⟨⟨_, rfl, .inl rfl, ?_⟩, ⟨_, rfl, .inl rfl, ?_⟩, trivial⟩
      ·
        refine OpE.call rfl hB rfl Tryd.call40 rfl (SpecN.spec (panel_less (p := p) (q := a) (by have := hp.1; unfold cSub at this; simp only at this; omega) (by have := hp.2; unfold cSub at this; simp only at this; omega))) ?_
        rintro _ rfl
        refine VA.all (rs := [5, 13]) (by kernel_rfl) (by decide) ?_
        refine ⟨⟨_, rfl, .inl rfl, ?_⟩, ⟨_, rfl, .inl rfl, ?_⟩, trivial⟩
        ·
          refine OpE.call rfl hB rfl Tryd.call41 rfl (SpecN.spec (vec_times (v := cSub p a) (w := cSub d c) (by have := hc.m1; omega) (by have := hc.m1; omega) (by have := hc.m1; omega) (by have := hc.m1; omega))) ?_
          rintro _ rfl
          refine VA.all (rs := [12, 13]) (by kernel_rfl) (by decide) ?_
          refine ⟨⟨_, rfl, .inl rfl, ?_⟩, ⟨_, rfl, .inl rfl, ?_⟩, trivial⟩
          ·
            refine OpE.call rfl hB rfl Tryd.call41 rfl (SpecN.spec (vec_times (v := cMul (cSub p a) (cSub d c)) (w := ⟨(cSub b a).x, -(cSub b a).y⟩) hc.m2.1 hc.m2.2.1 hc.m2.2.2.1 hc.m2.2.2.2)) ?_
            rintro _ rfl
            refine VA.all (rs := [13]) (by kernel_rfl) (by decide) ?_
            refine ⟨⟨_, rfl, .inl rfl, ?_⟩, trivial⟩
            refine OpE.alloc rfl hB rfl Tryd.zeroValue87 rfl ?_
            intro g11
            refine VA.all (rs := [14]) (by kernel_rfl) (by decide) ?_
            refine ⟨⟨_, rfl, .inl rfl, ?_⟩, trivial⟩
            refine OpE.store (i := 6) rfl hB rfl Tryd.sizeOf87 rfl rfl rfl rfl rfl rfl (Nat.le_of_ble_eq_true rfl) (by first | exact ⟨rfl, rfl⟩ | exact .inl ⟨rfl, rfl⟩ | exact .inr ⟨rfl, rfl⟩ | exact ⟨rfl, trivial⟩ | exact .inl ⟨rfl, trivial⟩ | exact .inr ⟨rfl, trivial⟩) ?_
            refine VA.done (by kernel_rfl) ?_
            show VC _ _ _ _ _
            refine VC.seq ?_
            refine VC.region ?_
            refine VO.val rfl rfl (OpV.loadK_own (i := 4) rfl hB Tryd.isAgg87 Tryd.sizeOf87 rfl rfl rfl (fun h => h)) ?_
            refine VO.op rfl (OpE.call rfl hB rfl Tryd.call42 rfl (SpecN.spec (vec_square (v := cSub b a) (by have := mulB hf.nx hf.nx; omega) (by have := mulB hf.ny hf.ny; omega))) ?_)
            rintro _ rfl
            refine VO.val rfl rfl (OpV.move (.inr rfl) rfl) ?_
            refine VO.nil ?_
            show VC _ _ _ _ _
            refine VC.seq ?_
            refine VC.draw (fun j b => j = 17 ∧ b = g6) hB (by kernel_rfl) ?_
            refine VA.take (i := 0) rfl (by kernel_rfl) (by kernel_rfl) (by kernel_rfl) rfl rfl (OpV.indexAddr_arr rfl Tryd.underlying29 Tryd.sizeOf27 rfl rfl (by omega) (by omega)) ?_
            first
              | refine VA.take (i := 1) rfl (by kernel_rfl) (by kernel_rfl) (by kernel_rfl) rfl rfl (OpV.fieldAddr_atO 0 rfl Tryd.underlying27 rfl rfl Tryd.sizeOf3 rfl rfl) ?_
              | refine VA.take (i := 1) rfl (by kernel_rfl) (by kernel_rfl) (by kernel_rfl) rfl rfl (OpV.fieldAddrO 0 rfl Tryd.underlying27 rfl rfl Tryd.sizeOf3 rfl) ?_
            refine VA.take (i := 2) rfl (by kernel_rfl) (by kernel_rfl) (by kernel_rfl) rfl rfl (OpV.load_own (i := 1) rfl hB Tryd.isAgg3 rfl rfl rfl (by first | exact Wi.not1 (by kernel_rfl) | exact Wi.not2 (by kernel_rfl) (by kernel_rfl) | exact Wi.notX (by kernel_rfl))) ?_
            first
              | refine VA.take (i := 3) rfl (by kernel_rfl) (by kernel_rfl) (by kernel_rfl) rfl rfl (OpV.fieldAddr_atO 0 rfl Tryd.underlying87 rfl rfl Tryd.sizeOf3 rfl rfl) ?_
              | refine VA.take (i := 3) rfl (by kernel_rfl) (by kernel_rfl) (by kernel_rfl) rfl rfl (OpV.fieldAddrO 0 rfl Tryd.underlying87 rfl rfl Tryd.sizeOf3 rfl) ?_
            refine VA.take (i := 4) rfl (by kernel_rfl) (by kernel_rfl) (by kernel_rfl) rfl rfl (OpV.load_own (i := 6) rfl hB Tryd.isAgg3 rfl rfl rfl (by first | exact Wi.not1 (by kernel_rfl) | exact Wi.not2 (by kernel_rfl) (by kernel_rfl) | exact Wi.notX (by kernel_rfl))) ?_
            refine VA.take (i := 5) rfl (by kernel_rfl) (by kernel_rfl) (by kernel_rfl) rfl rfl (OpV.move (.inl rfl) rfl) ?_
            refine VA.take (i := 8) rfl (by kernel_rfl) (by kernel_rfl) (by kernel_rfl) rfl rfl (OpV.indexAddr_arr rfl Tryd.underlying29 Tryd.sizeOf27 rfl rfl (by omega) (by omega)) ?_
            first
              | refine VA.take (i := 9) rfl (by kernel_rfl) (by kernel_rfl) (by kernel_rfl) rfl rfl (OpV.fieldAddr_atO 1 rfl Tryd.underlying27 rfl rfl Tryd.sizeOf3 rfl rfl) ?_
              | refine VA.take (i := 9) rfl (by kernel_rfl) (by kernel_rfl) (by kernel_rfl) rfl rfl (OpV.fieldAddrO 1 rfl Tryd.underlying27 rfl rfl Tryd.sizeOf3 rfl) ?_
            refine VA.take (i := 10) rfl (by kernel_rfl) (by kernel_rfl) (by kernel_rfl) rfl rfl (OpV.load_own (i := 1) rfl hB Tryd.isAgg3 rfl rfl rfl (by first | exact Wi.not1 (by kernel_rfl) | exact Wi.not2 (by kernel_rfl) (by kernel_rfl) | exact Wi.notX (by kernel_rfl))) ?_
            first
              | refine VA.take (i := 11) rfl (by kernel_rfl) (by kernel_rfl) (by kernel_rfl) rfl rfl (OpV.fieldAddr_atO 1 rfl Tryd.underlying87 rfl rfl Tryd.sizeOf3 rfl rfl) ?_
              | refine VA.take (i := 11) rfl (by kernel_rfl) (by kernel_rfl) (by kernel_rfl) rfl rfl (OpV.fieldAddrO 1 rfl Tryd.underlying87 rfl rfl Tryd.sizeOf3 rfl) ?_
            refine VA.take (i := 12) rfl (by kernel_rfl) (by kernel_rfl) (by kernel_rfl) rfl rfl (OpV.load_own (i := 6) rfl hB Tryd.isAgg3 rfl rfl rfl (by first | exact Wi.not1 (by kernel_rfl) | exact Wi.not2 (by kernel_rfl) (by kernel_rfl) | exact Wi.notX (by kernel_rfl))) ?_
            refine VA.take (i := 13) rfl (by kernel_rfl) (by kernel_rfl) (by kernel_rfl) rfl rfl (OpV.move (.inl rfl) rfl) ?_
            refine VA.all (rs := [6]) (by kernel_rfl) (by decide) ?_
            refine ⟨⟨_, rfl, .inl rfl, ?_⟩, trivial⟩
            refine OpE.call rfl hB rfl Tryd.call43 rfl (SpecN.spec (panel_rounded (by have := hc.m3.1; omega) (by have := hf.sq; omega))) ?_
            rintro _ rfl
            refine VA.take (i := 7) rfl (by kernel_rfl) (by kernel_rfl) (by kernel_rfl) rfl rfl (OpV.add rfl rfl rfl (by have h1 := round_bd hf.sq.1 hc.m3.1; have h2 := hf.cx; unfold fits; omega)) ?_
            refine VA.all (rs := [14]) (by kernel_rfl) (by decide) ?_
            refine ⟨⟨_, rfl, .inl rfl, ?_⟩, trivial⟩
            refine OpE.call rfl hB rfl Tryd.call43 rfl (SpecN.spec (panel_rounded (by have := hc.m3.2; omega) (by have := hf.sq; omega))) ?_
            rintro _ rfl
            refine VA.take (i := 15) rfl (by kernel_rfl) (by kernel_rfl) (by kernel_rfl) rfl rfl (OpV.add rfl rfl rfl (by have h1 := round_bd hf.sq.1 hc.m3.2; have h2 := hf.cy; unfold fits; omega)) ?_
            refine VA.take (i := 16) rfl (by kernel_rfl) (by kernel_rfl) (by kernel_rfl) rfl rfl (OpV.build (pls := #[(0, 1), (1, 1)]) rfl Tryd.zeroValue27 Tryd.underlying27 (fun w => by kernel_rfl) rfl rfl) ?_
            refine VA.all (rs := [17]) (by kernel_rfl) (by decide) ?_
            refine ⟨⟨_, rfl, .inl rfl, ?_⟩, trivial⟩
            refine OpE.store (i := 3) rfl hB rfl Tryd.sizeOf27 rfl rfl rfl rfl rfl rfl (Nat.le_of_ble_eq_true rfl) (by first | exact ⟨rfl, rfl⟩ | exact .inl ⟨rfl, rfl⟩ | exact .inr ⟨rfl, rfl⟩ | exact ⟨rfl, trivial⟩ | exact .inl ⟨rfl, trivial⟩ | exact .inr ⟨rfl, trivial⟩) ?_
            refine VA.take (i := 18) rfl (by kernel_rfl) (by kernel_rfl) (by kernel_rfl) rfl rfl (OpV.move (.inr rfl) rfl) ?_
            refine VA.done (by kernel_rfl) ?_
            show VC _ _ _ _ _
            refine VC.ret ?_
            exact Exists.intro _ (And.intro (RetN.two Tryd.results7 ((by first | exact ResN.cellF (i := 0) Tryd.isAgg27 Tryd.sizeOf27 rfl rfl rfl (flat_ofB rfl) | exact ResN.cellF (i := 1) Tryd.isAgg27 Tryd.sizeOf27 rfl rfl rfl (flat_ofB rfl) | exact ResN.cellF (i := 2) Tryd.isAgg27 Tryd.sizeOf27 rfl rfl rfl (flat_ofB rfl) | exact ResN.cellF (i := 3) Tryd.isAgg27 Tryd.sizeOf27 rfl rfl rfl (flat_ofB rfl) | exact ResN.cellF (i := 4) Tryd.isAgg27 Tryd.sizeOf27 rfl rfl rfl (flat_ofB rfl) | exact ResN.cellF (i := 5) Tryd.isAgg27 Tryd.sizeOf27 rfl rfl rfl (flat_ofB rfl) | exact ResN.cellF (i := 6) Tryd.isAgg27 Tryd.sizeOf27 rfl rfl rfl (flat_ofB rfl))) (ResN.v rfl)) (by first | (rw [corrR, if_neg h0]; rfl) | (rw [corrR, if_pos h00, h00]; rfl)))
          ·
            refine OpE.alloc rfl hB rfl Tryd.zeroValue87 rfl ?_
            intro g11
            refine VA.all (rs := [12]) (by kernel_rfl) (by decide) ?_
            refine ⟨⟨_, rfl, .inl rfl, ?_⟩, trivial⟩
            refine OpE.call rfl hB rfl Tryd.call41 rfl (SpecN.spec (vec_times (v := cMul (cSub p a) (cSub d c)) (w := ⟨(cSub b a).x, -(cSub b a).y⟩) hc.m2.1 hc.m2.2.1 hc.m2.2.2.1 hc.m2.2.2.2)) ?_
            rintro _ rfl
            refine VA.all (rs := [14]) (by kernel_rfl) (by decide) ?_
            refine ⟨⟨_, rfl, .inl rfl, ?_⟩, trivial⟩
            refine OpE.store (i := 6) rfl hB rfl Tryd.sizeOf87 rfl rfl rfl rfl rfl rfl (Nat.le_of_ble_eq_true rfl) (by first | exact ⟨rfl, rfl⟩ | exact .inl ⟨rfl, rfl⟩ | exact .inr ⟨rfl, rfl⟩ | exact ⟨rfl, trivial⟩ | exact .inl ⟨rfl, trivial⟩ | exact .inr ⟨rfl, trivial⟩) ?_
            refine VA.done (by kernel_rfl) ?_
            show VC _ _ _ _ _
            refine VC.seq ?_
            refine VC.region ?_
            refine VO.val rfl rfl (OpV.loadK_own (i := 4) rfl hB Tryd.isAgg87 Tryd.sizeOf87 rfl rfl rfl (fun h => h)) ?_
            refine VO.op rfl (OpE.call rfl hB rfl Tryd.call42 rfl (SpecN.spec (vec_square (v := cSub b a) (by have := mulB hf.nx hf.nx; omega) (by have := mulB hf.ny hf.ny; omega))) ?_)
            rintro _ rfl
            refine VO.val rfl rfl (OpV.move (.inr rfl) rfl) ?_
            refine VO.nil ?_
            show VC _ _ _ _ _
            refine VC.seq ?_
            refine VC.draw (fun j b => j = 17 ∧ b = g6) hB (by kernel_rfl) ?_
            refine VA.take (i := 0) rfl (by kernel_rfl) (by kernel_rfl) (by kernel_rfl) rfl rfl (OpV.indexAddr_arr rfl Tryd.underlying29 Tryd.sizeOf27 rfl rfl (by omega) (by omega)) ?_
            first
              | refine VA.take (i := 1) rfl (by kernel_rfl) (by kernel_rfl) (by kernel_rfl) rfl rfl (OpV.fieldAddr_atO 0 rfl Tryd.underlying27 rfl rfl Tryd.sizeOf3 rfl rfl) ?_
              | refine VA.take (i := 1) rfl (by kernel_rfl) (by kernel_rfl) (by kernel_rfl) rfl rfl (OpV.fieldAddrO 0 rfl Tryd.underlying27 rfl rfl Tryd.sizeOf3 rfl) ?_
            refine VA.take (i := 2) rfl (by kernel_rfl) (by kernel_rfl) (by kernel_rfl) rfl rfl (OpV.load_own (i := 1) rfl hB Tryd.isAgg3 rfl rfl rfl (by first | exact Wi.not1 (by kernel_rfl) | exact Wi.not2 (by kernel_rfl) (by kernel_rfl) | exact Wi.notX (by kernel_rfl))) ?_
            first
              | refine VA.take (i := 3) rfl (by kernel_rfl) (by kernel_rfl) (by kernel_rfl) rfl rfl (OpV.fieldAddr_atO 0 rfl Tryd.underlying87 rfl rfl Tryd.sizeOf3 rfl rfl) ?_
              | refine VA.take (i := 3) rfl (by kernel_rfl) (by kernel_rfl) (by kernel_rfl) rfl rfl (OpV.fieldAddrO 0 rfl Tryd.underlying87 rfl rfl Tryd.sizeOf3 rfl) ?_
            refine VA.take (i := 4) rfl (by kernel_rfl) (by kernel_rfl) (by kernel_rfl) rfl rfl (OpV.load_own (i := 6) rfl hB Tryd.isAgg3 rfl rfl rfl (by first | exact Wi.not1 (by kernel_rfl) | exact Wi.not2 (by kernel_rfl) (by kernel_rfl) | exact Wi.notX (by kernel_rfl))) ?_
            refine VA.take (i := 5) rfl (by kernel_rfl) (by kernel_rfl) (by kernel_rfl) rfl rfl (OpV.move (.inl rfl) rfl) ?_
            refine VA.take (i := 8) rfl (by kernel_rfl) (by kernel_rfl) (by kernel_rfl) rfl rfl (OpV.indexAddr_arr rfl Tryd.underlying29 Tryd.sizeOf27 rfl rfl (by omega) (by omega)) ?_
            first
              | refine VA.take (i := 9) rfl (by kernel_rfl) (by kernel_rfl) (by kernel_rfl) rfl rfl (OpV.fieldAddr_atO 1 rfl Tryd.underlying27 rfl rfl Tryd.sizeOf3 rfl rfl) ?_
              | refine VA.take (i := 9) rfl (by kernel_rfl) (by kernel_rfl) (by kernel_rfl) rfl rfl (OpV.fieldAddrO 1 rfl Tryd.underlying27 rfl rfl Tryd.sizeOf3 rfl) ?_
            refine VA.take (i := 10) rfl (by kernel_rfl) (by kernel_rfl) (by kernel_rfl) rfl rfl (OpV.load_own (i := 1) rfl hB Tryd.isAgg3 rfl rfl rfl (by first | exact Wi.not1 (by kernel_rfl) | exact Wi.not2 (by kernel_rfl) (by kernel_rfl) | exact Wi.notX (by kernel_rfl))) ?_
            first
              | refine VA.take (i := 11) rfl (by kernel_rfl) (by kernel_rfl) (by kernel_rfl) rfl rfl (OpV.fieldAddr_atO 1 rfl Tryd.underlying87 rfl rfl Tryd.sizeOf3 rfl rfl) ?_
              | refine VA.take (i := 11) rfl (by kernel_rfl) (by kernel_rfl) (by kernel_rfl) rfl rfl (OpV.fieldAddrO 1 rfl Tryd.underlying87 rfl rfl Tryd.sizeOf3 rfl) ?_
            refine VA.take (i := 12) rfl (by kernel_rfl) (by kernel_rfl) (by kernel_rfl) rfl rfl (OpV.load_own (i := 6) rfl hB Tryd.isAgg3 rfl rfl rfl (by first | exact Wi.not1 (by kernel_rfl) | exact Wi.not2 (by kernel_rfl) (by kernel_rfl) | exact Wi.notX (by kernel_rfl))) ?_
            refine VA.take (i := 13) rfl (by kernel_rfl) (by kernel_rfl) (by kernel_rfl) rfl rfl (OpV.move (.inl rfl) rfl) ?_
            refine VA.all (rs := [6]) (by kernel_rfl) (by decide) ?_
            refine ⟨⟨_, rfl, .inl rfl, ?_⟩, trivial⟩
            refine OpE.call rfl hB rfl Tryd.call43 rfl (SpecN.spec (panel_rounded (by have := hc.m3.1; omega) (by have := hf.sq; omega))) ?_
            rintro _ rfl
            refine VA.take (i := 7) rfl (by kernel_rfl) (by kernel_rfl) (by kernel_rfl) rfl rfl (OpV.add rfl rfl rfl (by have h1 := round_bd hf.sq.1 hc.m3.1; have h2 := hf.cx; unfold fits; omega)) ?_
            refine VA.all (rs := [14]) (by kernel_rfl) (by decide) ?_
            refine ⟨⟨_, rfl, .inl rfl, ?_⟩, trivial⟩
            refine OpE.call rfl hB rfl Tryd.call43 rfl (SpecN.spec (panel_rounded (by have := hc.m3.2; omega) (by have := hf.sq; omega))) ?_
            rintro _ rfl
            refine VA.take (i := 15) rfl (by kernel_rfl) (by kernel_rfl) (by kernel_rfl) rfl rfl (OpV.add rfl rfl rfl (by have h1 := round_bd hf.sq.1 hc.m3.2; have h2 := hf.cy; unfold fits; omega)) ?_
            refine VA.take (i := 16) rfl (by kernel_rfl) (by kernel_rfl) (by kernel_rfl) rfl rfl (OpV.build (pls := #[(0, 1), (1, 1)]) rfl Tryd.zeroValue27 Tryd.underlying27 (fun w => by kernel_rfl) rfl rfl) ?_
            refine VA.all (rs := [17]) (by kernel_rfl) (by decide) ?_
            refine ⟨⟨_, rfl, .inl rfl, ?_⟩, trivial⟩
            refine OpE.store (i := 3) rfl hB rfl Tryd.sizeOf27 rfl rfl rfl rfl rfl rfl (Nat.le_of_ble_eq_true rfl) (by first | exact ⟨rfl, rfl⟩ | exact .inl ⟨rfl, rfl⟩ | exact .inr ⟨rfl, rfl⟩ | exact ⟨rfl, trivial⟩ | exact .inl ⟨rfl, trivial⟩ | exact .inr ⟨rfl, trivial⟩) ?_
            refine VA.take (i := 18) rfl (by kernel_rfl) (by kernel_rfl) (by kernel_rfl) rfl rfl (OpV.move (.inr rfl) rfl) ?_
            refine VA.done (by kernel_rfl) ?_
            show VC _ _ _ _ _
            refine VC.ret ?_
            exact Exists.intro _ (And.intro (RetN.two Tryd.results7 ((by first | exact ResN.cellF (i := 0) Tryd.isAgg27 Tryd.sizeOf27 rfl rfl rfl (flat_ofB rfl) | exact ResN.cellF (i := 1) Tryd.isAgg27 Tryd.sizeOf27 rfl rfl rfl (flat_ofB rfl) | exact ResN.cellF (i := 2) Tryd.isAgg27 Tryd.sizeOf27 rfl rfl rfl (flat_ofB rfl) | exact ResN.cellF (i := 3) Tryd.isAgg27 Tryd.sizeOf27 rfl rfl rfl (flat_ofB rfl) | exact ResN.cellF (i := 4) Tryd.isAgg27 Tryd.sizeOf27 rfl rfl rfl (flat_ofB rfl) | exact ResN.cellF (i := 5) Tryd.isAgg27 Tryd.sizeOf27 rfl rfl rfl (flat_ofB rfl) | exact ResN.cellF (i := 6) Tryd.isAgg27 Tryd.sizeOf27 rfl rfl rfl (flat_ofB rfl))) (ResN.v rfl)) (by first | (rw [corrR, if_neg h0]; rfl) | (rw [corrR, if_pos h00, h00]; rfl)))
        ·
          refine OpE.alloc rfl hB rfl Tryd.zeroValue87 rfl ?_
          intro g11
          refine VA.all (rs := [5]) (by kernel_rfl) (by decide) ?_
          refine ⟨⟨_, rfl, .inl rfl, ?_⟩, trivial⟩
          refine OpE.call rfl hB rfl Tryd.call41 rfl (SpecN.spec (vec_times (v := cSub p a) (w := cSub d c) (by have := hc.m1; omega) (by have := hc.m1; omega) (by have := hc.m1; omega) (by have := hc.m1; omega))) ?_
          rintro _ rfl
          refine VA.all (rs := [12]) (by kernel_rfl) (by decide) ?_
          refine ⟨⟨_, rfl, .inl rfl, ?_⟩, trivial⟩
          refine OpE.call rfl hB rfl Tryd.call41 rfl (SpecN.spec (vec_times (v := cMul (cSub p a) (cSub d c)) (w := ⟨(cSub b a).x, -(cSub b a).y⟩) hc.m2.1 hc.m2.2.1 hc.m2.2.2.1 hc.m2.2.2.2)) ?_
          rintro _ rfl
          refine VA.all (rs := [14]) (by kernel_rfl) (by decide) ?_
          refine ⟨⟨_, rfl, .inl rfl, ?_⟩, trivial⟩
          refine OpE.store (i := 6) rfl hB rfl Tryd.sizeOf87 rfl rfl rfl rfl rfl rfl (Nat.le_of_ble_eq_true rfl) (by first | exact ⟨rfl, rfl⟩ | exact .inl ⟨rfl, rfl⟩ | exact .inr ⟨rfl, rfl⟩ | exact ⟨rfl, trivial⟩ | exact .inl ⟨rfl, trivial⟩ | exact .inr ⟨rfl, trivial⟩) ?_
          refine VA.done (by kernel_rfl) ?_
          show VC _ _ _ _ _
          refine VC.seq ?_
          refine VC.region ?_
          refine VO.val rfl rfl (OpV.loadK_own (i := 4) rfl hB Tryd.isAgg87 Tryd.sizeOf87 rfl rfl rfl (fun h => h)) ?_
          refine VO.op rfl (OpE.call rfl hB rfl Tryd.call42 rfl (SpecN.spec (vec_square (v := cSub b a) (by have := mulB hf.nx hf.nx; omega) (by have := mulB hf.ny hf.ny; omega))) ?_)
          rintro _ rfl
          refine VO.val rfl rfl (OpV.move (.inr rfl) rfl) ?_
          refine VO.nil ?_
          show VC _ _ _ _ _
          refine VC.seq ?_
          refine VC.draw (fun j b => j = 17 ∧ b = g6) hB (by kernel_rfl) ?_
          refine VA.take (i := 0) rfl (by kernel_rfl) (by kernel_rfl) (by kernel_rfl) rfl rfl (OpV.indexAddr_arr rfl Tryd.underlying29 Tryd.sizeOf27 rfl rfl (by omega) (by omega)) ?_
          first
            | refine VA.take (i := 1) rfl (by kernel_rfl) (by kernel_rfl) (by kernel_rfl) rfl rfl (OpV.fieldAddr_atO 0 rfl Tryd.underlying27 rfl rfl Tryd.sizeOf3 rfl rfl) ?_
            | refine VA.take (i := 1) rfl (by kernel_rfl) (by kernel_rfl) (by kernel_rfl) rfl rfl (OpV.fieldAddrO 0 rfl Tryd.underlying27 rfl rfl Tryd.sizeOf3 rfl) ?_
          refine VA.take (i := 2) rfl (by kernel_rfl) (by kernel_rfl) (by kernel_rfl) rfl rfl (OpV.load_own (i := 1) rfl hB Tryd.isAgg3 rfl rfl rfl (by first | exact Wi.not1 (by kernel_rfl) | exact Wi.not2 (by kernel_rfl) (by kernel_rfl) | exact Wi.notX (by kernel_rfl))) ?_
          first
            | refine VA.take (i := 3) rfl (by kernel_rfl) (by kernel_rfl) (by kernel_rfl) rfl rfl (OpV.fieldAddr_atO 0 rfl Tryd.underlying87 rfl rfl Tryd.sizeOf3 rfl rfl) ?_
            | refine VA.take (i := 3) rfl (by kernel_rfl) (by kernel_rfl) (by kernel_rfl) rfl rfl (OpV.fieldAddrO 0 rfl Tryd.underlying87 rfl rfl Tryd.sizeOf3 rfl) ?_
          refine VA.take (i := 4) rfl (by kernel_rfl) (by kernel_rfl) (by kernel_rfl) rfl rfl (OpV.load_own (i := 6) rfl hB Tryd.isAgg3 rfl rfl rfl (by first | exact Wi.not1 (by kernel_rfl) | exact Wi.not2 (by kernel_rfl) (by kernel_rfl) | exact Wi.notX (by kernel_rfl))) ?_
          refine VA.take (i := 5) rfl (by kernel_rfl) (by kernel_rfl) (by kernel_rfl) rfl rfl (OpV.move (.inl rfl) rfl) ?_
          refine VA.take (i := 8) rfl (by kernel_rfl) (by kernel_rfl) (by kernel_rfl) rfl rfl (OpV.indexAddr_arr rfl Tryd.underlying29 Tryd.sizeOf27 rfl rfl (by omega) (by omega)) ?_
          first
            | refine VA.take (i := 9) rfl (by kernel_rfl) (by kernel_rfl) (by kernel_rfl) rfl rfl (OpV.fieldAddr_atO 1 rfl Tryd.underlying27 rfl rfl Tryd.sizeOf3 rfl rfl) ?_
            | refine VA.take (i := 9) rfl (by kernel_rfl) (by kernel_rfl) (by kernel_rfl) rfl rfl (OpV.fieldAddrO 1 rfl Tryd.underlying27 rfl rfl Tryd.sizeOf3 rfl) ?_
          refine VA.take (i := 10) rfl (by kernel_rfl) (by kernel_rfl) (by kernel_rfl) rfl rfl (OpV.load_own (i := 1) rfl hB Tryd.isAgg3 rfl rfl rfl (by first | exact Wi.not1 (by kernel_rfl) | exact Wi.not2 (by kernel_rfl) (by kernel_rfl) | exact Wi.notX (by kernel_rfl))) ?_
          first
            | refine VA.take (i := 11) rfl (by kernel_rfl) (by kernel_rfl) (by kernel_rfl) rfl rfl (OpV.fieldAddr_atO 1 rfl Tryd.underlying87 rfl rfl Tryd.sizeOf3 rfl rfl) ?_
            | refine VA.take (i := 11) rfl (by kernel_rfl) (by kernel_rfl) (by kernel_rfl) rfl rfl (OpV.fieldAddrO 1 rfl Tryd.underlying87 rfl rfl Tryd.sizeOf3 rfl) ?_
          refine VA.take (i := 12) rfl (by kernel_rfl) (by kernel_rfl) (by kernel_rfl) rfl rfl (OpV.load_own (i := 6) rfl hB Tryd.isAgg3 rfl rfl rfl (by first | exact Wi.not1 (by kernel_rfl) | exact Wi.not2 (by kernel_rfl) (by kernel_rfl) | exact Wi.notX (by kernel_rfl))) ?_
          refine VA.take (i := 13) rfl (by kernel_rfl) (by kernel_rfl) (by kernel_rfl) rfl rfl (OpV.move (.inl rfl) rfl) ?_
          refine VA.all (rs := [6]) (by kernel_rfl) (by decide) ?_
          refine ⟨⟨_, rfl, .inl rfl, ?_⟩, trivial⟩
          refine OpE.call rfl hB rfl Tryd.call43 rfl (SpecN.spec (panel_rounded (by have := hc.m3.1; omega) (by have := hf.sq; omega))) ?_
          rintro _ rfl
          refine VA.take (i := 7) rfl (by kernel_rfl) (by kernel_rfl) (by kernel_rfl) rfl rfl (OpV.add rfl rfl rfl (by have h1 := round_bd hf.sq.1 hc.m3.1; have h2 := hf.cx; unfold fits; omega)) ?_
          refine VA.all (rs := [14]) (by kernel_rfl) (by decide) ?_
          refine ⟨⟨_, rfl, .inl rfl, ?_⟩, trivial⟩
          refine OpE.call rfl hB rfl Tryd.call43 rfl (SpecN.spec (panel_rounded (by have := hc.m3.2; omega) (by have := hf.sq; omega))) ?_
          rintro _ rfl
          refine VA.take (i := 15) rfl (by kernel_rfl) (by kernel_rfl) (by kernel_rfl) rfl rfl (OpV.add rfl rfl rfl (by have h1 := round_bd hf.sq.1 hc.m3.2; have h2 := hf.cy; unfold fits; omega)) ?_
          refine VA.take (i := 16) rfl (by kernel_rfl) (by kernel_rfl) (by kernel_rfl) rfl rfl (OpV.build (pls := #[(0, 1), (1, 1)]) rfl Tryd.zeroValue27 Tryd.underlying27 (fun w => by kernel_rfl) rfl rfl) ?_
          refine VA.all (rs := [17]) (by kernel_rfl) (by decide) ?_
          refine ⟨⟨_, rfl, .inl rfl, ?_⟩, trivial⟩
          refine OpE.store (i := 3) rfl hB rfl Tryd.sizeOf27 rfl rfl rfl rfl rfl rfl (Nat.le_of_ble_eq_true rfl) (by first | exact ⟨rfl, rfl⟩ | exact .inl ⟨rfl, rfl⟩ | exact .inr ⟨rfl, rfl⟩ | exact ⟨rfl, trivial⟩ | exact .inl ⟨rfl, trivial⟩ | exact .inr ⟨rfl, trivial⟩) ?_
          refine VA.take (i := 18) rfl (by kernel_rfl) (by kernel_rfl) (by kernel_rfl) rfl rfl (OpV.move (.inr rfl) rfl) ?_
          refine VA.done (by kernel_rfl) ?_
          show VC _ _ _ _ _
          refine VC.ret ?_
          exact Exists.intro _ (And.intro (RetN.two Tryd.results7 ((by first | exact ResN.cellF (i := 0) Tryd.isAgg27 Tryd.sizeOf27 rfl rfl rfl (flat_ofB rfl) | exact ResN.cellF (i := 1) Tryd.isAgg27 Tryd.sizeOf27 rfl rfl rfl (flat_ofB rfl) | exact ResN.cellF (i := 2) Tryd.isAgg27 Tryd.sizeOf27 rfl rfl rfl (flat_ofB rfl) | exact ResN.cellF (i := 3) Tryd.isAgg27 Tryd.sizeOf27 rfl rfl rfl (flat_ofB rfl) | exact ResN.cellF (i := 4) Tryd.isAgg27 Tryd.sizeOf27 rfl rfl rfl (flat_ofB rfl) | exact ResN.cellF (i := 5) Tryd.isAgg27 Tryd.sizeOf27 rfl rfl rfl (flat_ofB rfl) | exact ResN.cellF (i := 6) Tryd.isAgg27 Tryd.sizeOf27 rfl rfl rfl (flat_ofB rfl))) (ResN.v rfl)) (by first | (rw [corrR, if_neg h0]; rfl) | (rw [corrR, if_pos h00, h00]; rfl)))
      ·
        refine OpE.alloc rfl hB rfl Tryd.zeroValue87 rfl ?_
        intro g11
        refine VA.all (rs := [3]) (by kernel_rfl) (by decide) ?_
        refine ⟨⟨_, rfl, .inl rfl, ?_⟩, trivial⟩
        refine OpE.call rfl hB rfl Tryd.call40 rfl (SpecN.spec (panel_less (p := p) (q := a) (by have := hp.1; unfold cSub at this; simp only at this; omega) (by have := hp.2; unfold cSub at this; simp only at this; omega))) ?_
        rintro _ rfl
        refine VA.all (rs := [5]) (by kernel_rfl) (by decide) ?_
        refine ⟨⟨_, rfl, .inl rfl, ?_⟩, trivial⟩
        refine OpE.call rfl hB rfl Tryd.call41 rfl (SpecN.spec (vec_times (v := cSub p a) (w := cSub d c) (by have := hc.m1; omega) (by have := hc.m1; omega) (by have := hc.m1; omega) (by have := hc.m1; omega))) ?_
        rintro _ rfl
        refine VA.all (rs := [12]) (by kernel_rfl) (by decide) ?_
        refine ⟨⟨_, rfl, .inl rfl, ?_⟩, trivial⟩
        refine OpE.call rfl hB rfl Tryd.call41 rfl (SpecN.spec (vec_times (v := cMul (cSub p a) (cSub d c)) (w := ⟨(cSub b a).x, -(cSub b a).y⟩) hc.m2.1 hc.m2.2.1 hc.m2.2.2.1 hc.m2.2.2.2)) ?_
        rintro _ rfl
        refine VA.all (rs := [14]) (by kernel_rfl) (by decide) ?_
        refine ⟨⟨_, rfl, .inl rfl, ?_⟩, trivial⟩
        refine OpE.store (i := 6) rfl hB rfl Tryd.sizeOf87 rfl rfl rfl rfl rfl rfl (Nat.le_of_ble_eq_true rfl) (by first | exact ⟨rfl, rfl⟩ | exact .inl ⟨rfl, rfl⟩ | exact .inr ⟨rfl, rfl⟩ | exact ⟨rfl, trivial⟩ | exact .inl ⟨rfl, trivial⟩ | exact .inr ⟨rfl, trivial⟩) ?_
        refine VA.done (by kernel_rfl) ?_
        show VC _ _ _ _ _
        refine VC.seq ?_
        refine VC.region ?_
        refine VO.val rfl rfl (OpV.loadK_own (i := 4) rfl hB Tryd.isAgg87 Tryd.sizeOf87 rfl rfl rfl (fun h => h)) ?_
        refine VO.op rfl (OpE.call rfl hB rfl Tryd.call42 rfl (SpecN.spec (vec_square (v := cSub b a) (by have := mulB hf.nx hf.nx; omega) (by have := mulB hf.ny hf.ny; omega))) ?_)
        rintro _ rfl
        refine VO.val rfl rfl (OpV.move (.inr rfl) rfl) ?_
        refine VO.nil ?_
        show VC _ _ _ _ _
        refine VC.seq ?_
        refine VC.draw (fun j b => j = 17 ∧ b = g6) hB (by kernel_rfl) ?_
        refine VA.take (i := 0) rfl (by kernel_rfl) (by kernel_rfl) (by kernel_rfl) rfl rfl (OpV.indexAddr_arr rfl Tryd.underlying29 Tryd.sizeOf27 rfl rfl (by omega) (by omega)) ?_
        first
          | refine VA.take (i := 1) rfl (by kernel_rfl) (by kernel_rfl) (by kernel_rfl) rfl rfl (OpV.fieldAddr_atO 0 rfl Tryd.underlying27 rfl rfl Tryd.sizeOf3 rfl rfl) ?_
          | refine VA.take (i := 1) rfl (by kernel_rfl) (by kernel_rfl) (by kernel_rfl) rfl rfl (OpV.fieldAddrO 0 rfl Tryd.underlying27 rfl rfl Tryd.sizeOf3 rfl) ?_
        refine VA.take (i := 2) rfl (by kernel_rfl) (by kernel_rfl) (by kernel_rfl) rfl rfl (OpV.load_own (i := 1) rfl hB Tryd.isAgg3 rfl rfl rfl (by first | exact Wi.not1 (by kernel_rfl) | exact Wi.not2 (by kernel_rfl) (by kernel_rfl) | exact Wi.notX (by kernel_rfl))) ?_
        first
          | refine VA.take (i := 3) rfl (by kernel_rfl) (by kernel_rfl) (by kernel_rfl) rfl rfl (OpV.fieldAddr_atO 0 rfl Tryd.underlying87 rfl rfl Tryd.sizeOf3 rfl rfl) ?_
          | refine VA.take (i := 3) rfl (by kernel_rfl) (by kernel_rfl) (by kernel_rfl) rfl rfl (OpV.fieldAddrO 0 rfl Tryd.underlying87 rfl rfl Tryd.sizeOf3 rfl) ?_
        refine VA.take (i := 4) rfl (by kernel_rfl) (by kernel_rfl) (by kernel_rfl) rfl rfl (OpV.load_own (i := 6) rfl hB Tryd.isAgg3 rfl rfl rfl (by first | exact Wi.not1 (by kernel_rfl) | exact Wi.not2 (by kernel_rfl) (by kernel_rfl) | exact Wi.notX (by kernel_rfl))) ?_
        refine VA.take (i := 5) rfl (by kernel_rfl) (by kernel_rfl) (by kernel_rfl) rfl rfl (OpV.move (.inl rfl) rfl) ?_
        refine VA.take (i := 8) rfl (by kernel_rfl) (by kernel_rfl) (by kernel_rfl) rfl rfl (OpV.indexAddr_arr rfl Tryd.underlying29 Tryd.sizeOf27 rfl rfl (by omega) (by omega)) ?_
        first
          | refine VA.take (i := 9) rfl (by kernel_rfl) (by kernel_rfl) (by kernel_rfl) rfl rfl (OpV.fieldAddr_atO 1 rfl Tryd.underlying27 rfl rfl Tryd.sizeOf3 rfl rfl) ?_
          | refine VA.take (i := 9) rfl (by kernel_rfl) (by kernel_rfl) (by kernel_rfl) rfl rfl (OpV.fieldAddrO 1 rfl Tryd.underlying27 rfl rfl Tryd.sizeOf3 rfl) ?_
        refine VA.take (i := 10) rfl (by kernel_rfl) (by kernel_rfl) (by kernel_rfl) rfl rfl (OpV.load_own (i := 1) rfl hB Tryd.isAgg3 rfl rfl rfl (by first | exact Wi.not1 (by kernel_rfl) | exact Wi.not2 (by kernel_rfl) (by kernel_rfl) | exact Wi.notX (by kernel_rfl))) ?_
        first
          | refine VA.take (i := 11) rfl (by kernel_rfl) (by kernel_rfl) (by kernel_rfl) rfl rfl (OpV.fieldAddr_atO 1 rfl Tryd.underlying87 rfl rfl Tryd.sizeOf3 rfl rfl) ?_
          | refine VA.take (i := 11) rfl (by kernel_rfl) (by kernel_rfl) (by kernel_rfl) rfl rfl (OpV.fieldAddrO 1 rfl Tryd.underlying87 rfl rfl Tryd.sizeOf3 rfl) ?_
        refine VA.take (i := 12) rfl (by kernel_rfl) (by kernel_rfl) (by kernel_rfl) rfl rfl (OpV.load_own (i := 6) rfl hB Tryd.isAgg3 rfl rfl rfl (by first | exact Wi.not1 (by kernel_rfl) | exact Wi.not2 (by kernel_rfl) (by kernel_rfl) | exact Wi.notX (by kernel_rfl))) ?_
        refine VA.take (i := 13) rfl (by kernel_rfl) (by kernel_rfl) (by kernel_rfl) rfl rfl (OpV.move (.inl rfl) rfl) ?_
        refine VA.all (rs := [6]) (by kernel_rfl) (by decide) ?_
        refine ⟨⟨_, rfl, .inl rfl, ?_⟩, trivial⟩
        refine OpE.call rfl hB rfl Tryd.call43 rfl (SpecN.spec (panel_rounded (by have := hc.m3.1; omega) (by have := hf.sq; omega))) ?_
        rintro _ rfl
        refine VA.take (i := 7) rfl (by kernel_rfl) (by kernel_rfl) (by kernel_rfl) rfl rfl (OpV.add rfl rfl rfl (by have h1 := round_bd hf.sq.1 hc.m3.1; have h2 := hf.cx; unfold fits; omega)) ?_
        refine VA.all (rs := [14]) (by kernel_rfl) (by decide) ?_
        refine ⟨⟨_, rfl, .inl rfl, ?_⟩, trivial⟩
        refine OpE.call rfl hB rfl Tryd.call43 rfl (SpecN.spec (panel_rounded (by have := hc.m3.2; omega) (by have := hf.sq; omega))) ?_
        rintro _ rfl
        refine VA.take (i := 15) rfl (by kernel_rfl) (by kernel_rfl) (by kernel_rfl) rfl rfl (OpV.add rfl rfl rfl (by have h1 := round_bd hf.sq.1 hc.m3.2; have h2 := hf.cy; unfold fits; omega)) ?_
        refine VA.take (i := 16) rfl (by kernel_rfl) (by kernel_rfl) (by kernel_rfl) rfl rfl (OpV.build (pls := #[(0, 1), (1, 1)]) rfl Tryd.zeroValue27 Tryd.underlying27 (fun w => by kernel_rfl) rfl rfl) ?_
        refine VA.all (rs := [17]) (by kernel_rfl) (by decide) ?_
        refine ⟨⟨_, rfl, .inl rfl, ?_⟩, trivial⟩
        refine OpE.store (i := 3) rfl hB rfl Tryd.sizeOf27 rfl rfl rfl rfl rfl rfl (Nat.le_of_ble_eq_true rfl) (by first | exact ⟨rfl, rfl⟩ | exact .inl ⟨rfl, rfl⟩ | exact .inr ⟨rfl, rfl⟩ | exact ⟨rfl, trivial⟩ | exact .inl ⟨rfl, trivial⟩ | exact .inr ⟨rfl, trivial⟩) ?_
        refine VA.take (i := 18) rfl (by kernel_rfl) (by kernel_rfl) (by kernel_rfl) rfl rfl (OpV.move (.inr rfl) rfl) ?_
        refine VA.done (by kernel_rfl) ?_
        show VC _ _ _ _ _
        refine VC.ret ?_
        exact Exists.intro _ (And.intro (RetN.two Tryd.results7 ((by first | exact ResN.cellF (i := 0) Tryd.isAgg27 Tryd.sizeOf27 rfl rfl rfl (flat_ofB rfl) | exact ResN.cellF (i := 1) Tryd.isAgg27 Tryd.sizeOf27 rfl rfl rfl (flat_ofB rfl) | exact ResN.cellF (i := 2) Tryd.isAgg27 Tryd.sizeOf27 rfl rfl rfl (flat_ofB rfl) | exact ResN.cellF (i := 3) Tryd.isAgg27 Tryd.sizeOf27 rfl rfl rfl (flat_ofB rfl) | exact ResN.cellF (i := 4) Tryd.isAgg27 Tryd.sizeOf27 rfl rfl rfl (flat_ofB rfl) | exact ResN.cellF (i := 5) Tryd.isAgg27 Tryd.sizeOf27 rfl rfl rfl (flat_ofB rfl) | exact ResN.cellF (i := 6) Tryd.isAgg27 Tryd.sizeOf27 rfl rfl rfl (flat_ofB rfl))) (ResN.v rfl)) (by first | (rw [corrR, if_neg h0]; rfl) | (rw [corrR, if_pos h00, h00]; rfl)))
end Go.Proofs.YtgikefjbdhnffaaDoor
