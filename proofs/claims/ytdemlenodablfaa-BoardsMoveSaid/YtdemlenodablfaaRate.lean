/- The walks of line.end and line.Rate. -/
import Derived.Test.YtdemlenodablfaaLeave
import Derived.Test.YtdemlenodablfaaLowest
namespace Go.Proofs.Ytdemlenodablfaa
open Go.RowKit
set_option linter.unusedVariables false

def endT (c bf : List Int) (n : Nat) : Int := (pas c bf (n - 1) (c.length - 1)).left

set_option maxHeartbeats 400000 in
theorem end_any (v1 v2 : Value) (c bf : List Int) (m : Nat) (A1 A2 : Nat → Prop) (w : World) (h1 : IsSl w A1 v1 c) (h2 : IsSl w A2 v2 bf) (hr : RightLine c bf) (hm1 : 1 ≤ m) (hm2 : m ≤ 2000) :
    Calls Try.prog 27 #[v1, v2, .int .i64 m] w fun e w' => e = .returned (.int .i64 (endT c bf m)) ∧ Chg NoB w w' := by
  have HFL := hid (flow_any v1 v2 c bf m A1 A2 w h1 h2 hr hm2)
  have hpos := hr.pos
  have hlen := hr.len
  clear hr
  go_enter Try.func27, Try.ntmps27
  go_wp2_with fail
  refine HFL.out.mono ?_
  rintro e w2 ⟨v, rfl, hv, hc2⟩
  obtain ⟨a, cap, rfl, g1, g2⟩ := hv.shape
  obtain ⟨b, off, rfl, hb, hrows⟩ := hv.rows (by simp; omega)
  obtain ⟨vr, hcell, hrow⟩ := hrows (c.length - 1) (by simp; omega)
  obtain ⟨ar, capr, rfl, g3, g4⟩ := hrow.shape
  simp only [List.getElem_map, List.getElem_range, List.length_map, List.length_range] at hcell hrow g1 g3 ⊢
  obtain ⟨br, offr, rfl, _, hps⟩ := hrow.passes (by simp; omega)
  have p1 := (hps (m - 1) (by simp; omega)).2
  simp only [List.getElem_map, List.getElem_range] at p1
  have HE : Hid (endT c bf m = (pas c bf (m - 1) (c.length - 1)).left) := rfl
  clear hps hrows
  go_wp2_with fail
  go_ret
  exact ⟨ret_int HE.out.symm, hc2⟩

theorem endT_bd {c bf : List Int} (hr : RightLine c bf) (m : Nat) (h : m ≤ 2000) : 0 < endT c bf m ∧ endT c bf m ≤ 100000000000 := by
  have hpos := hr.pos
  have hlen := hr.len
  have hb := pas_bd hr (m - 1) (c.length - 1) (by omega)
  have hc := hr.c1 (c.length - 1) (by omega)
  unfold endT
  omega

def rateF (c bf : List Int) (n : Int) : Value := if flowF c bf n = 0 then frac n (endT c bf n.toNat) else .agg #[.int .i64 0, .int .i64 0]

set_option maxHeartbeats 400000 in
theorem rate_any (v1 v2 : Value) (c bf : List Int) (n : Int) (A1 A2 : Nat → Prop) (w : World) (h1 : IsSl w A1 v1 c) (h2 : IsSl w A2 v2 bf) :
    Calls Try.prog 9 #[v1, v2, .int .i64 n] w fun e w' => e = .returned (.tuple #[rateF c bf n, .int .i64 (flowF c bf n)]) ∧ Chg NoB w w' := by
  have HF : Hid (∀ w1, Chg NoB w w1 → _) := hid fun w1 (hc : Chg NoB w w1) => flowFault_any v1 v2 c bf n A1 A2 w1 (h1.keepN hc) (h2.keepN hc)
  by_cases hf : flowF c bf n = 0
  · obtain ⟨hr, hn1, hn2⟩ := flowF_right hf
    obtain ⟨m, rfl⟩ : ∃ m : Nat, n = m := ⟨n.toNat, by omega⟩
    have hE := endT_bd hr m (by omega)
    have HE : Hid (∀ w1, Chg NoB w w1 → _) := hid fun w1 (hc : Chg NoB w w1) => end_any v1 v2 c bf m A1 A2 w1 (h1.keepN hc) (h2.keepN hc) hr (by omega) (by omega)
    obtain ⟨E, hEq⟩ : ∃ E, E = endT c bf m := ⟨_, rfl⟩
    have HR : Hid (rateF c bf m = frac m E) := by unfold Hid; rw [rateF, if_pos hf, hEq]; simp
    rw [← hEq] at HE hE
    have hgp := gcdI_pos (a := (m : Int)) hE.1
    have HFR : Hid (∃ x y, frac m E = .agg #[.int .i64 x, .int .i64 y]) := ⟨_, _, rfl⟩
    obtain ⟨x, y, hxy⟩ := HFR.out
    have HXY := hid hxy
    rw [hf] at HF ⊢
    clear hf hr hEq hgp HFR hxy
    go_enter Try.func9, Try.ntmps9
    go_wp2_with fail
    refine (HF.out _ ((Chg.refl _ w).alloc _)).mono ?_
    rintro e w1 ⟨rfl, hc1⟩
    have hc1' : Chg NoB w w1 := ((Chg.refl _ w).alloc _).trans hc1
    have hb := (BlkC.new w #[.int .i64 0, .int .i64 0] 35).keepN hc1
    go_wp2_with fail
    refine (HE.out _ hc1').mono ?_
    rintro e w2 ⟨rfl, hc2⟩
    have hb2 := hb.keepN hc2
    go_wp2_with fail
    refine (kitLowest m E _ (by omega) (by omega) (by omega) (by omega)).mono ?_
    rintro e w3 ⟨rfl, hc3⟩
    rw [HXY.out]
    have hb3 := hb2.keepN hc3
    have hch : Chg NoB w w3 := (hc1'.trans hc2).trans hc3
    have f0 := hb3.cell 0
    have f1 := hb3.cell 1
    have f2 := hb3.froz 0
    have f3 := hb3.froz 1
    have HB := hid hb3
    clear hb hb2 hb3
    go_wp2_with fail
    have hb' : BlkC ((w3.setCell ⟨w.heap.size, 0, none⟩ (.int .i64 x)).setCell ⟨w.heap.size, 1, none⟩ (.int .i64 y)) w.heap.size #[.int .i64 x, .int .i64 y] 35 := (HB.out.set 0 _).set 1 _
    have c0 := hb'.cell 0
    have c1 := hb'.cell 1
    have hch' : Chg NoB w ((w3.setCell ⟨w.heap.size, 0, none⟩ (.int .i64 x)).setCell ⟨w.heap.size, 1, none⟩ (.int .i64 y)) :=
      (hch.setCell (a := ⟨w.heap.size, 0, none⟩) (fun x => absurd x (Nat.lt_irrefl _)) _).setCell (a := ⟨w.heap.size, 1, none⟩) (fun x => absurd x (Nat.lt_irrefl _)) _
    exact bodyPost_ret (v := .tuple #[.agg #[.int .i64 x, .int .i64 y], .int .i64 0]) (by simp [results, Try.results9, go_sem, c0, c1]) rfl ⟨by rw [HR.out, HXY.out], hch'⟩
  · have hb : (flowF c bf n != 0) = true := by simp [hf]
    have HR : Hid (rateF c bf n = .agg #[.int .i64 0, .int .i64 0]) := by unfold Hid; rw [rateF, if_neg hf]
    clear hf
    go_enter Try.func9, Try.ntmps9
    go_wp2_with fail
    refine (HF.out _ ((Chg.refl _ w).alloc _)).mono ?_
    rintro e w1 ⟨rfl, hc1⟩
    have hc1' : Chg NoB w w1 := ((Chg.refl _ w).alloc _).trans hc1
    have hb3 := (BlkC.new w #[.int .i64 0, .int .i64 0] 35).keepN hc1
    have f0 := hb3.cell 0
    have f1 := hb3.cell 1
    have f2 := hb3.froz 0
    have f3 := hb3.froz 1
    have HB := hid hb3
    clear hb3
    go_wp2_with fail
    have hb' : BlkC ((w1.setCell ⟨w.heap.size, 0, none⟩ (.int .i64 0)).setCell ⟨w.heap.size, 1, none⟩ (.int .i64 0)) w.heap.size #[.int .i64 0, .int .i64 0] 35 := (HB.out.set 0 _).set 1 _
    have c0 := hb'.cell 0
    have c1 := hb'.cell 1
    have hch' : Chg NoB w ((w1.setCell ⟨w.heap.size, 0, none⟩ (.int .i64 0)).setCell ⟨w.heap.size, 1, none⟩ (.int .i64 0)) :=
      (hc1'.setCell (a := ⟨w.heap.size, 0, none⟩) (fun x => absurd x (Nat.lt_irrefl _)) _).setCell (a := ⟨w.heap.size, 1, none⟩) (fun x => absurd x (Nat.lt_irrefl _)) _
    exact bodyPost_ret (v := .tuple #[.agg #[.int .i64 0, .int .i64 0], .int .i64 (flowF c bf n)]) (by simp [results, Try.results9, go_sem, c0, c1]) rfl ⟨by rw [HR.out], hch'⟩
end Go.Proofs.Ytdemlenodablfaa
