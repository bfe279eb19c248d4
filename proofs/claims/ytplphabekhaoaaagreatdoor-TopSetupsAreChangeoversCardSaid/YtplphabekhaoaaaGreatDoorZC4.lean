/- Part 4 of a proof: the walks and laws that it needs. -/
import Derived.Test.YtplphabekhaoaaaGreatDoorProg
import Derived.Shelf.Abstract
import Derived.Deep.QuietTactic
import Derived.BigQuiet
import Derived.BigRegion
import Derived.Deep.RegionLaw
import Derived.Deep.LoopGhost
import Derived.Deep.DeepCutAuto
import Derived.Test.YtplphabekhaoaaaGreatDoorZC3
namespace Go.Proofs.YtplphabekhaoaaaGreatDoor
open Go.RowKit
set_option linter.unusedVariables false
set_option linter.unusedSimpArgs false

theorem infoInt : (Tryz.prog.info? 3).map (fun i => (i.zero, i.size, i.bytes)) = some (some (.int .i64 0), 1, 8) := by kernel_rfl

def SmallL (n : Nat) (xs : List Int) : Prop := xs.length ≤ n ∧ ∀ x ∈ xs, -1 ≤ x ∧ x ≤ 10000001

theorem pick_mem (L : List Int) (k : Nat) (xs : List Int) (h : 0 < xs.length) : pick L k xs ∈ xs := by
 have b1 := nxt_lo L k xs.length
 have b2 := nxt_lt L k xs.length (by omega)
 unfold pick
 have hl : (nxt L k xs.length).toNat < xs.length := by omega
 simp [List.getD, hl]

def PB (p B : Nat) : Nat → Prop := fun k => k = p ∨ B ≤ k

theorem smallL_snoc {n : Nat} {xs : List Int} {x : Int} (h : SmallL n xs) (hx : -1 ≤ x ∧ x ≤ 10000001) : SmallL (n + 1) (xs ++ [x]) :=
 ⟨by simpa using h.1, fun y hy => by rcases List.mem_append.1 hy with hy | hy; exact h.2 y hy; simp at hy; subst hy; exact hx⟩
theorem smallL_set {n : Nat} {xs : List Int} {x : Int} (i : Nat) (h : SmallL n xs) (hx : -1 ≤ x ∧ x ≤ 10000001) : SmallL n (xs.set i x) :=
 ⟨by simpa using h.1, fun y hy => by rcases List.mem_or_eq_of_mem_set hy with hy | hy; exact h.2 y hy; subst hy; exact hx⟩

set_option maxHeartbeats 1000000 in
theorem line_any (p : Nat) (L : List Int) (k : Nat) (w : World) (h : Strm w p L k) (hk : k ≤ 900000) :
    Calls Tryz.prog 48 #[.pointer (some ⟨p, 0, none⟩)] w fun e w' => ∃ v1 v2 k', e = .returned (.tuple #[v1, v2]) ∧ ∃ c b, IsSl w' (fun j => w.heap.size ≤ j) v1 c ∧ IsSl w' (fun j => w.heap.size ≤ j) v2 b ∧
      SmallL 4 c ∧ SmallL 4 b ∧ Strm w' p L k' ∧ k' ≤ k + 20 ∧ Chg (AtB p) w w' := by
  have hp := h.lt
  have r1 := rng_lo L k 1 4
  have r2 := rng_hi L k 1 4 (by omega)
  obtain ⟨n, hn⟩ : ∃ n : Nat, rng L k 1 4 = n := ⟨(rng L k 1 4).toNat, by omega⟩
  have HN := hid hn
  have hn1 : 1 ≤ n := by omega
  have hn4 : n ≤ 4 := by omega
  clear r1 r2 hn
  go_enter Tryz.func48, Tryz.ntmps48
  go_wp2_with (go_at_call 49; refine (range_any _ _ _ _ _ _ h (by omega) (by omega) (by omega) (by omega)).mono ?_; rw [HN.out]; rintro e w1 ⟨rfl, hs1, hc1⟩)
  have hsz1 := hc1.size
  go_loopw [4, 8] (fun v i wr => ∃ (j : Nat) (c : List Int), j ≤ n ∧ i = .int .i64 j ∧ c.length = j ∧ SmallL j c ∧ Own wr w.heap.size 3 v c ∧ Strm wr p L (k + 1 + j) ∧ Chg (PB p w.heap.size) w wr)
    (fun _ i _ => n - (intOf i).toNat)
  case atStart => exact ⟨0, [], by omega, rfl, rfl, ⟨by simp, by simp⟩, Own.nil _ _ _, hs1, hc1.mono fun q _ x => .inl x⟩
  case round =>
    obtain ⟨j, c, hj, rfl, hcl, hsm, hown, hs, hch⟩ := hrel
    obtain ⟨a, cap, rfl, _, _⟩ := hown.shape
    have hszr := hch.size
    by_cases hjn : j < n
    · have hpm := pick_mem L (k + 1 + j) [10, 10, 15, 30, 7] (by simp)
      have hpb : -1 ≤ pick L (k + 1 + j) [10, 10, 15, 30, 7] ∧ pick L (k + 1 + j) [10, 10, 15, 30, 7] ≤ 10000001 := by
        generalize pick L (k + 1 + j) [10, 10, 15, 30, 7] = x at hpm ⊢
        simp at hpm; omega
      clear hpm
      have HPB := hid hpb; clear hpb
      have hcl4 : c.length ≤ n := by omega
      have HCL := hid hcl; clear hcl
      go_wp2_with fail
      refine (pick_any p L _ (fun q => wr.heap.size ≤ q) _ [10, 10, 15, 30, 7] _ (hs.keep ((Chg.refl NoB wr).alloc _) fun _ _ x => x) (by omega) (isSl_lit wr [10, 10, 15, 30, 7] 3 (by simp [maxLen])) (by omega) (by simp) (by simp)).mono ?_
      rintro e w2 ⟨rfl, hs2, hc2⟩
      have hc2' : Chg (AtB p) wr w2 := ((Chg.refl _ wr).alloc _).trans hc2
      have hown2 := hown.keep hc2' (fun q h1 h2 h3 => by unfold AtB at h3; omega)
      have hsz2 := hc2'.size
      go_wp2_with (at_builtin; go_loud (refine wpl_append_int w2 rfl _ _ 22 3 rfl Tryz.underlying22 infoInt w.heap.size _ c _ hown2 (by omega) (by omega) rfl rfl ?_); intro g cap' w3 hown3 hc3 hg3 hlg)
      have hc13 : Chg (PB p w.heap.size) w w3 := (hch.trans (hc2'.mono fun q _ x => .inl x)).trans (hc3.mono fun q hq x => .inr (hown2.lt q x).1)
      have hs3 : Strm w3 p L (k + 1 + (j + 1)) := hs2.keep hc3 fun q hq x => by have := (hown2.lt q x).1; omega
      go_roundw
      case rel => exact ⟨j + 1, c ++ [pick L (k + 1 + j) [10, 10, 15, 30, 7]], by omega, by go_num, by rw [List.length_append, HCL.out]; rfl, smallL_snoc hsm HPB.out, hown3, hs3, hc13⟩
      case measure => simp [intOf]; omega
    · obtain rfl : j = n := by omega
      have hcl1 : 1 ≤ c.length := by omega
      have hcl4 : c.length ≤ 4 := by omega
      have hsm4 : SmallL 4 c := ⟨hcl4, hsm.2⟩
      clear hcl hsm hj
      have hcb0 := hown.lt
      obtain ⟨w2, rfl⟩ : ∃ w2 : World, w2 = wr := ⟨_, rfl⟩
      have hp2 : p < w2.heap.size := hs.lt
      go_wp2_with fail
      go_loopw [5, 20] (fun v i wr => ∃ (q : Nat) (b : List Int), q + 1 ≤ c.length ∧ i = .int .i64 q ∧ b.length ≤ q ∧ SmallL q b ∧ Own wr w2.heap.size 3 v b ∧ Strm wr p L (k + 1 + j + q) ∧ Chg (PB p w2.heap.size) w2 wr)
        (fun _ i _ => c.length - (intOf i).toNat)
      case atStart => exact ⟨0, [], by omega, rfl, by simp, ⟨by simp, by simp⟩, Own.nil _ _ _, hs, Chg.refl _ _⟩
      case round =>
        obtain ⟨q, b, hq, rfl, hbl, hbsm, hbown, hbs, hbch⟩ := hrel
        obtain ⟨ab, capb, rfl, _, _⟩ := hbown.shape
        have hszb := hbch.size
        by_cases hqm : q + 1 < c.length
        · have hpm := pick_mem L (k + 1 + j + q) [0, 0, 1, 2] (by simp)
          have hpb : -1 ≤ pick L (k + 1 + j + q) [0, 0, 1, 2] ∧ pick L (k + 1 + j + q) [0, 0, 1, 2] ≤ 10000001 := by
            generalize pick L (k + 1 + j + q) [0, 0, 1, 2] = x at hpm ⊢
            simp at hpm; omega
          clear hpm
          have HPB := hid hpb; clear hpb
          go_wp2_with fail
          refine (pick_any p L _ (fun q => wr.heap.size ≤ q) _ [0, 0, 1, 2] _ (hbs.keep ((Chg.refl NoB wr).alloc _) fun _ _ x => x) (by omega) (isSl_lit wr [0, 0, 1, 2] 3 (by simp [maxLen])) (by omega) (by simp) (by simp)).mono ?_
          rintro e w3 ⟨rfl, hs3, hc3⟩
          have hc3' : Chg (AtB p) wr w3 := ((Chg.refl _ wr).alloc _).trans hc3
          have hbown3 := hbown.keep hc3' (fun q h1 h2 h3 => by unfold AtB at h3; omega)
          have hsz3 := hc3'.size
          go_wp2_with (at_builtin; refine wpl_append_int w3 rfl _ _ 22 3 rfl Tryz.underlying22 infoInt w2.heap.size _ b _ hbown3 (by omega) (by omega) rfl rfl ?_; intro g cap' w4 hown4 hc4 hg4 hlg)
          have hc14 : Chg (PB p w2.heap.size) w2 w4 := (hbch.trans (hc3'.mono fun q _ x => .inl x)).trans (hc4.mono fun q hq x => .inr (hbown3.lt q x).1)
          have hs4 : Strm w4 p L (k + 1 + j + (q + 1)) := hs3.keep hc4 fun q hq x => by have := (hbown3.lt q x).1; omega
          go_roundw
          case rel => exact ⟨q + 1, b ++ [pick L (k + 1 + j + q) [0, 0, 1, 2]], by omega, by go_num, by simp; omega, smallL_snoc hbsm HPB.out, hown4, hs4, hc14⟩
          case measure => simp [intOf]; omega
        · have hcb : ∀ q, (Value.slice a c.length cap).ownBlock = some q → q < w2.heap.size := fun q hq => (hcb0 q hq).2
          have hp3 : p < wr.heap.size := hbs.lt
          have hcw : Own wr w.heap.size 3 _ c := hown.keep hbch fun q h1 h2 h3 => by unfold PB at h3; omega
          have hchw : Chg (PB p w.heap.size) w wr := hch.trans (hbch.mono fun q _ x => x.imp id fun y => by omega)
          obtain ⟨k3, hk3⟩ : ∃ k3, k3 = k + 1 + j + q := ⟨_, rfl⟩
          have hk3' : k3 ≤ k + 8 := by omega
          rw [← hk3] at hbs
          have hb4 : b.length ≤ 4 := by omega
          have hbsm4 : SmallL 4 b := ⟨hb4, hbsm.2⟩
          have hbsm3 : SmallL 3 b := ⟨by omega, hbsm.2⟩
          clear hk3 hbsm hbl hs hown hch hbch
          go_wp2_with fail
          refine (flip_any p L _ _ _ hbs (by omega) (by omega)).mono ?_
          rintro e w3 ⟨rfl, hs3, hc3⟩
          have hc3s := hc3.size
          have hcw3 := hcw.keep hc3 fun q h1 h2 h3 => by unfold AtB at h3; omega
          have hbw3 := hbown.keep hc3 fun q h1 h2 h3 => by unfold AtB at h3; omega
          have hchw3 : Chg (PB p w.heap.size) w w3 := hchw.trans (hc3.mono fun q _ x => .inl x)
          clear hcw hbown hchw hc3 hbs
          generalize (nxt L k3 12 == 0) = f
          cases f
          · go_wp2_with fail
            refine (flip_any p L _ _ _ hs3 (by omega) (by omega)).mono ?_
            rintro e w9 ⟨rfl, hs9, hc9⟩
            have hcw9 := (hcw3).keep hc9 fun q h1 h2 h3 => by unfold AtB at h3; omega
            have hbw9 := (hbw3).keep hc9 fun q h1 h2 h3 => by unfold AtB at h3; omega
            have hchw9 : Chg (AtB p) w w9 := (hchw3).mono (fun q hq x => by unfold PB at x; unfold AtB; omega) |>.trans hc9
            generalize (nxt L (k3 + 1) 60 == 0) = f9
            cases f9
            · go_wp2_with fail
              go_ret2
              exact ⟨_, _, _, rfl, _, _, hcw9.isSl, hbw9.isSl.low fun q hq _ => by omega, hsm4, hbsm4, hs9, by omega, hchw9⟩
            · go_wp2_with fail
              go_ret2
              exact ⟨_, _, _, rfl, [], [], IsSl.nil _ _, IsSl.nil _ _, ⟨by simp, by simp⟩, ⟨by simp, by simp⟩, hs9, by omega, hchw9⟩
          · go_wp2_with fail
            refine (next_any p L _ _ _ hs3 (by omega) (by omega)).mono ?_
            rintro e w4 ⟨rfl, hs4, hc4⟩
            have hc4s := hc4.size
            have hcw4 := hcw3.keep hc4 fun q h1 h2 h3 => by unfold AtB at h3; omega
            have hbw4 := hbw3.keep hc4 fun q h1 h2 h3 => by unfold AtB at h3; omega
            have hchw4 : Chg (PB p w.heap.size) w w4 := hchw3.trans (hc4.mono fun q _ x => .inl x)
            have b1 := nxt_lo L (k3 + 1) 3
            have b2 := nxt_lt L (k3 + 1) 3 (by omega)
            generalize nxt L (k3 + 1) 3 = r at b1 b2 ⊢
            clear hcw3 hbw3 hchw3 hc4 hs3
            rcases (show r = 0 ∨ r = 1 ∨ r = 2 by omega) with rfl | rfl | rfl
            · have hlen : 0 < c.length := by omega
              go_wp2_with fail
              refine (next_any p L _ _ _ hs4 (by omega) (by omega)).mono ?_
              rintro e w5 ⟨rfl, hs5, hc5⟩
              have hc5s := hc5.size
              have hcw5 := hcw4.keep hc5 fun q h1 h2 h3 => by unfold AtB at h3; omega
              have hbw5 := hbw4.keep hc5 fun q h1 h2 h3 => by unfold AtB at h3; omega
              have hchw5 : Chg (PB p w.heap.size) w w5 := hchw4.trans (hc5.mono fun q _ x => .inl x)
              have d1 := nxt_lo L (k3 + 1 + 1) (c.length : Int)
              have d2 := nxt_lt L (k3 + 1 + 1) (c.length : Int) (by omega)
              obtain ⟨t, ht⟩ : ∃ t : Nat, nxt L (k3 + 1 + 1) (c.length : Int) = t := ⟨(nxt L (k3 + 1 + 1) (c.length : Int)).toNat, by omega⟩
              rw [ht] at d1 d2 ⊢
              clear hcw4 hbw4 hchw4 hc5 hs4 ht
              go_wp2_with fail
              refine (pick_any p L _ (fun q => w5.heap.size ≤ q) _ [0, -1, 10000000, 10000001] _ (hs5.keep ((Chg.refl NoB w5).alloc _) fun _ _ x => x) (by omega) (isSl_lit w5 [0, -1, 10000000, 10000001] 3 (by simp [maxLen])) (by omega) (by simp) (by simp)).mono ?_
              rintro e w6 ⟨rfl, hs6, hc6⟩
              have hc6' : Chg (AtB p) w5 w6 := ((Chg.refl _ w5).alloc _).trans hc6
              have hc6s := hc6'.size
              have hcw6 := hcw5.keep hc6' fun q h1 h2 h3 => by unfold AtB at h3; omega
              have hbw6 := hbw5.keep hc6' fun q h1 h2 h3 => by unfold AtB at h3; omega
              have hchw6 : Chg (PB p w.heap.size) w w6 := hchw5.trans (hc6'.mono fun q _ x => .inl x)
              clear hcw5 hbw5 hchw5 hc6 hc6' hs5
              have htl : t < c.length := by omega
              obtain ⟨g, rfl, hg1, hg2⟩ := hcw6.head (by omega)
              have hcell := hcw6.icell t htl
              have hfr := hcw6.froz t
              have hpk := pick_mem L (k3 + 1 + 1 + 1) [0, -1, 10000000, 10000001] (by simp)
              have hpb : -1 ≤ (pick L (k3 + 1 + 1 + 1) [0, -1, 10000000, 10000001]) ∧ (pick L (k3 + 1 + 1 + 1) [0, -1, 10000000, 10000001]) ≤ 10000001 := by
                generalize (pick L (k3 + 1 + 1 + 1) [0, -1, 10000000, 10000001]) = x at hpk ⊢
                simp at hpk; omega
              have hst : Chg (AtB g) w6 (w6.setCell ⟨g, t, none⟩ (.int .i64 (pick L (k3 + 1 + 1 + 1) [0, -1, 10000000, 10000001]))) := Chg.setAt _ _ _ _
              have HT := hcw6.set t htl (pick L (k3 + 1 + 1 + 1) [0, -1, 10000000, 10000001])
              have HO := hbw6.keepF hst fun q hq x => by unfold AtB at x; have := (hbw6.lt q hq).1; have := hcb g rfl; omega
              have hs7 := hs6.keep hst fun q hq x => by unfold AtB at x; omega
              have hchw7 : Chg (PB p w.heap.size) w _ := hchw6.trans (hst.mono fun q _ x => by unfold AtB at x; exact .inr (by omega))
              have HPB := hid hpb
              clear hpk hpb hcw6 hbw6 hchw6 hs6 hst
              go_wp2_with fail
              refine (flip_any p L _ _ _ hs7 (by omega) (by omega)).mono ?_
              rintro e w9 ⟨rfl, hs9, hc9⟩
              have hcw9 := (HT).keep hc9 fun q h1 h2 h3 => by unfold AtB at h3; omega
              have hbw9 := (HO).keep hc9 fun q h1 h2 h3 => by unfold AtB at h3; omega
              have hchw9 : Chg (AtB p) w w9 := (hchw7).mono (fun q hq x => by unfold PB at x; unfold AtB; omega) |>.trans hc9
              generalize (nxt L (k3 + 1 + 1 + 1 + 1) 60 == 0) = f9
              cases f9
              · go_wp2_with fail
                go_ret2
                exact ⟨_, _, _, rfl, _, _, hcw9.isSl, hbw9.isSl.low fun q hq _ => by omega, smallL_set t hsm4 HPB.out, hbsm4, hs9, by omega, hchw9⟩
              · go_wp2_with fail
                go_ret2
                exact ⟨_, _, _, rfl, [], [], IsSl.nil _ _, IsSl.nil _ _, ⟨by simp, by simp⟩, ⟨by simp, by simp⟩, hs9, by omega, hchw9⟩
            · go_wp2_with fail
              refine (pick_any p L _ (fun q => w4.heap.size ≤ q) _ [0, -1] _ (hs4.keep ((Chg.refl NoB w4).alloc _) fun _ _ x => x) (by omega) (isSl_lit w4 [0, -1] 3 (by simp [maxLen])) (by omega) (by simp) (by simp)).mono ?_
              rintro e w6 ⟨rfl, hs6, hc6⟩
              have hc6' : Chg (AtB p) w4 w6 := ((Chg.refl _ w4).alloc _).trans hc6
              have hc6s := hc6'.size
              have hcw6 := hcw4.keep hc6' fun q h1 h2 h3 => by unfold AtB at h3; omega
              have hbw6 := hbw4.keep hc6' fun q h1 h2 h3 => by unfold AtB at h3; omega
              have hchw6 : Chg (PB p w.heap.size) w w6 := hchw4.trans (hc6'.mono fun q _ x => .inl x)
              have hpk := pick_mem L (k3 + 1 + 1) [0, -1] (by simp)
              have hpb : -1 ≤ pick L (k3 + 1 + 1) [0, -1] ∧ pick L (k3 + 1 + 1) [0, -1] ≤ 10000001 := by
                generalize pick L (k3 + 1 + 1) [0, -1] = x at hpk ⊢
                simp at hpk; omega
              have HPB := hid hpb
              clear hpk hpb hcw4 hbw4 hchw4 hc6 hc6' hs4
              go_wp2_with (at_builtin; refine wpl_append_int w6 rfl _ _ 22 3 rfl Tryz.underlying22 infoInt w2.heap.size _ b _ hbw6 (by omega) (by omega) rfl rfl ?_; intro g cap' w7 HT hst hg4 hlg)
              have hst' : Chg (NewB w2.heap.size) w6 w7 := hst.mono fun q hq x => (hbw6.lt q x).1
              have hst7 := hst.size
              have HO := hcw6.keepF hst' fun q hq x => by unfold NewB at x; have := hcb q hq; omega
              have hs7 := hs6.keep hst' fun q hq x => by unfold NewB at x; omega
              have hchw7 : Chg (PB p w.heap.size) w w7 := hchw6.trans (hst'.mono fun q _ x => by unfold NewB at x; exact .inr (by omega))
              clear hcw6 hbw6 hchw6 hs6 hst hst'
              refine (flip_any p L _ _ _ hs7 (by omega) (by omega)).mono ?_
              rintro e w9 ⟨rfl, hs9, hc9⟩
              have hcw9 := (HO).keep hc9 fun q h1 h2 h3 => by unfold AtB at h3; omega
              have hbw9 := (HT).keep hc9 fun q h1 h2 h3 => by unfold AtB at h3; omega
              have hchw9 : Chg (AtB p) w w9 := (hchw7).mono (fun q hq x => by unfold PB at x; unfold AtB; omega) |>.trans hc9
              generalize (nxt L (k3 + 1 + 1 + 1) 60 == 0) = f9
              cases f9
              · go_wp2_with fail
                go_ret2
                exact ⟨_, _, _, rfl, _, _, hcw9.isSl, hbw9.isSl.low fun q hq _ => by omega, hsm4, smallL_snoc hbsm3 HPB.out, hs9, by omega, hchw9⟩
              · go_wp2_with fail
                go_ret2
                exact ⟨_, _, _, rfl, [], [], IsSl.nil _ _, IsSl.nil _ _, ⟨by simp, by simp⟩, ⟨by simp, by simp⟩, hs9, by omega, hchw9⟩
            · by_cases hbl : 0 < b.length
              · go_wp2_with fail
                refine (next_any p L _ _ _ hs4 (by omega) (by omega)).mono ?_
                rintro e w5 ⟨rfl, hs5, hc5⟩
                have hc5s := hc5.size
                have hcw5 := hcw4.keep hc5 fun q h1 h2 h3 => by unfold AtB at h3; omega
                have hbw5 := hbw4.keep hc5 fun q h1 h2 h3 => by unfold AtB at h3; omega
                have hchw5 : Chg (PB p w.heap.size) w w5 := hchw4.trans (hc5.mono fun q _ x => .inl x)
                have d1 := nxt_lo L (k3 + 1 + 1) (b.length : Int)
                have d2 := nxt_lt L (k3 + 1 + 1) (b.length : Int) (by omega)
                obtain ⟨t, ht⟩ : ∃ t : Nat, nxt L (k3 + 1 + 1) (b.length : Int) = t := ⟨(nxt L (k3 + 1 + 1) (b.length : Int)).toNat, by omega⟩
                rw [ht] at d1 d2 ⊢
                clear hcw4 hbw4 hchw4 hc5 hs4 ht
                go_wp2_with fail
                refine (pick_any p L _ (fun q => w5.heap.size ≤ q) _ [-1, 2000, 2001] _ (hs5.keep ((Chg.refl NoB w5).alloc _) fun _ _ x => x) (by omega) (isSl_lit w5 [-1, 2000, 2001] 3 (by simp [maxLen])) (by omega) (by simp) (by simp)).mono ?_
                rintro e w6 ⟨rfl, hs6, hc6⟩
                have hc6' : Chg (AtB p) w5 w6 := ((Chg.refl _ w5).alloc _).trans hc6
                have hc6s := hc6'.size
                have hcw6 := hcw5.keep hc6' fun q h1 h2 h3 => by unfold AtB at h3; omega
                have hbw6 := hbw5.keep hc6' fun q h1 h2 h3 => by unfold AtB at h3; omega
                have hchw6 : Chg (PB p w.heap.size) w w6 := hchw5.trans (hc6'.mono fun q _ x => .inl x)
                clear hcw5 hbw5 hchw5 hc6 hc6' hs5
                have htl : t < b.length := by omega
                obtain ⟨g, rfl, hg1, hg2⟩ := hbw6.head (by omega)
                have hcell := hbw6.icell t htl
                have hfr := hbw6.froz t
                have hpk := pick_mem L (k3 + 1 + 1 + 1) [-1, 2000, 2001] (by simp)
                have hpb : -1 ≤ (pick L (k3 + 1 + 1 + 1) [-1, 2000, 2001]) ∧ (pick L (k3 + 1 + 1 + 1) [-1, 2000, 2001]) ≤ 10000001 := by
                  generalize (pick L (k3 + 1 + 1 + 1) [-1, 2000, 2001]) = x at hpk ⊢
                  simp at hpk; omega
                have hst : Chg (AtB g) w6 (w6.setCell ⟨g, t, none⟩ (.int .i64 (pick L (k3 + 1 + 1 + 1) [-1, 2000, 2001]))) := Chg.setAt _ _ _ _
                have HT := hbw6.set t htl (pick L (k3 + 1 + 1 + 1) [-1, 2000, 2001])
                have HO := hcw6.keepF hst fun q hq x => by unfold AtB at x; have := hcb q hq; omega
                have hs7 := hs6.keep hst fun q hq x => by unfold AtB at x; omega
                have hchw7 : Chg (PB p w.heap.size) w _ := hchw6.trans (hst.mono fun q _ x => by unfold AtB at x; exact .inr (by omega))
                have HPB := hid hpb
                clear hpk hpb hcw6 hbw6 hchw6 hs6 hst
                go_wp2_with fail
                refine (flip_any p L _ _ _ hs7 (by omega) (by omega)).mono ?_
                rintro e w9 ⟨rfl, hs9, hc9⟩
                have hcw9 := (HO).keep hc9 fun q h1 h2 h3 => by unfold AtB at h3; omega
                have hbw9 := (HT).keep hc9 fun q h1 h2 h3 => by unfold AtB at h3; omega
                have hchw9 : Chg (AtB p) w w9 := (hchw7).mono (fun q hq x => by unfold PB at x; unfold AtB; omega) |>.trans hc9
                generalize (nxt L (k3 + 1 + 1 + 1 + 1) 60 == 0) = f9
                cases f9
                · go_wp2_with fail
                  go_ret2
                  exact ⟨_, _, _, rfl, _, _, hcw9.isSl, hbw9.isSl.low fun q hq _ => by omega, hsm4, smallL_set t hbsm4 HPB.out, hs9, by omega, hchw9⟩
                · go_wp2_with fail
                  go_ret2
                  exact ⟨_, _, _, rfl, [], [], IsSl.nil _ _, IsSl.nil _ _, ⟨by simp, by simp⟩, ⟨by simp, by simp⟩, hs9, by omega, hchw9⟩
              · go_wp2_with fail
                refine (flip_any p L _ _ _ hs4 (by omega) (by omega)).mono ?_
                rintro e w9 ⟨rfl, hs9, hc9⟩
                have hcw9 := (hcw4).keep hc9 fun q h1 h2 h3 => by unfold AtB at h3; omega
                have hbw9 := (hbw4).keep hc9 fun q h1 h2 h3 => by unfold AtB at h3; omega
                have hchw9 : Chg (AtB p) w w9 := (hchw4).mono (fun q hq x => by unfold PB at x; unfold AtB; omega) |>.trans hc9
                generalize (nxt L (k3 + 1 + 1) 60 == 0) = f9
                cases f9
                · go_wp2_with fail
                  go_ret2
                  exact ⟨_, _, _, rfl, _, _, hcw9.isSl, hbw9.isSl.low fun q hq _ => by omega, hsm4, hbsm4, hs9, by omega, hchw9⟩
                · go_wp2_with fail
                  go_ret2
                  exact ⟨_, _, _, rfl, [], [], IsSl.nil _ _, IsSl.nil _ _, ⟨by simp, by simp⟩, ⟨by simp, by simp⟩, hs9, by omega, hchw9⟩
end Go.Proofs.YtplphabekhaoaaaGreatDoor
namespace Go.Proofs.YtplphabekhaoaaaGreatDoor
set_option linter.unusedVariables false
set_option linter.unusedSimpArgs false

structure Pass where
 taken : Int
 left : Int

instance : Enc Pass where
 sz := 2
 Is _ _ p f := f 0 = some (.int .i64 p.taken) ∧ f 1 = some (.int .i64 p.left)
 keep h _ _ := h
 low h _ := h
 ext h e := ⟨(e 0 (by omega)) ▸ h.1, (e 1 (by omega)) ▸ h.2⟩
 one h j hj := by
  rcases (show j = 0 ∨ j = 1 by omega) with rfl | rfl
  ·exact ⟨_, h.1, rfl⟩
  ·exact ⟨_, h.2, rfl⟩
 pos := by omega
instance : Flat Pass := ⟨fun h => h⟩

def at' (l : List Int) (k : Nat) : Int := l.getD k 0

def pas (c bf : List Int) (b k : Nat) : Pass :=
  let here : Int := if hk : k = 0 then 0 else (pas c bf b (k - 1)).left
  let taken : Int := if hb : b = 0 then here else max here (pas c bf (b - 1) k).left
  let left : Int := taken + at' c k
  ⟨taken, if k + 1 < c.length then
      (if at' bf k = 0 then (if hb : b = 0 then left else max left (pas c bf (b - 1) (k + 1)).left)
       else if hr : 0 < at' bf k ∧ at' bf k ≤ b then max left (pas c bf (b - (at' bf k).toNat) (k + 1)).taken else left)
    else left⟩
termination_by (b, k)
decreasing_by
  all_goals simp_wf
  all_goals first
    | (apply Prod.Lex.right; omega)
    | (apply Prod.Lex.left; omega)

def here (c bf : List Int) (b k : Nat) : Int := if k = 0 then 0 else (pas c bf b (k - 1)).left

theorem pas_taken (c bf : List Int) (b k : Nat) : (pas c bf b k).taken = if b = 0 then here c bf b k else max (here c bf b k) (pas c bf (b - 1) k).left := by
 rw [pas]; simp only [here]; split <;> simp_all
theorem pas_left (c bf : List Int) (b k : Nat) : (pas c bf b k).left =
    if k + 1 < c.length then
      (if at' bf k = 0 then (if b = 0 then (pas c bf b k).taken + at' c k else max ((pas c bf b k).taken + at' c k) (pas c bf (b - 1) (k + 1)).left)
       else if 0 < at' bf k ∧ at' bf k ≤ b then max ((pas c bf b k).taken + at' c k) (pas c bf (b - (at' bf k).toNat) (k + 1)).taken else (pas c bf b k).taken + at' c k)
    else (pas c bf b k).taken + at' c k := by
  conv => lhs; rw [pas]
  conv => rhs; rw [pas_taken]
  simp only [here]
  repeat' split
  all_goals simp_all

structure RightLine (c bf : List Int) : Prop where
 len : c.length ≤ 6
 pos : 0 < c.length
 c1 : ∀ k, k < c.length → 1 ≤ at' c k ∧ at' c k ≤ 10000000
 b0 : ∀ k, 0 ≤ at' bf k
 bl : bf.length + 1 = c.length

theorem pas_bd {c bf : List Int} (h : RightLine c bf) (b : Nat) : ∀ k, k < c.length →
  0 ≤ (pas c bf b k).taken ∧ (pas c bf b k).taken + at' c k ≤ (pas c bf b k).left ∧ (pas c bf b k).left ≤ 10000000 * (b + k + 1) := by
 induction b using Nat.strongRecOn with
 | _ b ihb =>
  intro k
  induction k with
  | zero =>
   intro hk
   have hc := h.c1 0 hk
   have ht := pas_taken c bf b 0
   have hl := pas_left c bf b 0
   have hh : here c bf b 0 = 0 := by simp [here]
   rw [hh] at ht
   have h1 : 0 < b → _ := fun hb => ihb (b - 1) (by omega) 0 hk
   have h2 : 0 < b → 1 < c.length → _ := fun hb hk1 => ihb (b - 1) (by omega) 1 hk1
   have h3 : 0 < at' bf 0 ∧ at' bf 0 ≤ b → 1 < c.length → _ := fun hb hk1 => ihb (b - (at' bf 0).toNat) (by omega) 1 hk1
   have hc1 := h.c1 1
   split at ht <;> (split at hl <;> (try split at hl) <;> (try split at hl)) <;> grind
  | succ k ihk =>
   intro hk
   have hc := h.c1 (k + 1) hk
   have hcp := h.c1 k (by omega)
   have hp := ihk (by omega)
   have ht := pas_taken c bf b (k + 1)
   have hl := pas_left c bf b (k + 1)
   have hh : here c bf b (k + 1) = (pas c bf b k).left := by simp [here]
   rw [hh] at ht
   have h1 : 0 < b → _ := fun hb => ihb (b - 1) (by omega) (k + 1) hk
   have h2 : 0 < b → k + 2 < c.length → _ := fun hb hk1 => ihb (b - 1) (by omega) (k + 2) hk1
   have h3 : 0 < at' bf (k + 1) ∧ at' bf (k + 1) ≤ b → k + 2 < c.length → _ := fun hb hk1 => ihb (b - (at' bf (k + 1)).toNat) (by omega) (k + 2) hk1
   have hc1 := h.c1 (k + 2)
   split at ht <;> (split at hl <;> (try split at hl) <;> (try split at hl)) <;> grind

def mov (c bf : List Int) (b k : Nat) : Pass :=
 let t0 : Int := if hb : b = 0 then 0 else (mov c bf (b - 1) k).left
 let taken : Int := if hk : k = 0 then t0 else max t0 (mov c bf b (k - 1)).left
 let left : Int := taken + at' c k
 ⟨taken, if h : k + 1 < c.length ∧ 0 ≤ at' bf k ∧ at' bf k < b then max left (mov c bf (b - (at' bf k).toNat - 1) (k + 1)).left else left⟩
termination_by (b, k)
decreasing_by
 all_goals simp_wf
 all_goals first
  | (apply Prod.Lex.right; omega)
  | (apply Prod.Lex.left; omega)

theorem mov_taken (c bf : List Int) (b k : Nat) : (mov c bf b k).taken =
  if k = 0 then (if b = 0 then 0 else (mov c bf (b - 1) k).left) else max (if b = 0 then 0 else (mov c bf (b - 1) k).left) (mov c bf b (k - 1)).left := by
 rw [mov]; simp only; split <;> simp_all
theorem mov_left (c bf : List Int) (b k : Nat) : (mov c bf b k).left =
  if k + 1 < c.length ∧ 0 ≤ at' bf k ∧ at' bf k < b then max ((mov c bf b k).taken + at' c k) (mov c bf (b - (at' bf k).toNat - 1) (k + 1)).left else (mov c bf b k).taken + at' c k := by
 conv => lhs; rw [mov]
 conv => rhs; rw [mov_taken]
 simp only
 repeat' split
 all_goals simp_all

theorem pas_up {c bf : List Int} (h : RightLine c bf) (k : Nat) (hk : k < c.length) (b b' : Nat) (hb : b ≤ b') : (pas c bf b k).left ≤ (pas c bf b' k).left := by
  induction b' with
  | zero => obtain rfl : b = 0 := by omega
            omega
  | succ n ih =>
    by_cases hbn : b = n + 1
    · subst hbn; omega
    · have h1 := ih (by omega)
      have h2 := pas_taken c bf (n + 1) k
      have h3 := pas_bd h (n + 1) k hk
      have h4 := h.c1 k hk
      simp only [Nat.add_sub_cancel, Nat.add_eq_zero_iff, Nat.one_ne_zero, and_false, if_false] at h2
      omega

theorem pas_mov_left {c bf : List Int} (h : RightLine c bf) (b k : Nat) (hk : k < c.length) (e1 : (pas c bf b k).taken = (mov c bf b k).taken)
  (ih : ∀ b', b' < b → ∀ k, k < c.length → (pas c bf b' k).left = (mov c bf b' k).left) : (pas c bf b k).left = (mov c bf b k).left := by
 have hl := pas_left c bf b k
 have hm := mov_left c bf b k
 have h0 := h.b0 k
 have hc := h.c1 k hk
 by_cases hk1 : k + 1 < c.length
 ·by_cases hr : at' bf k = 0
  ·by_cases hb : b = 0
   ·rw [if_pos hk1, if_pos hr, if_pos hb] at hl
    rw [if_neg (by omega)] at hm
    omega
   ·rw [if_pos hk1, if_pos hr, if_neg hb] at hl
    rw [if_pos ⟨hk1, h0, by omega⟩, hr] at hm
    simp only [Int.toNat_zero, Nat.sub_zero] at hm
    rw [hl, hm, e1, ih (b - 1) (by omega) (k + 1) hk1]
  ·by_cases hrb : at' bf k ≤ b
   ·rw [if_pos hk1, if_neg hr, if_pos ⟨by omega, hrb⟩] at hl
    have ht := pas_taken c bf (b - (at' bf k).toNat) (k + 1)
    have hh : here c bf (b - (at' bf k).toNat) (k + 1) = (pas c bf (b - (at' bf k).toNat) k).left := by simp [here]
    rw [hh] at ht
    have hup := pas_up h k hk (b - (at' bf k).toNat) (b - 1) (by omega)
    have htk := pas_taken c bf b k
    rw [if_neg (by omega)] at htk
    by_cases hbe : at' bf k < b
    ·rw [if_pos ⟨hk1, h0, hbe⟩] at hm
     rw [if_neg (by omega)] at ht
     have := ih (b - (at' bf k).toNat - 1) (by omega) (k + 1) hk1
     rw [hl, hm, ht, this, e1]
     omega
    ·rw [if_neg (by omega)] at hm
     rw [if_pos (by omega)] at ht
     rw [hl, hm, ht]
     omega
   ·rw [if_pos hk1, if_neg hr, if_neg (by omega)] at hl
    rw [if_neg (by omega)] at hm
    omega
 ·rw [if_neg hk1] at hl
  rw [if_neg (by omega)] at hm
  omega

theorem pas_mov {c bf : List Int} (h : RightLine c bf) (b : Nat) : ∀ k, k < c.length → (pas c bf b k).taken = (mov c bf b k).taken ∧ (pas c bf b k).left = (mov c bf b k).left := by
 induction b using Nat.strongRecOn with
 | _ b ihb =>
  intro k
  induction k with
  | zero =>
   intro hk
   have ht := pas_taken c bf b 0
   have hm := mov_taken c bf b 0
   have hh : here c bf b 0 = 0 := by simp [here]
   rw [hh] at ht
   have h1 : 0 < b → _ := fun hb => ihb (b - 1) (by omega) 0 hk
   have hbd := pas_bd h (b - 1) 0 hk
   have hc := h.c1 0 hk
   have e1 : (pas c bf b 0).taken = (mov c bf b 0).taken := by grind
   exact ⟨e1, pas_mov_left h b 0 hk e1 fun b' hb' k hk => (ihb b' hb' k hk).2⟩
  | succ k ihk =>
   intro hk
   have ht := pas_taken c bf b (k + 1)
   have hm := mov_taken c bf b (k + 1)
   have hh : here c bf b (k + 1) = (pas c bf b k).left := by simp [here]
   rw [hh, (ihk (by omega)).2] at ht
   have h1 : 0 < b → _ := fun hb => ihb (b - 1) (by omega) (k + 1) hk
   have hbd := pas_bd h b k (by omega)
   have hc := h.c1 k (by omega)
   have e1 : (pas c bf b (k + 1)).taken = (mov c bf b (k + 1)).taken := by
    rw [if_neg (by omega)] at hm
    simp only [Nat.add_sub_cancel] at hm
    by_cases hb : b = 0
    ·subst hb
     simp only [if_true] at ht hm
     have := ihk (by omega)
     omega
    ·rw [if_neg hb] at ht hm
     have := h1 (by omega)
     omega
   exact ⟨e1, pas_mov_left h b (k + 1) hk e1 fun b' hb' k hk => (ihb b' hb' k hk).2⟩
end Go.Proofs.YtplphabekhaoaaaGreatDoor
namespace Go.Proofs.YtplphabekhaoaaaGreatDoor
open Go.RowKit
set_option linter.unusedVariables false
set_option linter.unusedSimpArgs false

def PredI (F : FuncId) (caps : Array Value) (pr : Int → Bool) (w : World) (xs : List Int) : Prop :=
 (∀ args w, (callFunc F args).run Tryz.prog w = .ok (.enter F args) w) ∧
 ∀ x ∈ xs, ∀ w1, Chg NoB w w1 → Calls Tryz.prog F (#[.int .i64 x] ++ caps) w1 fun e w2 => e = .returned (.bool (pr x)) ∧ Chg NoB w1 w2

def idx {α : Type} (pr : α → Bool) (xs : List α) : Int := match xs.findIdx? pr with
 | some i => i
 | none => -1

theorem idx_none {α : Type} {pr : α → Bool} {xs : List α} (h : ∀ j, (hj : j < xs.length) → pr xs[j] = false) : idx pr xs = -1 := by
 have : xs.findIdx? pr = none := by
  rw [List.findIdx?_eq_none_iff]
  intro x hx
  obtain ⟨j, hj, rfl⟩ := List.mem_iff_getElem.1 hx
  exact h j hj
 rw [idx, this]
theorem idx_some {α : Type} {pr : α → Bool} {xs : List α} {i : Nat} (hi : i < xs.length) (hp : pr xs[i] = true) (h : ∀ j, (hj : j < i) → pr (xs[j]'(by omega)) = false) : idx pr xs = i := by
 have : xs.findIdx? pr = some i := by
  rw [List.findIdx?_eq_some_iff_getElem]
  exact ⟨hi, hp, fun j hj => by simp [h j hj]⟩
 rw [idx, this]
theorem idx_any {α : Type} (pr : α → Bool) (xs : List α) : decide (0 ≤ idx pr xs) = xs.any pr := by
 unfold idx
 cases h : xs.findIdx? pr with
 | none =>
  rw [List.findIdx?_eq_none_iff] at h
  symm
  simp [List.any_eq_false]
  intro x hx
  simp [h x hx]
 | some i =>
  rw [List.findIdx?_eq_some_iff_getElem] at h
  obtain ⟨hi, hp, _⟩ := h
  symm
  simp only [Int.natCast_nonneg, decide_true, List.any_eq_true]
  exact ⟨xs[i], List.getElem_mem _, hp⟩

set_option maxHeartbeats 400000 in
theorem indexFuncI (v : Value) (xs : List Int) (F : FuncId) (caps : Array Value) (pr : Int → Bool) (A : Nat → Prop) (w : World) (hv : IsSl w A v xs) (hF : PredI F caps pr w xs) :
  Calls Tryz.prog 176 #[v, .func (.func F) #[] caps] w fun e w' => e = .returned (.int .i64 (idx pr xs)) ∧ Chg NoB w w' := by
 obtain ⟨hcf, hF⟩ := hF
 obtain ⟨a, cap, rfl, hc1, hc2⟩ := hv.shape
 unfold maxLen at hc2
 go_enter Tryz.func176, Tryz.ntmps176
 go_wp2_with fail
 go_loopw [5, 8] (fun _ i wr => ∃ j : Nat, j ≤ xs.length ∧ i = .int .i64 j ∧ Hid (∀ q, (hq : q < j) → (hq' : q < xs.length) → pr xs[q] = false) ∧ Chg NoB w wr)
  (fun _ i _ => xs.length - (intOf i).toNat)
 case atStart => exact ⟨0, by omega, rfl, hid fun q hq => by omega, Chg.refl _ _⟩
 case round =>
  obtain ⟨j, hj, rfl, hno, hch⟩ := hrel
  by_cases hjn : j < xs.length
  ·obtain ⟨b, off, rfl, hb, hcells⟩ := hv.ints (by omega)
   have hcell := hch.cell (hcells j hjn) (fun x => x)
   clear hcells
   have HF := hid (hF xs[j] (List.getElem_mem _) wr hch)
   clear hF
   go_wp2_with fail
   refine HF.out.mono ?_
   rintro e w2 ⟨rfl, hc3⟩
   go_wp2_with fail
   ·have hp : pr xs[j] = true := by assumption
    go_ret
    exact ⟨ret_int (idx_some hjn hp fun q hq => hno.out q hq (by omega)).symm, hch.trans hc3⟩
   ·have hp : pr xs[j] = false := by assumption
    go_roundw
    case rel => exact ⟨j + 1, by omega, by go_num, hid fun q hq hq' => by
     by_cases h : q < j
     ·exact hno.out q h hq'
     ·obtain rfl : q = j := by omega
      exact hp, hch.trans hc3⟩
    case measure => simp [intOf]; omega
  ·go_wp2_with fail
   go_ret
   exact ⟨ret_int (idx_none fun q hq => hno.out q (by omega) hq).symm, hch⟩

set_option maxHeartbeats 400000 in
theorem containsFuncI (v : Value) (xs : List Int) (F : FuncId) (caps : Array Value) (pr : Int → Bool) (A : Nat → Prop) (w : World) (hv : IsSl w A v xs) (hF : PredI F caps pr w xs) :
  Calls Tryz.prog 122 #[v, .func (.func F) #[] caps] w fun e w' => e = .returned (.bool (xs.any pr)) ∧ Chg NoB w w' := by
 have hc := indexFuncI v xs F caps pr A w hv hF
 have HC := hid hc; clear hc hF
 go_enter Tryz.func122, Tryz.ntmps122
 go_wp2_with (go_at_call 176; refine HC.out.mono ?_; rintro e w1 ⟨rfl, hc1⟩)
 go_ret
 exact ⟨ret_bool (idx_any pr xs), hc1⟩

set_option maxHeartbeats 400000 in
theorem outside_any (n lo hi : Int) (w : World) :
  Calls Tryz.prog 101 #[.int .i64 n, .int .i64 lo, .int .i64 hi] w fun e w' => e = .returned (.bool (decide (n < lo) || decide (hi < n))) ∧ w = w' := by
 by_cases h : n < lo
 ·go_enter Tryz.func101, Tryz.ntmps101
  go_wp2_with fail
  go_ret
  exact ⟨ret_bool (by simp [h]), rfl⟩
 ·go_enter Tryz.func101, Tryz.ntmps101
  go_wp2_with fail
  go_ret
  exact ⟨ret_bool (by simp; omega), rfl⟩

set_option maxHeartbeats 400000 in
theorem in_any (n lo hi : Int) (w : World) :
  Calls Tryz.prog 94 #[.int .i64 n, .int .i64 lo, .int .i64 hi] w fun e w' => e = .returned (.bool (decide (lo ≤ n) && decide (n ≤ hi))) ∧ w = w' := by
 by_cases h : lo ≤ n
 ·go_enter Tryz.func94, Tryz.ntmps94
  go_wp2_with fail
  go_ret
  exact ⟨ret_bool (by simp [h]), rfl⟩
 ·go_enter Tryz.func94, Tryz.ntmps94
  go_wp2_with fail
  go_ret
  exact ⟨ret_bool (by simp; omega), rfl⟩

end Go.Proofs.YtplphabekhaoaaaGreatDoor
namespace Go.Proofs.YtplphabekhaoaaaGreatDoor
open Go.RowKit
set_option linter.unusedVariables false
set_option linter.unusedSimpArgs false

def outB (lo hi x : Int) : Bool := decide (x < lo) || decide (hi < x)
theorem outB_in (lo hi x : Int) : (!(decide (lo ≤ x) && decide (x ≤ hi))) = outB lo hi x := by
 unfold outB
 by_cases h1 : lo ≤ x <;> by_cases h2 : x ≤ hi <;> simp [h1, h2] <;> omega

def cycF (c : List Int) : Int := if c.length = 0 then 8 else if 6 < c.length then 2 else if c.any (outB 1 10000000) then 1 else 0
def flowF (c b : List Int) (n : Int) : Int :=
 if cycF c ≠ 0 then cycF c else if (b.length : Int) ≠ c.length - 1 then 3 else if b.any (outB 0 2000) || outB 1 2000 n then 1 else 0

theorem outside_b (n lo hi : Int) (w : World) :
  Calls Tryz.prog 101 #[.int .i64 n, .int .i64 lo, .int .i64 hi] w fun e w' => e = .returned (.bool (outB lo hi n)) ∧ w = w' := outside_any n lo hi w
theorem in_b (n lo hi : Int) (w : World) :
  Calls Tryz.prog 94 #[.int .i64 n, .int .i64 lo, .int .i64 hi] w fun e w' => e = .returned (.bool (!outB lo hi n)) ∧ w = w' :=
 (in_any n lo hi w).mono fun e w' h => ⟨by rw [h.1, ← outB_in]; simp, h.2⟩

set_option maxHeartbeats 400000 in
theorem cycPred1 (w : World) (xs : List Int) : PredI 188 #[] (outB 1 10000000) w xs := by
 refine ⟨enters_of Tryz.func188 (by kernel_rfl) rfl, fun x hx w1 hc => ?_⟩
 go_enter Tryz.func188, Tryz.ntmps188
 go_wp2_with (go_at_call 101; refine (outside_b _ _ _ _).mono ?_; rintro e w' ⟨rfl, rfl⟩)
 go_ret
 exact ⟨rfl, Chg.refl _ _⟩
set_option maxHeartbeats 400000 in
theorem flowPred (w : World) (xs : List Int) : PredI 183 #[] (outB 0 2000) w xs := by
 refine ⟨enters_of Tryz.func183 (by kernel_rfl) rfl, fun x hx w1 hc => ?_⟩
 go_enter Tryz.func183, Tryz.ntmps183
 go_wp2_with (go_at_call 101; refine (outside_b _ _ _ _).mono ?_; rintro e w' ⟨rfl, rfl⟩)
 go_ret
 exact ⟨ret_bool (rfl), Chg.refl _ _⟩

set_option maxHeartbeats 400000 in
theorem refPred1 (w : World) (xs : List Int) : PredI 123 #[] (outB 1 10000000) w xs := by
 refine ⟨enters_of Tryz.func123 (by kernel_rfl) rfl, fun x hx w1 hc => ?_⟩
 go_enter Tryz.func123, Tryz.ntmps123
 go_wp2_with (go_at_call 94; refine (in_b _ _ _ _).mono ?_; rintro e w' ⟨rfl, rfl⟩)
 go_ret
 exact ⟨ret_bool (by simp), Chg.refl _ _⟩

set_option maxHeartbeats 400000 in
theorem refPred2 (w : World) (xs : List Int) : PredI 124 #[] (outB 0 2000) w xs := by
 refine ⟨enters_of Tryz.func124 (by kernel_rfl) rfl, fun x hx w1 hc => ?_⟩
 go_enter Tryz.func124, Tryz.ntmps124
 go_wp2_with (go_at_call 94; refine (in_b _ _ _ _).mono ?_; rintro e w' ⟨rfl, rfl⟩)
 go_ret
 exact ⟨ret_bool (by simp), Chg.refl _ _⟩


set_option maxHeartbeats 400000 in
theorem cyclesFault_any (v : Value) (c : List Int) (A : Nat → Prop) (w : World) (hv : IsSl w A v c) :
  Calls Tryz.prog 136 #[v] w fun e w' => e = .returned (.int .i64 (cycF c)) ∧ Chg NoB w w' := by
 have hcf := containsFuncI v c _ _ _ A w hv (cycPred1 w c)
 have HC := hid hcf; clear hcf
 obtain ⟨a, cap, rfl, h1, h2⟩ := hv.shape
 unfold maxLen at h2
 by_cases h0 : c.length = 0
 ·have hb : ((c.length : Int) == 0) = true := by simp [h0]
  have H0 := hid h0; clear h0
  go_enter Tryz.func136, Tryz.ntmps136
  go_wp2_with fail
  go_ret
  exact ⟨ret_int (by rw [cycF, if_pos H0.out]), Chg.refl _ _⟩
 ·have hb : ((c.length : Int) == 0) = false := beq_eq_false_iff_ne.2 (by omega)
  by_cases h6 : 6 < c.length
  ·go_enter Tryz.func136, Tryz.ntmps136
   go_wp2_with fail
   go_ret
   exact ⟨ret_int (by rw [cycF, if_neg h0, if_pos h6]), Chg.refl _ _⟩
  ·obtain ⟨q, hq⟩ : ∃ q, q = c.any (outB 1 10000000) := ⟨_, rfl⟩
   have HF : Hid (cycF c = if q then 1 else 0) := by rw [hq, cycF, if_neg h0, if_neg h6]; rfl
   rw [← hq] at HC
   clear hq
   cases q <;>
   ·go_enter Tryz.func136, Tryz.ntmps136
    go_wp2_with (go_at_call 122; refine HC.out.mono ?_; rintro e w1 ⟨rfl, hc1⟩)
    go_ret
    exact ⟨ret_int HF.out.symm, hc1⟩

set_option maxHeartbeats 400000 in
theorem flowFault_any (v1 v2 : Value) (c b : List Int) (n : Int) (A1 A2 : Nat → Prop) (w : World) (h1 : IsSl w A1 v1 c) (h2 : IsSl w A2 v2 b) :
  Calls Tryz.prog 127 #[v1, v2, .int .i64 n] w fun e w' => e = .returned (.int .i64 (flowF c b n)) ∧ Chg NoB w w' := by
 have HY := hid (cyclesFault_any v1 c A1 w h1)
 have HC : Hid (∀ w1, Chg NoB w w1 → _) := hid fun w1 (hc : Chg NoB w w1) => containsFuncI v2 b _ _ _ A2 w1 (h2.keepN hc) (flowPred w1 b)
 obtain ⟨a1, cap1, rfl, g1, g2⟩ := h1.shape
 obtain ⟨a2, cap2, rfl, g3, g4⟩ := h2.shape
 unfold maxLen at g2 g4
 obtain ⟨f, hf⟩ : ∃ f, f = cycF c := ⟨_, rfl⟩
 rw [← hf] at HY
 by_cases hf0 : f = 0
 ·subst hf0
  by_cases hl : (b.length : Int) = c.length - 1
  ·have hb : ((b.length : Int) != (c.length : Int) - 1) = false := by simp [hl]
   obtain ⟨q, hq⟩ : ∃ q, q = b.any (outB 0 2000) := ⟨_, rfl⟩
   obtain ⟨r, hr⟩ : ∃ r, r = outB 1 2000 n := ⟨_, rfl⟩
   have HR := hid hr
   have HF : Hid (flowF c b n = if q || r then 1 else 0) := by rw [hq, hr, flowF, if_neg (by simpa using hf.symm), if_neg (by simpa using hl)]; rfl
   rw [← hq] at HC
   clear hq hr hf hl
   cases q <;> cases r <;>
   ·go_enter Tryz.func127, Tryz.ntmps127
    go_wp2_with (first | (go_at_call 136; refine HY.out.mono ?_; rintro e w1 ⟨rfl, hc1⟩) | (go_at_call 122; refine (HC.out _ (by assumption)).mono ?_; rintro e w2 ⟨rfl, hc2⟩) | (go_at_call 101; refine (outside_b _ _ _ _).mono ?_; rw [← HR.out]; rintro e w3 ⟨rfl, rfl⟩))
    go_ret
    exact ⟨ret_int HF.out.symm, by first | exact (by assumption : Chg NoB w _) | exact Chg.trans (by assumption) (by assumption)⟩
  ·have hb : ((b.length : Int) != (c.length : Int) - 1) = true := by simp [hl]
   have HF : Hid (flowF c b n = 3) := by unfold Hid; rw [flowF, if_neg (by simpa using hf.symm), if_pos hl]
   clear hf hl
   go_enter Tryz.func127, Tryz.ntmps127
   go_wp2_with (go_at_call 136; refine HY.out.mono ?_; rintro e w1 ⟨rfl, hc1⟩)
   go_ret
   exact ⟨ret_int HF.out.symm, hc1⟩
 ·have hb : (f != 0) = true := by simp [hf0]
  have HF : Hid (flowF c b n = f) := by unfold Hid; rw [flowF, if_pos (by rw [← hf]; exact hf0), hf]
  clear hf hf0
  go_enter Tryz.func127, Tryz.ntmps127
  go_wp2_with (go_at_call 136; refine HY.out.mono ?_; rintro e w1 ⟨rfl, hc1⟩)
  go_ret
  exact ⟨ret_int HF.out.symm, hc1⟩

set_option maxHeartbeats 600000 in
theorem boardsFault_any (v1 v2 : Value) (c b : List Int) (n : Int) (A1 A2 : Nat → Prop) (w : World) (h1 : IsSl w A1 v1 c) (h2 : IsSl w A2 v2 b) :
  Calls Tryz.prog 50 #[v1, v2, .int .i64 n] w fun e w' => e = .returned (.int .i64 (flowF c b n)) ∧ Chg NoB w w' := by
 have H1 := hid (containsFuncI v1 c _ _ _ A1 w h1 (refPred1 w c))
 have H2 : Hid (∀ w1, Chg NoB w w1 → _) := hid fun w1 (hc : Chg NoB w w1) => containsFuncI v2 b _ _ _ A2 w1 (h2.keepN hc) (refPred2 w1 b)
 obtain ⟨a1, cap1, rfl, g1, g2⟩ := h1.shape
 obtain ⟨a2, cap2, rfl, g3, g4⟩ := h2.shape
 unfold maxLen at g2 g4
 by_cases h0 : c.length = 0
 ·have hb : ((c.length : Int) == 0) = true := by simp [h0]
  have HF : Hid (flowF c b n = 8) := by unfold Hid; simp [flowF, cycF, h0]
  clear h0
  go_enter Tryz.func50, Tryz.ntmps50
  go_wp2_with fail
  go_ret
  exact ⟨ret_int HF.out.symm, Chg.refl _ _⟩
 ·have hb : ((c.length : Int) == 0) = false := beq_eq_false_iff_ne.2 (by omega)
  by_cases h6 : 6 < c.length
  ·have HF : Hid (flowF c b n = 2) := by unfold Hid; simp [flowF, cycF, h0, h6]
   go_enter Tryz.func50, Tryz.ntmps50
   go_wp2_with fail
   go_ret
   exact ⟨ret_int HF.out.symm, Chg.refl _ _⟩
  ·obtain ⟨f, hf⟩ : ∃ f, f = c.any (outB 1 10000000) := ⟨_, rfl⟩
   rw [← hf] at H1
   cases f
   ·have hy : cycF c = 0 := by rw [cycF, if_neg h0, if_neg h6, ← hf]; rfl
    clear hf
    by_cases hl : (b.length : Int) = c.length - 1
    ·have hb2 : ((b.length : Int) != (c.length : Int) - 1) = false := by simp [hl]
     obtain ⟨q, hq⟩ : ∃ q, q = b.any (outB 0 2000) := ⟨_, rfl⟩
     obtain ⟨r, hr⟩ : ∃ r, r = outB 1 2000 n := ⟨_, rfl⟩
     have HR := hid hr
     have HF : Hid (flowF c b n = if q || r then 1 else 0) := by rw [hq, hr, flowF, if_neg (by simpa using hy), if_neg (by simpa using hl)]; rfl
     rw [← hq] at H2
     clear hq hr hl hy
     cases q <;> cases r <;>
     ·go_enter Tryz.func50, Tryz.ntmps50
      go_wp2_with fail
      refine H1.out.mono ?_
      rintro e w1 ⟨rfl, hc1⟩
      go_wp2_with fail
      refine (H2.out _ hc1).mono ?_
      rintro e w2 ⟨rfl, hc2⟩
      go_wp2_with (go_at_call 94; refine (in_b _ _ _ _).mono ?_; rw [← HR.out]; rintro e w3 ⟨rfl, rfl⟩)
      go_ret
      exact ⟨ret_int HF.out.symm, hc1.trans hc2⟩
    ·have hb2 : ((b.length : Int) != (c.length : Int) - 1) = true := by simp [hl]
     have HF : Hid (flowF c b n = 3) := by unfold Hid; rw [flowF, if_neg (by simpa using hy), if_pos hl]
     clear hl hy
     go_enter Tryz.func50, Tryz.ntmps50
     go_wp2_with fail
     refine H1.out.mono ?_
     rintro e w1 ⟨rfl, hc1⟩
     go_wp2_with fail
     go_ret
     exact ⟨ret_int HF.out.symm, hc1⟩
   ·have hy : cycF c = 1 := by rw [cycF, if_neg h0, if_neg h6, ← hf]; rfl
    have HF : Hid (flowF c b n = 1) := by unfold Hid; rw [flowF, if_pos (by rw [hy]; decide), hy]
    clear hf hy
    go_enter Tryz.func50, Tryz.ntmps50
    go_wp2_with fail
    refine H1.out.mono ?_
    rintro e w1 ⟨rfl, hc1⟩
    go_wp2_with fail
    go_ret
    exact ⟨ret_int HF.out.symm, hc1⟩
end Go.Proofs.YtplphabekhaoaaaGreatDoor
namespace Go.Proofs.YtplphabekhaoaaaGreatDoor
open Go.RowKit
set_option linter.unusedVariables false
set_option linter.unusedSimpArgs false

structure Mat {α : Type} [Enc α] (w : World) (lo g n : Nat) (eo ei : TypeId) (V : Nat → Value) (R : Nat → List α) : Prop where
 low : lo ≤ g
 ex : ∃ cur, w.heap[g]? = some (.cells cur eo (0, 0)) ∧ cur.size = n ∧ ∀ k, k < n → cur[k]? = some (V k)
 own : ∀ k, k < n → Own w lo ei (V k) (R k)
 out : ∀ k, k < n → (V k).ownBlock ≠ some g
 sep : ∀ j k, j < n → k < n → j ≠ k → ∀ q, (V j).ownBlock = some q → (V k).ownBlock ≠ some q

namespace Mat
variable {α : Type} [Enc α] {w w' : World} {lo g n : Nat} {eo ei : TypeId} {V : Nat → Value} {R R' : Nat → List α}
theorem lt (h : Mat w lo g n eo ei V R) : g < w.heap.size := by obtain ⟨cur, h1, _⟩ := h.ex; exact (Array.getElem?_eq_some_iff.1 h1).1
theorem start (w : World) (lo n : Nat) (eo ei : TypeId) (hlo : lo ≤ w.heap.size) : Mat (α := α) (w.alloc (.cells (Array.replicate n (.slice none 0 0)) eo)) lo w.heap.size n eo ei (fun _ => .slice none 0 0) (fun _ => []) :=
 ⟨hlo, ⟨_, heap_alloc_new w _, by simp, fun k hk => by simp [hk]⟩, fun k hk => Own.nil _ _ _, fun k hk => by simp [Value.ownBlock], fun j k _ _ _ q h => by simp [Value.ownBlock] at h⟩
theorem congr (h : Mat w lo g n eo ei V R) (e : ∀ k, k < n → R k = R' k) : Mat w lo g n eo ei V R' :=
 ⟨h.low, h.ex, fun k hk => e k hk ▸ h.own k hk, h.out, h.sep⟩
theorem keep {S : Nat → Prop} (h : Mat w lo g n eo ei V R) (c : Chg S w w') (hs : ∀ k, lo ≤ k → k < w.heap.size → ¬ S k) : Mat w' lo g n eo ei V R := by
 obtain ⟨cur, h1, h2, h3⟩ := h.ex
 exact ⟨h.low, ⟨cur, (c.block g h.lt (hs g h.low h.lt)).trans h1, h2, h3⟩, fun k hk => (h.own k hk).keep c hs, h.out, h.sep⟩
theorem cell (h : Mat w lo g n eo ei V R) (k : Nat) (hk : k < n) : w.cell? ⟨g, k, none⟩ = some (V k) := by
 obtain ⟨cur, h1, h2, h3⟩ := h.ex
 simp [World.cell?, h1, h3 k hk]
theorem froz (h : Mat w lo g n eo ei V R) (k : Nat) : w.frozen? ⟨g, k, none⟩ = false := by
 obtain ⟨cur, h1, h2, h3⟩ := h.ex
 simp [World.frozen?, h1]
theorem step [Flat α] (h : Mat w lo g n eo ei V R) (k : Nat) (hk : k < n) (v' : Value) (xs : List α) (ho : Own w' lo ei v' xs) (c : Chg (blk (V k)) w w')
  (hb : ∀ q, v'.ownBlock = some q → (V k).ownBlock = some q ∨ w.heap.size ≤ q) :
  Mat (w'.setCell ⟨g, k, none⟩ v') lo g n eo ei (fun j => if j = k then v' else V j) (fun j => if j = k then xs else R j) := by
 obtain ⟨cur, h1, h2, h3⟩ := h.ex
 have hg : w'.heap[g]? = some (.cells cur eo (0, 0)) := (c.block g h.lt (h.out k hk)).trans h1
 have hs : Chg (AtB g) w' (w'.setCell ⟨g, k, none⟩ v') := Chg.setAt _ _ _ _
 have hvg : v'.ownBlock ≠ some g := by
  intro e
  rcases hb g e with e | e
  ·exact h.out k hk e
  ·have := h.lt; omega
 refine ⟨h.low, ⟨cur.setIfInBounds k v', ?_, by simpa using h2, ?_⟩, ?_, ?_, ?_⟩
 ·simp [World.setCell, Array.getElem?_modify, hg]
 ·intro j hj
  rw [Array.getElem?_setIfInBounds]
  by_cases hjk : k = j
  ·subst hjk; simp [h2, hk]
  ·rw [if_neg hjk, if_neg (fun e => hjk e.symm)]; exact h3 j hj
 ·intro j hj
  by_cases hjk : j = k
  ·subst hjk
   simp only [if_true]
   exact ho.keepF hs fun q hq x => by unfold AtB at x; subst x; exact hvg hq
  ·simp only [if_neg hjk]
   refine ((h.own j hj).keepF c fun q hq x => h.sep j k hj hk hjk q hq x).keepF hs fun q hq x => ?_
   unfold AtB at x; subst x; exact h.out j hj hq
 ·intro j hj
  by_cases hjk : j = k
  ·subst hjk; simpa using hvg
  ·simp only [if_neg hjk]; exact h.out j hj
 ·intro j i hj hi hne q hq
  by_cases hjk : j = k
  ·subst hjk
   simp only [if_true, if_neg (fun e : i = j => hne e.symm)] at hq ⊢
   rcases hb q hq with e | e
   ·exact h.sep j i hk hi hne q e
   ·intro e2
    have := ((h.own i hi).lt q e2).2
    omega
  ·simp only [if_neg hjk] at hq
   by_cases hik : i = k
   ·subst hik
    simp only [if_true]
    intro e
    rcases hb q e with e | e
    ·exact h.sep j i hj hi hjk q hq e
    ·have := ((h.own j hj).lt q hq).2
     omega
   ·simp only [if_neg hik]; exact h.sep j i hj hi hne q hq
theorem isSl (h : Mat w lo g n eo ei V R) (hm : n ≤ maxLen) : IsSl w (fun k => lo ≤ k) (.slice (some ⟨g, 0, none⟩) n n) ((List.range n).map R) := by
 obtain ⟨cur, h1, h2, h3⟩ := h.ex
 refine .inr ⟨g, 0, n, cur, eo, by simp, h.low, by simp, hm, h1, fun i hi => ?_⟩
 simp at hi
 refine ⟨V i, ?_, ?_⟩
 ·simpa [Enc.sz] using h3 i hi
 ·simpa using (h.own i hi).isSl
end Mat

theorem Own.pcell {w : World} {lo e g n cap : Nat} {xs : List Pass} (h : Own w lo e (.slice (some ⟨g, 0, none⟩) n cap) xs) (i : Nat) (hi : i < xs.length) :
  w.cell? ⟨g, i * 2, none⟩ = some (.int .i64 xs[i].taken) ∧ w.cell? ⟨g, i * 2 + 1, none⟩ = some (.int .i64 xs[i].left) := by
 obtain ⟨b, off, ha, hb, hc⟩ := h.isSl.cells.2 (by omega)
 cases ha
 have := hc i hi
 simp only [Enc.Is, Enc.sz, Nat.zero_add, Nat.add_zero] at this
 exact this

theorem infoPass : (Tryz.prog.info? 169).map (fun i => (i.zero, i.size, i.bytes)) = some (some (.agg #[.int .i64 0, .int .i64 0]), 2, 16) := by kernel_rfl
theorem infoSlPass : (Tryz.prog.info? 167).map (fun i => (i.zero, i.size, i.bytes)) = some (some (.slice none 0 0), 1, 24) := by kernel_rfl

def PBlk (w : World) (P : Nat) (x y : Int) : Prop := w.heap[P]? = some (.cells #[.int .i64 x, .int .i64 y] 169 (0, 0))
theorem PBlk.new (w : World) (x y : Int) : PBlk (w.alloc (.cells #[.int .i64 x, .int .i64 y] 169)) w.heap.size x y := heap_alloc_new w _
theorem PBlk.facts {w : World} {P : Nat} {x y : Int} (h : PBlk w P x y) : w.cell? ⟨P, 0, none⟩ = some (.int .i64 x) ∧ w.cell? ⟨P, 1, none⟩ = some (.int .i64 y) ∧ w.frozen? ⟨P, 0, none⟩ = false ∧ w.frozen? ⟨P, 1, none⟩ = false := by
 unfold PBlk at h
 simp [World.cell?, World.frozen?, h]
theorem PBlk.set1 {w : World} {P : Nat} {x y : Int} (h : PBlk w P x y) (z : Int) : PBlk (w.setCell ⟨P, 1, none⟩ (.int .i64 z)) P x z := by
 unfold PBlk at h ⊢; simp [World.setCell, Array.getElem?_modify, h]

def rowP (c bf : List Int) (b k j : Nat) : List Pass := (List.range (if j < k then b + 1 else b)).map fun q => pas c bf q j


theorem flow_step {c bf : List Int} {w wr w5 w6 : World} {V : Nat → Value} {b k g6 cap6 : Nat} {ak : Option Addr} {capk : Nat} {T Z : Int} (hkl : k < c.length)
  (hmx : Mat w5 w.heap.size w.heap.size c.length 167 169 V (rowP c bf b k)) (hT : T = (pas c bf b k).taken) (hZ : Z = (pas c bf b k).left)
  (hv : V k = .slice ak b capk) (hown : Own w6 w.heap.size 169 (.slice (some ⟨g6, 0, none⟩) ((rowP c bf b k k).length + 1) cap6) (rowP c bf b k k ++ [⟨T, Z⟩]))
  (hc6 : Chg (blk (.slice ak b capk)) w5.drew w6) (hg6 : (Value.slice ak b capk).ownBlock = some g6 ∨ w5.drew.heap.size ≤ g6)
  (hch : Chg (NewB w.heap.size) w wr) (hcx : Chg (NewB wr.heap.size) wr w5) :
  Mat (w6.setCell ⟨w.heap.size, k, none⟩ (.slice (some ⟨g6, 0, none⟩) ((rowP c bf b k k).length + 1) cap6)) w.heap.size w.heap.size c.length 167 169
    (fun j => if j = k then .slice (some ⟨g6, 0, none⟩) ((rowP c bf b k k).length + 1) cap6 else V j) (rowP c bf b (k + 1)) ∧
   Chg (NewB w.heap.size) w (w6.setCell ⟨w.heap.size, k, none⟩ (.slice (some ⟨g6, 0, none⟩) ((rowP c bf b k k).length + 1) cap6)) ∧ here c bf b (k + 1) = Z := by
 rw [← hv] at hc6 hg6
 refine ⟨(hmx.step k hkl _ _ hown hc6.ofDrew fun q hq => ?_).congr fun j hj => ?_, ?_, ?_⟩
 ·simp only [Value.ownBlock, Option.some.injEq] at hq
  subst hq; exact hg6
 ·by_cases hjk : j = k
  ·subst hjk
   simp only [if_true, rowP, Nat.lt_irrefl, if_false, Nat.lt_succ_self, List.range_succ, List.map_append, List.map_cons, List.map_nil]
   rw [hT, hZ]
  ·simp only [if_neg hjk, rowP]
   have : j < k + 1 ↔ j < k := by omega
   simp only [this]
 ·have h1 : Chg (NewB w.heap.size) w w5 := hch.trans (hcx.mono fun q hq x => by have := hch.size; unfold NewB at x ⊢; omega)
  exact (h1.trans (hc6.ofDrew.mono fun q hq x => ((hmx.own k hkl).lt q x).1)).setCell (a := ⟨w.heap.size, k, none⟩) (fun _ => Nat.le_refl _) _
 ·simp [here, hZ]

set_option maxHeartbeats 2000000 in
set_option maxRecDepth 100000 in
theorem flow_any (v1 v2 : Value) (c bf : List Int) (n : Nat) (A1 A2 : Nat → Prop) (w : World) (h1 : IsSl w A1 v1 c) (h2 : IsSl w A2 v2 bf) (hr : RightLine c bf) (hn : n ≤ 2000) :
    Calls Tryz.prog 128 #[v1, v2, .int .i64 n] w fun e w' => ∃ v, e = .returned v ∧ IsSl w' (fun k => w.heap.size ≤ k) v ((List.range c.length).map fun k => (List.range n).map fun q => pas c bf q k) ∧ Chg NoB w w' := by
  obtain ⟨a1, cap1, rfl, g1, g2⟩ := h1.shape
  obtain ⟨a2, cap2, rfl, g3, g4⟩ := h2.shape
  unfold maxLen at g2 g4
  have hlen := hr.len
  have hpos := hr.pos
  have hbl := hr.bl
  have HR := hid hr; clear hr
  go_enter Tryz.func128, Tryz.ntmps128
  go_wp2_with (at_make; refine wpl_make_raw w rfl _ _ 165 167 rfl (.slice none 0 0) 24 Tryz.underlying165 infoSlPass rfl (by decide) .i64 .i64 _ _ rfl rfl c.length rfl rfl (by omega) ?_)
  have hst := Mat.start (α := Pass) w w.heap.size c.length 167 169 (Nat.le_refl _)
  obtain ⟨w0, hw0⟩ : ∃ w0, w0 = w.alloc (.cells (Array.replicate c.length (.slice none 0 0)) 167) := ⟨_, rfl⟩
  have hc0 : Chg NoB w w0 := by rw [hw0]; exact (Chg.refl _ _).alloc _
  rw [← hw0] at hst ⊢
  clear hw0
  go_loopw [8, 18] (fun _ i wr => ∃ (b : Nat) (V : Nat → Value), b ≤ n ∧ i = .int .i64 b ∧ Mat wr w.heap.size w.heap.size c.length 167 169 V (rowP c bf b 0) ∧ Chg (NewB w.heap.size) w wr)
    (fun _ i _ => n - (intOf i).toNat)
  case atStart => exact ⟨0, _, by omega, rfl, hst.congr fun k hk => by simp [rowP], hc0.any⟩
  case round =>
    obtain ⟨b, V, hb, rfl, hmat, hch⟩ := hrel
    by_cases hbn : b < n
    · obtain ⟨wo, rfl⟩ : ∃ wo : World, wo = wr := ⟨_, rfl⟩
      go_wp2_with fail
      go_loopw [9, 10, 11, 13, 23] (fun h _ _ _ i wr => ∃ (k : Nat) (V : Nat → Value), k ≤ c.length ∧ i = .int .i64 k ∧ h = .int .i64 (here c bf b k) ∧ Mat wr w.heap.size w.heap.size c.length 167 169 V (rowP c bf b k) ∧ Chg (NewB w.heap.size) w wr)
        (fun _ _ _ _ i _ => c.length - (intOf i).toNat)
      case atStart => exact ⟨0, _, by omega, rfl, rfl, hmat, hch⟩
      case round =>
        clear hmat hch
        obtain ⟨k, V, hk, rfl, rfl, hmat, hch⟩ := hrel
        by_cases hkl : k < c.length
        · have hszr := hch.size
          have hgl := hmat.lt
          obtain ⟨bc, oc, rfl, _, hcc⟩ := h1.ints (by omega)
          have hcell := hch.cellNew (Nat.le_refl _) (hcc k hkl)
          have hbd := pas_bd HR.out b k hkl
          have hck := HR.out.c1 k hkl
          have hac : at' c k = c[k] := by simp [at', hkl]
          rw [hac] at hbd hck
          obtain ⟨T, hT⟩ : ∃ T, T = (pas c bf b k).taken := ⟨_, rfl⟩
          obtain ⟨Z, hZ⟩ : ∃ Z, Z = (pas c bf b k).left := ⟨_, rfl⟩
          rw [← hT, ← hZ] at hbd
          have HT := hid hT; clear hT
          have HZ := hid hZ; clear hZ
          have HAC := hid hac; clear hac
          have HCC := hid hcc; clear hcc
          go_upto_if 31 with (fail)
          go_cut [] (fun wx => PBlk wx wr.heap.size T 0 ∧ Chg (NewB wr.heap.size) wr wx)
          case first =>
            have htk := pas_taken c bf b k
            rw [← HT.out] at htk
            by_cases hb0 : 0 < b
            · rw [if_neg (by omega)] at htk
              obtain ⟨q, rfl⟩ : ∃ q, b = q + 1 := ⟨b - 1, by omega⟩
              simp only [Nat.add_sub_cancel] at htk
              have HTK := hid htk; clear htk
              have hVk : (rowP c bf (q + 1) k k).length = q + 1 := by simp [rowP]
              have hok := hmat.own k hkl
              obtain ⟨ak, capk, hav, _, _⟩ := hok.shape
              rw [hav] at hok
              obtain ⟨gk, rfl, hgk1, hgk2⟩ := hok.head (by omega)
              have hov := hmat.cell k hkl
              rw [hav] at hov
              have hpk := (hok.pcell q (by omega)).2
              have e1 : (rowP c bf (q + 1) k k)[q]'(by omega) = pas c bf q k := by simp [rowP]
              rw [e1] at hpk
              rw [hVk] at hov
              clear e1 hVk hav
              go_wp2_with fail
              go_meet
              case rel =>
                rw [HTK.out]
                exact ⟨PBlk.new _ _ _, (Chg.refl _ _).alloc _⟩
            · rw [if_pos (by omega)] at htk
              have HTK := hid htk; clear htk
              go_wp2_with fail
              go_meet
              case rel =>
                rw [HTK.out]
                exact ⟨PBlk.new _ _ _, (Chg.refl _ _).alloc _⟩
          case rest =>
            obtain ⟨hpb, hcx⟩ := hcut
            obtain ⟨f0, f1, f2, f3⟩ := hpb.facts
            have hszx := hcx.size
            have hcell1 := hcx.cellNew (Nat.le_refl _) hcell
            go_upto_if 53 with (fail)
            have hpb1 := hpb.set1 (T + c[k])
            have hcx1 : Chg (NewB wr.heap.size) wr (wc.setCell ⟨wr.heap.size, 1, none⟩ (.int .i64 (T + c[k]))) := hcx.setCell (a := ⟨wr.heap.size, 1, none⟩) (fun _ => Nat.le_refl _) _
            go_cut [] (fun wx => PBlk wx wr.heap.size T Z ∧ Chg (NewB wr.heap.size) wr wx)
            case first =>
              have hlf := pas_left c bf b k
              rw [← HT.out, ← HZ.out, HAC.out] at hlf
              obtain ⟨f0', f1', f2', f3'⟩ := hpb1.facts
              by_cases hk1 : k + 1 < c.length
              · rw [if_pos hk1] at hlf
                obtain ⟨bb, ob, rfl, _, hbc⟩ := h2.ints (by omega)
                have hbcell := hcx1.cell (hch.cellNew (Nat.le_refl _) (hbc k (by omega))) (Nat.not_le_of_lt (World.block_lt_of_cell? _ _ (hch.cellNew (Nat.le_refl _) (hbc k (by omega)))))
                have hb0k := HR.out.b0 k
                have hbk : at' bf k = bf[k]'(by omega) := by simp [at', show k < bf.length by omega]
                obtain ⟨r, hr⟩ : ∃ r : Nat, bf[k]'(by omega) = (r : Int) := ⟨(bf[k]'(by omega)).toNat, by omega⟩
                rw [hr] at hbcell hbk
                rw [hbk] at hlf
                clear hbc hb0k hbk hr f0 f1 f2 f3
                by_cases hr0 : r = 0
                · subst hr0
                  rw [if_pos (by simp)] at hlf
                  by_cases hb0 : 0 < b
                  · obtain ⟨q, rfl⟩ : ∃ q, b = q + 1 := ⟨b - 1, by omega⟩
                    rw [if_neg (by omega)] at hlf
                    simp only [Nat.add_sub_cancel] at hlf
                    have HLF := hid hlf; clear hlf
                    have hVn : (rowP c bf (q + 1) k (k + 1)).length = q + 1 := by simp [rowP]
                    have hon := hmat.own (k + 1) hk1
                    obtain ⟨an, capn, han, _, _⟩ := hon.shape
                    rw [han] at hon
                    obtain ⟨gn, rfl, hgn1, hgn2⟩ := hon.head (by omega)
                    have hovn := hcx1.cell (hmat.cell (k + 1) hk1) (Nat.not_le_of_lt hgl)
                    rw [han, hVn] at hovn
                    have hpn := hcx1.cell (hon.pcell q (by omega)).2 (Nat.not_le_of_lt hgn2)
                    have e1 : (rowP c bf (q + 1) k (k + 1))[q]'(by omega) = pas c bf q (k + 1) := by simp [rowP]
                    rw [e1] at hpn
                    clear e1 hVn han
                    go_wp2_with fail
                    go_region
                    all_goals go_wp2_with fail
                    all_goals go_meet
                    case rel => rw [HLF.out]; exact ⟨hpb1.set1 _, (hcx1.setCell (a := ⟨wr.heap.size, 1, none⟩) (fun _ => Nat.le_refl _) _).drew⟩
                  · rw [if_pos (by omega)] at hlf
                    have HLF := hid hlf; clear hlf
                    have hb1 : b = 0 := by omega
                    subst hb1
                    go_wp2_with fail
                    go_meet
                    case rel => rw [HLF.out]; exact ⟨hpb1, hcx1⟩
                · rw [if_neg (by omega)] at hlf
                  by_cases hrb : r ≤ b
                  · rw [if_pos (by omega)] at hlf
                    have hr1 : ((r : Int) == 0) = false := by simp; omega
                    obtain ⟨t, rfl⟩ : ∃ t, b = t + r := ⟨b - r, by omega⟩
                    have ht1 : ((t + r : Nat) : Int) - ((r : Int)) = (t : Int) := by omega
                    have ht2 : t + r - (r : Int).toNat = t := by omega
                    rw [ht2] at hlf
                    have HLF := hid hlf; clear hlf ht2
                    have hVn : (rowP c bf (t + r) k (k + 1)).length = t + r := by simp [rowP]
                    have hon := hmat.own (k + 1) hk1
                    obtain ⟨an, capn, han, _, _⟩ := hon.shape
                    rw [han] at hon
                    obtain ⟨gn, rfl, hgn1, hgn2⟩ := hon.head (by omega)
                    have hovn := hcx1.cell (hmat.cell (k + 1) hk1) (Nat.not_le_of_lt hgl)
                    rw [han, hVn] at hovn
                    have hpn := hcx1.cell (hon.pcell t (by omega)).1 (Nat.not_le_of_lt hgn2)
                    have e1 : (rowP c bf (t + r) k (k + 1))[t]'(by omega) = pas c bf t (k + 1) := by simp [rowP]
                    rw [e1] at hpn
                    clear e1 hVn han
                    go_wp2_with fail
                    go_region
                    all_goals go_wp2_with fail
                    all_goals go_meet
                    case rel => rw [HLF.out]; exact ⟨hpb1.set1 _, (hcx1.setCell (a := ⟨wr.heap.size, 1, none⟩) (fun _ => Nat.le_refl _) _).drew⟩
                  · rw [if_neg (by omega)] at hlf
                    have HLF := hid hlf; clear hlf
                    have hr1 : ((r : Int) == 0) = false := by simp; omega
                    go_wp2_with fail
                    go_meet
                    case rel => rw [HLF.out]; exact ⟨hpb1, hcx1⟩
              · rw [if_neg hk1] at hlf
                have HLF := hid hlf; clear hlf
                go_wp2_with fail
                go_meet
                case rel => rw [HLF.out]; exact ⟨hpb1, hcx1⟩
            case rest =>
              clear hpb hcx f0 f1 f2 f3 hcell1 hpb1 hcx1 hszx
              obtain ⟨hpb, hcx⟩ := hcut
              obtain ⟨w5, rfl⟩ : ∃ w5 : World, w5 = wc := ⟨_, rfl⟩
              obtain ⟨f0, f1, f2, f3⟩ := hpb.facts
              have hszx := hcx.size
              have hVk : (rowP c bf b k k).length = b := by simp [rowP]
              have hmx : Mat w5 w.heap.size w.heap.size c.length 167 169 V (rowP c bf b k) := hmat.keep hcx fun q _ h2 h3 => Nat.not_le_of_lt h2 h3
              have hok := hmx.own k hkl
              obtain ⟨ak, capk, hav, _, _⟩ := hok.shape
              have hov := hmx.cell k hkl
              have hfz := hmx.froz k
              rw [hav] at hok
              rw [hav, hVk] at hov
              rw [hVk] at hok
              obtain ⟨i0, hi, hz0, hz1, hz2⟩ := info_parts infoPass
              have HI := hid hi; clear hi
              have HZ0 := hid hz0; clear hz0
              have HZ1 := hid hz1; clear hz1
              have HZ2 := hid hz2; clear hz2
              have HOUT := hid (hmx.out k hkl)
              rw [hav, hVk] at HOUT
              have HAV : Hid (V k = .slice ak b capk) := by unfold Hid; rw [hav, hVk]
              clear hav
              have hpout : ¬ blk (.slice ak b capk) wr.heap.size := fun x => by
                have := ((hmat.own k hkl).lt wr.heap.size (by rw [HAV.out]; exact x)).2
                omega
              have HPO := hid hpout; clear hpout
              have hlo5 : w.heap.size ≤ w5.heap.size := by omega
              have hlt5 : w.heap.size < w5.heap.size := hmx.lt
              have hVk' : (rowP c bf b k k).length ≤ 1000000000 := by omega
              have hHV := hid hVk; clear hVk
              go_wp2_with fail
              go_region_law ((refine step_append1 (α := Pass) w5.drew #[.int .i64 T, .int .i64 Z] rfl (.tmp 107) (.tmp 109) 167 169 rfl i0 (.agg #[.int .i64 0, .int .i64 0]) 16 Tryz.underlying167 HI.out HZ0.out HZ1.out HZ2.out rfl (by decide) w.heap.size (.slice ak b capk) (rowP c bf b k k) ⟨T, Z⟩ hok hlo5 hVk' ⟨rfl, rfl⟩ rfl rfl rfl ?_; intro g6 cap6 w6 hown6 hc6 hg6 hl6; have hov6 := hc6.cell hov (fun x => HOUT.out x); have hfz6 := (hc6.froz (a := ⟨w.heap.size, k, none⟩) hlt5 (fun x => HOUT.out x)).trans hfz; have hp6 := hc6.cell f1 (fun x => HPO.out x)))
              all_goals go_wp2_with fail
              all_goals
                have hfs := flow_step hkl hmx HT.out HZ.out HAV.out hown6 hc6 hg6 hch hcx
                go_roundw
                case rel => exact ⟨k + 1, _, by omega, by go_num, by rw [hfs.2.2], hfs.1, hfs.2.1⟩
                case measure => simp [intOf]; omega
        · go_wp2_with fail
          go_roundw
          case rel => exact ⟨b + 1, V, by omega, by go_num, hmat.congr fun j hj => by simp [rowP, show j < k by omega], hch⟩
          case measure => simp [intOf]; omega
    · obtain rfl : b = n := by omega
      go_wp2_with fail
      go_ret
      refine ⟨_, rfl, ?_, hch.mono fun q h1 h2 => by unfold NewB at h2; omega⟩
      have := hmat.isSl (by simp only [maxLen]; omega)
      have e : rowP c bf b 0 = fun k => (List.range b).map fun q => pas c bf q k := by funext k; simp [rowP]
      rwa [e] at this
end Go.Proofs.YtplphabekhaoaaaGreatDoor
namespace Go.Proofs.YtplphabekhaoaaaGreatDoor
open Go.RowKit
set_option linter.unusedVariables false
set_option linter.unusedSimpArgs false

theorem any_false {lo hi : Int} {xs : List Int} (h : xs.any (outB lo hi) = false) : ∀ k, k < xs.length → lo ≤ at' xs k ∧ at' xs k ≤ hi := by
 intro k hk
 rw [List.any_eq_false] at h
 have := h xs[k] (List.getElem_mem _)
 simp only [outB, Bool.or_eq_true, decide_eq_true_eq, not_or] at this
 simp only [at', List.getD, List.getElem?_eq_getElem hk, Option.getD_some]
 omega

theorem flowF_right {c b : List Int} {n : Int} (h : flowF c b n = 0) : RightLine c b ∧ 1 ≤ n ∧ n ≤ 2000 := by
 unfold flowF at h
 by_cases hc : cycF c ≠ 0
 ·rw [if_pos hc] at h; exact absurd h hc
 ·rw [if_neg hc] at h
  have hc' : cycF c = 0 := by simpa using hc
  unfold cycF at hc'
  by_cases h0 : c.length = 0
  ·rw [if_pos h0] at hc'; omega
  ·rw [if_neg h0] at hc'
   by_cases h6 : 6 < c.length
   ·rw [if_pos h6] at hc'; omega
   ·rw [if_neg h6] at hc'
    cases ha : c.any (outB 1 10000000) with
    | true => rw [ha] at hc'; simp at hc'
    | false =>
     by_cases hl : (b.length : Int) ≠ c.length - 1
     ·rw [if_pos hl] at h; omega
     ·rw [if_neg hl] at h
      cases hb : b.any (outB 0 2000) with
      | true => rw [hb] at h; simp at h
      | false =>
       cases hn : outB 1 2000 n with
       | true => rw [hn] at h; simp at h
       | false =>
        simp only [outB, Bool.or_eq_false_iff, decide_eq_false_iff_not] at hn
        refine ⟨⟨by omega, by omega, any_false ha, fun k => ?_, by omega⟩, by omega, by omega⟩
        by_cases hk : k < b.length
        ·exact (any_false hb k hk).1
        ·simp [at', List.getD, List.getElem?_eq_none (show b.length ≤ k by omega)]

theorem IsSl.rows {α : Type} [Enc α] {w : World} {A : Nat → Prop} {a : Option Addr} {n cap : Nat} {xs : List (List α)} (h : IsSl w A (.slice a n cap) xs) (hp : 0 < xs.length) :
  ∃ b off, a = some ⟨b, off, none⟩ ∧ A b ∧ ∀ i, (hi : i < xs.length) → ∃ v, w.cell? ⟨b, off + i, none⟩ = some v ∧ IsSl w A v xs[i] := by
 obtain ⟨b, off, ha, hb, hc⟩ := h.cells.2 hp
 refine ⟨b, off, ha, hb, fun i hi => ?_⟩
 have := hc i hi
 simpa [Enc.Is, Enc.sz] using this
theorem IsSl.passes {w : World} {A : Nat → Prop} {a : Option Addr} {n cap : Nat} {xs : List Pass} (h : IsSl w A (.slice a n cap) xs) (hp : 0 < xs.length) :
  ∃ b off, a = some ⟨b, off, none⟩ ∧ A b ∧ ∀ i, (hi : i < xs.length) → w.cell? ⟨b, off + i * 2, none⟩ = some (.int .i64 xs[i].taken) ∧ w.cell? ⟨b, off + i * 2 + 1, none⟩ = some (.int .i64 xs[i].left) := by
 obtain ⟨b, off, ha, hb, hc⟩ := h.cells.2 hp
 refine ⟨b, off, ha, hb, fun i hi => ?_⟩
 have := hc i hi
 simpa [Enc.Is, Enc.sz] using this

def leaves (c bf : List Int) (n : Nat) : List Int := (List.range n).map fun q => (pas c bf q (c.length - 1)).left
def leavesF (c bf : List Int) (n : Int) : List Int := if flowF c bf n = 0 then leaves c bf n.toNat else []

set_option maxHeartbeats 1000000 in
theorem leave_any (v1 v2 : Value) (c bf : List Int) (n : Int) (A1 A2 : Nat → Prop) (w : World) (h1 : IsSl w A1 v1 c) (h2 : IsSl w A2 v2 bf) :
  Calls Tryz.prog 52 #[v1, v2, .int .i64 n] w fun e w' => ∃ v, e = .returned (.tuple #[v, .int .i64 (flowF c bf n)]) ∧ IsSl w' (fun k => w.heap.size ≤ k) v (leavesF c bf n) ∧ Chg NoB w w' := by
 have HF := hid (flowFault_any v1 v2 c bf n A1 A2 w h1 h2)
 by_cases hf : flowF c bf n = 0
 ·obtain ⟨hr, hn1, hn2⟩ := flowF_right hf
  obtain ⟨m, rfl⟩ : ∃ m : Nat, n = m := ⟨n.toNat, by omega⟩
  have HL : Hid (leavesF c bf m = leaves c bf m) := by unfold Hid; rw [leavesF, if_pos hf]; simp
  have HFL : Hid (∀ w1, Chg NoB w w1 → _) := hid fun w1 (hc : Chg NoB w w1) => flow_any v1 v2 c bf m A1 A2 w1 (h1.keepN hc) (h2.keepN hc) hr (by omega)
  have hpos := hr.pos
  have hlen := hr.len
  rw [hf] at HF ⊢
  have HR := hid hr; clear hr hf
  go_enter Tryz.func52, Tryz.ntmps52
  go_wp2_with fail
  refine HF.out.mono ?_
  rintro e w1 ⟨rfl, hc1⟩
  go_wp2_with fail
  refine (HFL.out w1 hc1).mono ?_
  rintro e w2 ⟨v, rfl, hv, hc2⟩
  obtain ⟨a, cap, rfl, g1, g2⟩ := hv.shape
  obtain ⟨b, off, rfl, hb, hrows⟩ := hv.rows (by simp; omega)
  obtain ⟨vr, hcell, hrow⟩ := hrows (c.length - 1) (by simp; omega)
  obtain ⟨ar, capr, rfl, g3, g4⟩ := hrow.shape
  simp only [List.getElem_map, List.getElem_range, List.length_map, List.length_range] at hcell hrow g1 g3 ⊢
  have hc12 := hc1.trans hc2
  have hsz2 := hc12.size
  go_wp2_with fail
  go_loopw [10, 12, 31] (fun v _ i wr => ∃ (j : Nat), j ≤ m ∧ i = .int .i64 j ∧ Own wr w2.heap.size 3 v ((List.range j).map fun q => (pas c bf q (c.length - 1)).left) ∧ Chg (NewB w2.heap.size) w2 wr)
   (fun _ _ i _ => m - (intOf i).toNat)
  case atStart => exact ⟨0, by omega, rfl, Own.nil _ _ _, Chg.refl _ _⟩
  case round =>
   obtain ⟨j, hj, rfl, hown, hch⟩ := hrel
   have hszr := hch.size
   by_cases hjm : j < m
   ·obtain ⟨br, offr, rfl, _, hps⟩ := hrow.passes (by simp; omega)
    obtain ⟨p0, p1⟩ := hps j (by simp; omega)
    simp only [List.getElem_map, List.getElem_range] at p0 p1
    have p0' := hch.cellNew (Nat.le_refl _) p0
    have p1' := hch.cellNew (Nat.le_refl _) p1
    clear hps p0 p1
    obtain ⟨X, hX⟩ : ∃ X, X = (pas c bf j (c.length - 1)).left := ⟨_, rfl⟩
    obtain ⟨Y, hY⟩ : ∃ Y, Y = (pas c bf j (c.length - 1)).taken := ⟨_, rfl⟩
    rw [← hX] at p1'
    rw [← hY] at p0'
    have HX := hid hX; clear hX hY
    obtain ⟨av, capv, hv', _, _⟩ := hown.shape
    simp only [List.length_map, List.length_range] at hv'
    subst hv'
    have hal := hown.keep (S := NoB) ((Chg.refl NoB wr).alloc (.cells #[.int .i64 Y, .int .i64 X] 169)) (fun _ _ _ x => x)
    go_wp2_with (at_builtin; refine wpl_append_intB (wr.alloc (.cells #[.int .i64 Y, .int .i64 X] 169)) rfl _ _ 22 3 rfl Tryz.underlying22 infoInt w2.heap.size _ _ _ hal (by simp; omega) (by simp; omega) _ (by simp) j (by simp) rfl rfl ?_; intro g cap' w3 hown3 hc3 hg3 hlg)
    have hc23 : Chg (NewB w2.heap.size) w2 w3 := (hch.trans ((Chg.refl _ wr).alloc _)).trans (hc3.mono fun q hq x => (hal.lt q x).1)
    go_roundw
    case rel => exact ⟨j + 1, by omega, by go_num, by rw [List.range_succ, List.map_append]; simpa [HX.out] using hown3, hc23⟩
    case measure => simp [intOf]; omega
   ·obtain rfl : j = m := by omega
    go_wp2_with fail
    go_ret2
    exact ⟨_, rfl, by rw [HL.out]; exact hown.isSl.low fun q hq _ => by omega, hc12.trans (hch.mono fun q h1 h2 => by unfold NewB at h2; omega)⟩
 ·have hb : (flowF c bf n != 0) = true := by simp [hf]
  have HL : Hid (leavesF c bf n = []) := by unfold Hid; rw [leavesF, if_neg hf]
  clear hf
  go_enter Tryz.func52, Tryz.ntmps52
  go_wp2_with fail
  refine HF.out.mono ?_
  rintro e w1 ⟨rfl, hc1⟩
  go_wp2_with fail
  go_ret2
  exact ⟨_, rfl, by rw [HL.out]; exact IsSl.nil _ _, hc1⟩
end Go.Proofs.YtplphabekhaoaaaGreatDoor
namespace Go.Proofs.YtplphabekhaoaaaGreatDoor
open Go.RowKit
set_option linter.unusedVariables false
set_option linter.unusedSimpArgs false

theorem lined_flow : flowF [10, 30] [0] 2 = 0 := by decide +kernel
theorem lined_leaves : leavesF [10, 30] [0] 2 = [40, 70] := by
 rw [leavesF, if_pos lined_flow]
 have a00 : (pas [10, 30] [0] 0 0).taken = 0 := by rw [pas_taken]; simp [here]
 have b00 : (pas [10, 30] [0] 0 0).left = 10 := by rw [pas_left, a00]; simp [at']
 have a01 : (pas [10, 30] [0] 0 1).taken = 10 := by rw [pas_taken]; simp [here, b00]
 have b01 : (pas [10, 30] [0] 0 1).left = 40 := by rw [pas_left, a01]; simp [at']
 have a10 : (pas [10, 30] [0] 1 0).taken = 10 := by rw [pas_taken]; simp [here, b00]; decide
 have b10 : (pas [10, 30] [0] 1 0).left = 40 := by rw [pas_left, a10]; simp [at', b01]; decide
 have a11 : (pas [10, 30] [0] 1 1).taken = 40 := by rw [pas_taken]; simp [here, b10, b01]
 have b11 : (pas [10, 30] [0] 1 1).left = 70 := by rw [pas_left, a11]; simp [at']
 simp [leaves, List.range_succ, b01, b11]

end Go.Proofs.YtplphabekhaoaaaGreatDoor
namespace Go.Proofs.YtplphabekhaoaaaGreatDoor
open Go.RowKit
set_option linter.unusedVariables false
set_option linter.unusedSimpArgs false

theorem isSl_of_rep {w : World} {Z : Nat → Prop} {xs : List Int} {v : Value} (h : Rep w Z (avInts xs) v) : IsSl w Z v xs := by
 change Rep w Z (.im xs.length 1 fun j => avI (xs.getD j 0)) v at h
 generalize hn : xs.length = n at h
 cases h with
 | nil => exact .inl ⟨rfl, List.eq_nil_of_length_eq_zero hn⟩
 | im n sz f b off cap c e u hZ h1 h2 hb hc hr =>
  refine .inr ⟨b, off, cap, c, e, by rw [hn], hZ, by omega, h2, hb, fun i hi => ?_⟩
  show c[off + i * 1 + 0]? = some (.int .i64 xs[i])
  have k1 := hc i (by omega)
  have k2 := (hr i (by omega)).eq_v
  rw [k2] at k1
  simpa [hi] using k1
theorem rep_of_isSl {w : World} {A : Nat → Prop} {v : Value} {xs : List Int} (h : IsSl w A v xs) : Rep w A (avInts xs) v := by
 rcases h with ⟨rfl, rfl⟩ | ⟨b, off, cap, c, e, rfl, hb, hl, hm, hh, hi⟩
 ·exact .nil _ _
 ·refine .im _ 1 _ b off cap c e (fun j => .int .i64 (xs.getD j 0)) hb hl hm hh (fun j hj => ?_) fun j hj => .v _
  have : c[off + j * 1 + 0]? = some (.int .i64 (xs[j]'(by omega))) := hi j (by omega)
  have hj' : j < xs.length := by omega
  simpa [hj'] using this
theorem argsLLv {x y : AV} {u : Value} {w : World} {A : Nat → Prop} {us : Array Value} (h : Args w A [x, y, .v u] us) : ∃ v1 v2, us = #[v1, v2, u] ∧ Rep w (fun b => b < w.heap.size ∧ A b) x v1 ∧ Rep w (fun b => b < w.heap.size ∧ A b) y v2 := by
 obtain ⟨h1, h2⟩ := h
 have e2 := (h2 2 (by simp)).eq_v
 refine ⟨us.getD 0 undef, us.getD 1 undef, ?_, h2 0 (by simp), h2 1 (by simp)⟩
 apply Array.ext (by simpa using h1)
 intro i hi hi'
 simp at hi'
 rw [h1] at hi
 match i, hi' with
 | 0, _ => simp [Array.getD_eq_getD_getElem?, h1]
 | 1, _ => simp [Array.getD_eq_getD_getElem?, h1]
 | 2, _ => simpa [Array.getD_eq_getD_getElem?, h1] using e2
theorem argsL {x : AV} {w : World} {A : Nat → Prop} {us : Array Value} (h : Args w A [x] us) : ∃ v1, us = #[v1] ∧ Rep w (fun b => b < w.heap.size ∧ A b) x v1 := by
 obtain ⟨h1, h2⟩ := h
 refine ⟨us.getD 0 undef, ?_, h2 0 (by simp)⟩
 apply Array.ext (by simpa using h1)
 intro i hi hi'
 simp at hi'
 subst hi'
 simp [Array.getD_eq_getD_getElem?, h1]
theorem line_Leave_S {c b : List Int} {n : Int} : SpecN Tryz.prog 52 [avInts c, avInts b, avI n] (fun y => y = .tup [avInts (leavesF c b n), avI (flowF c b n)]) := by
 intro w us ha
 obtain ⟨v1, v2, rfl, q1, q2⟩ := argsLLv ha
 refine (leave_any v1 v2 c b n _ _ w (isSl_of_rep q1) (isSl_of_rep q2)).mono ?_
 rintro e w' ⟨v, rfl, hv, hc⟩
 refine ⟨_, _, rfl, rfl, .tup _ _ rfl fun j hj => ?_, hc, trivial⟩
 match j, hj with
 | 0, _ => exact (rep_of_isSl hv).keep fun b hb hl => ⟨rfl, hl, fun h => absurd h (Nat.not_lt.2 hb)⟩
 | 1, _ => exact .v _
end Go.Proofs.YtplphabekhaoaaaGreatDoor
namespace Go.Proofs.YtplphabekhaoaaaGreatDoor
open Go.RowKit
set_option linter.unusedVariables false
set_option linter.unusedSimpArgs false
set_option maxRecDepth 100000 in
theorem rk_errs {xs : List Int} (hl : xs.length ≤ 1000000000) :
  SpecN Tryz.prog 56 [avInts xs] (fun y => y = avI (errsF xs)) := by
 refine SpecN.of_VCN Tryz.func56 rfl Tryz.ntmps56 (Nle rfl) fun w A hB => ?_
 have hnew : True := trivial
 refine VC.sr ?_
 refine VO.ma rfl rfl rfl rfl ?_
 refine VO.nil ?_
 refine VC.seq ?_
 refine VC.sr ?_
 refine VO.mv rfl rfl rfl rfl ?_
 refine VO.val rfl rfl (OpV.len_im rfl Tryz.underlying130 rfl) ?_
 refine VO.mv rfl rfl rfl rfl ?_
 refine VO.nil ?_
 refine VC.block ?_
 refine VC.loopK [(5, _), (6, _)] ⟨rfl, rfl, trivial⟩ ({q : Nat // q ≤ xs.length ∧ ∀ j, j < q → xs.getD j 0 = 0}) (fun (iZ : {q : Nat // q ≤ xs.length ∧ ∀ j, j < q → xs.getD j 0 = 0}) => match iZ with | ⟨q, hq, hn⟩ => [(7, avI (q : Int))]) (fun (iZ : {q : Nat // q ≤ xs.length ∧ ∀ j, j < q → xs.getD j 0 = 0}) => match iZ with | ⟨q, hq, hn⟩ => []) (fun (iZ : {q : Nat // q ≤ xs.length ∧ ∀ j, j < q → xs.getD j 0 = 0}) => match iZ with | ⟨q, hq, hn⟩ => 0) (fun (iZ : {q : Nat // q ≤ xs.length ∧ ∀ j, j < q → xs.getD j 0 = 0}) => match iZ with | ⟨q, hq, hn⟩ => xs.length - q) ⟨0, Nat.zero_le _, fun j hj => absurd hj (Nat.not_lt_zero j)⟩ (Le.mk hB [] ⟨rfl, rfl, rfl, trivial⟩ rfl rfl (Nat.le_refl _)) ?_
 rintro ⟨q, hq, hn⟩
 show VC _ _ _ _ ⟨[(7, avI (q : Int))] ++ [(5, _), (6, _)], [], 0⟩
 refine VC.sr ?_
 refine VO.val rfl rfl (OpV.lss rfl rfl rfl) ?_
 refine VO.nil ?_
 refine VC.seq ?_
 refine VC.cond rfl (fun aH1b => ?_) (fun aH1b => ?_)
 ·have aH1 := aH1b
  try simp only [qqT, qqF, qqN, qqM, qqL, qqE] at aH1
  refine VC.skip ?_
  refine VC.seq ?_
  refine VC.block ?_
  refine VC.sr ?_
  refine VO.val rfl rfl (OpV.indexAddr_1 rfl Tryz.underlying130 Tryz.sizeOf38 rfl rfl rfl (by omega)) ?_
  refine VO.val rfl rfl (OpV.load_at rfl hB OutW.no Tryz.isAgg38 rfl rfl) ?_
  refine VO.ma rfl rfl rfl rfl ?_
  refine VO.nil ?_
  refine VC.sr ?_
  refine VO.mv rfl rfl rfl rfl ?_
  refine VO.val rfl rfl (OpV.neq rfl rfl rfl) ?_
  refine VO.nil ?_
  refine VC.cond rfl (fun h1b => ?_) (fun h1b => ?_)
  ·have h1 := h1b
   try simp only [qqT, qqF, qqN, qqM, qqL, qqE] at h1
   refine VC.sr ?_
   refine VO.mv rfl rfl rfl rfl ?_
   refine VO.ma rfl rfl rfl rfl ?_
   refine VO.nil ?_
   refine VC.ret ?_
   exact Exists.intro _ (And.intro (RetN.one Tryz.results56 (ResN.v rfl)) (by rw [errsF_at (q := q) (by omega) hn h1]))
  ·have h1 := h1b
   try simp only [qqT, qqF, qqN, qqM, qqL, qqE] at h1
   refine VC.skip ?_
   refine VC.region ?_
   refine VO.val rfl rfl (OpV.add rfl rfl rfl (by unfold fits; omega)) ?_
   refine VO.mv rfl rfl rfl rfl ?_
   refine VO.nil ?_
   exact Exists.intro (⟨q + 1, by omega, lt_succ_cases hn ((by omega))⟩) (And.intro (Le.mk hB [] ⟨rfl, rfl, rfl, trivial⟩ rfl rfl (Nat.le_refl _)) (by first | omega | (show _ < _; omega) | (simp only []; omega)))
 ·have aH1 := aH1b
  try simp only [qqT, qqF, qqN, qqM, qqL, qqE] at aH1
  refine VC.exit ?_
  refine VC.sr ?_
  refine VO.ma rfl rfl rfl rfl ?_
  refine VO.nil ?_
  refine VC.ret ?_
  exact Exists.intro _ (And.intro (RetN.one Tryz.results56 (ResN.v rfl)) (by rw [errsF_none (fun j hj => hn j (by omega))]))
def rdL : List LookS := [⟨⟨#[98]⟩, ⟨#[99]⟩, 0, 1, true, ⟨#[109]⟩, ⟨#[110]⟩, ⟨#[114]⟩⟩]
theorem one_sz {α : Type} [Inhabited α] {f : α → ByteArray} {x : α} (h : (f x).size ≤ 1000000) (h0 : (f default).size ≤ 1000000) (i : Nat) : (f ([x].getD i default)).size ≤ 1000000 := by
 match i with
 | 0 => exact h
 | i + 1 => exact h0
theorem rdL_sm : SmLk rdL := ⟨by decide, one_sz (f := LookS.board) (by decide) (by decide), one_sz (f := LookS.name) (by decide) (by decide), one_sz (f := LookS.machine) (by decide) (by decide), one_sz (f := LookS.nozzle) (by decide) (by decide), one_sz (f := LookS.reel) (by decide) (by decide)⟩
theorem rdL_ok : millE rdL = 0 := by decide +kernel
theorem rdL_n : (millN rdL).1 = 1000000 := by decide +kernel
def rdP : List PaceS := [⟨⟨#[112]⟩, 10, []⟩]
def rdO : List OrdrS := [⟨⟨#[111]⟩, ⟨#[112]⟩, 3, 0, 5⟩]
theorem rdP_sm : SmPc rdP := ⟨by decide, one_sz (f := PaceS.product) (by decide) (by decide), fun i => by
 match i with
 | 0 => decide
 | i + 1 => show ([] : List NeedS).length ≤ _; decide, fun i j => by
 match i with
 | 0 => show (([] : List NeedS).getD j default).key.size ≤ _; simp; decide
 | i + 1 => show (([] : List NeedS).getD j default).key.size ≤ _; simp; decide⟩
theorem rdO_sm : SmOr rdO := ⟨by decide, one_sz (f := OrdrS.key) (by decide) (by decide), one_sz (f := OrdrS.product) (by decide) (by decide)⟩
theorem rd_sch : scheF rdP rdO [0] 1 0 = 0 := by decide +kernel
theorem rd_from : fromP rdP rdO [0] 1 0 0 = 1 := by decide +kernel
theorem rd_end : endP rdP rdO [0] 1 0 0 = 31 := by decide +kernel
theorem rd_times : timesR rdP rdO [0] 1 0 = [⟨1, 31⟩] := by
 rw [timesR, if_pos rd_sch]
 show [winP rdP rdO [0] 1 0 0] = _
 rw [winP, rd_from, rd_end]
theorem pace_nil {w : World} {Z : Nat → Prop} {u : Value} {a : ByteArray} {b : Int} (h : Rep w Z (.agg [avS a, avI b, .v (.slice none 0 0)]) u) : Rep w Z (avPc ⟨a, b, []⟩) u := by
 cases h with
 | agg cs us hl hr =>
  refine .agg _ us hl fun j hj => ?_
  match j, hj with
  | 0, _ => exact hr 0 (by simp)
  | 1, _ => exact hr 1 (by simp)
  | 2, _ =>
   have := hr 2 (by simp)
   show Rep w Z (.im 0 2 _) _
   rw [this.eq_v]; exact .nil _ _
set_option maxRecDepth 100000 in
set_option maxHeartbeats 4000000 in
theorem rk_ready   :
  SpecN Tryz.prog 51 [] (fun y => y = avB true) := by
 refine SpecN.of_VCN Tryz.func51 rfl Tryz.ntmps51 (Nle rfl) fun w A hB => ?_
 have hnew : True := trivial
 refine VC.sr ?_
 refine VO.ma rfl rfl rfl rfl ?_
 refine VO.nil ?_
 refine VC.sr ?_
 refine VO.val rfl rfl (OpV.build (pls := #[(0, 1), (1, 1), (2, 1), (3, 1), (4, 1)]) rfl Tryz.zeroValue154 Tryz.underlying154 (fun w => by kernel_rfl) rfl rfl) ?_
 refine VO.op rfl (OpE.buildSlice (zc := #[.string ⟨#[]⟩, .string ⟨#[]⟩, .int .i64 0, .int .i64 0, .int .i64 0]) rfl hB rfl Tryz.underlying155 Tryz.sizeOf154 Tryz.zeroValue154 (by decide) (by decide) (by kernel_rfl) rfl rfl ?_)
 refine VO.le _ (Le.recast (t := 13) (y := avL panL) rfl (fun w Z u h => Rep.rowL (xs := panL) rfl h)) ?_
 refine VO.val rfl rfl (OpV.build (pls := #[(0, 1), (1, 1), (2, 1), (3, 1)]) rfl Tryz.zeroValue157 Tryz.underlying157 (fun w => by kernel_rfl) rfl rfl) ?_
 refine VO.op rfl (OpE.call rfl hB rfl Tryz.call125 rfl (SpecN.spec (panel_Needs (p := panP) panP_sm)) ?_)
 rintro _ rfl
 refine VO.le _ (Le.recast (t := 15) (y := .tup [avL ([⟨⟨#[99, 97, 112]⟩, 1⟩] : List NeedS), avI 0]) rfl (fun w Z u h => by rw [← panP_needs, ← panP_ok]; exact h)) ?_
 refine VO.mv rfl rfl rfl rfl ?_
 refine VO.val rfl rfl (OpV.extract rfl rfl rfl) ?_
 refine VO.val rfl rfl (OpV.extract rfl rfl rfl) ?_
 refine VO.ma rfl rfl rfl rfl ?_
 refine VO.ma rfl rfl rfl rfl ?_
 refine VO.nil ?_
 refine VC.sr ?_
 refine VO.op rfl (OpE.buildSlice (zc := #[.string ⟨#[]⟩]) rfl hB rfl Tryz.underlying94 Tryz.sizeOf9 Tryz.zeroValue9 (by decide) (by decide) (by kernel_rfl) rfl rfl ?_)
 refine VO.le _ (Le.recast (t := 19) (y := avStrs loadS) rfl (fun w Z u h => Rep.strs (xs := loadS) rfl h)) ?_
 refine VO.op rfl (OpE.buildSlice (zc := #[.string ⟨#[]⟩]) rfl hB rfl Tryz.underlying94 Tryz.sizeOf9 Tryz.zeroValue9 (by decide) (by decide) (by kernel_rfl) rfl rfl ?_)
 refine VO.le _ (Le.recast (t := 20) (y := avStrs [⟨#[97]⟩]) rfl (fun w Z u h => Rep.strs (xs := [⟨#[97]⟩]) rfl h)) ?_
 refine VO.op rfl (OpE.buildSlice (zc := #[.string ⟨#[]⟩]) rfl hB rfl Tryz.underlying94 Tryz.sizeOf9 Tryz.zeroValue9 (by decide) (by decide) (by kernel_rfl) rfl rfl ?_)
 refine VO.le _ (Le.recast (t := 21) (y := avStrs [⟨#[98]⟩]) rfl (fun w Z u h => Rep.strs (xs := [⟨#[98]⟩]) rfl h)) ?_
 refine VO.op rfl (OpE.buildSlice (zc := #[.slice none 0 0, .slice none 0 0]) rfl hB rfl Tryz.underlying91 Tryz.sizeOf94 Tryz.zeroValue94 (by decide) (by decide) (by kernel_rfl) rfl rfl ?_)
 refine VO.le _ (Le.recast (t := 22) (y := avM loadP) rfl (fun w Z u h => Rep.listM (xs := loadP) rfl h)) ?_
 refine VO.op rfl (OpE.call rfl hB rfl Tryz.call76 rfl (SpecN.spec (setup_Total load_sms load_smss)) ?_)
 rintro _ rfl
 refine VO.le _ (Le.recast (t := 23) (y := .tup [avI 2, avI 0]) rfl (fun w Z u h => by rw [load_two, load_ok] at h; exact h)) ?_
 refine VO.mv rfl rfl rfl rfl ?_
 refine VO.val rfl rfl (OpV.extract rfl rfl rfl) ?_
 refine VO.val rfl rfl (OpV.extract rfl rfl rfl) ?_
 refine VO.ma rfl rfl rfl rfl ?_
 refine VO.ma rfl rfl rfl rfl ?_
 refine VO.nil ?_
 refine VC.sr ?_
 refine VO.op rfl (OpE.buildSlice (zc := #[.int .i64 0, .int .i64 0]) rfl hB rfl Tryz.underlying22 Tryz.sizeOf3 Tryz.zeroValue3 (by decide) (by decide) (by kernel_rfl) rfl rfl ?_)
 refine VO.le _ (Le.lits (t := 27) (xs := [10, 30]) rfl rfl) ?_
 refine VO.op rfl (OpE.buildSlice (zc := #[.int .i64 0]) rfl hB rfl Tryz.underlying22 Tryz.sizeOf3 Tryz.zeroValue3 (by decide) (by decide) (by kernel_rfl) rfl rfl ?_)
 refine VO.le _ (Le.lits (t := 28) (xs := [0]) rfl rfl) ?_
 refine VO.op rfl (OpE.call rfl hB rfl Tryz.call52 rfl (SpecN.spec (line_Leave_S)) ?_)
 rintro _ rfl
 refine VO.le _ (Le.recast (t := 29) (y := .tup [avInts [40, 70], avI 0]) rfl (fun w Z u h => by rw [lined_leaves, lined_flow] at h; exact h)) ?_
 refine VO.mv rfl rfl rfl rfl ?_
 refine VO.val rfl rfl (OpV.extract rfl rfl rfl) ?_
 refine VO.val rfl rfl (OpV.extract rfl rfl rfl) ?_
 refine VO.ma rfl rfl rfl rfl ?_
 refine VO.ma rfl rfl rfl rfl ?_
 refine VO.nil ?_
 refine VC.sr ?_
 refine VO.val rfl rfl (OpV.build (pls := #[(0, 1), (1, 1), (2, 1), (3, 1), (4, 1), (5, 1), (6, 1), (7, 1)]) rfl Tryz.zeroValue163 Tryz.underlying163 (fun w => by kernel_rfl) rfl rfl) ?_
 refine VO.op rfl (OpE.buildSlice (zc := #[.string ⟨#[]⟩, .string ⟨#[]⟩, .int .i64 0, .int .i64 0, .bool false, .string ⟨#[]⟩, .string ⟨#[]⟩, .string ⟨#[]⟩]) rfl hB rfl Tryz.underlying164 Tryz.sizeOf163 Tryz.zeroValue163 (by decide) (by decide) (by kernel_rfl) rfl rfl ?_)
 refine VO.le _ (Le.recast (t := 34) (y := avL rdL) rfl (fun w Z u h => Rep.rowL (xs := rdL) rfl h)) ?_
 refine VO.op rfl (OpE.call rfl hB rfl Tryz.call126 rfl (SpecN.spec (inspect_Million rdL_sm)) ?_)
 rintro _ rfl
 refine VO.le _ (Le.recast (t := 35) (y := .tup [.agg [avI 1000000, avI ((millN rdL).2 : Int)], avI 0]) rfl (fun w Z u h => by rw [rdL_n, rdL_ok] at h; exact h)) ?_
 refine VO.mv rfl rfl rfl rfl ?_
 refine VO.val rfl rfl (OpV.extract rfl rfl rfl) ?_
 refine VO.val rfl rfl (OpV.extract rfl rfl rfl) ?_
 refine VO.op rfl (OpE.alloc rfl hB rfl Tryz.zeroValue159 rfl ?_)
 intro g7
 refine VO.op rfl (OpE.store (i := 0) rfl hB rfl Tryz.sizeOf159 rfl rfl rfl rfl rfl rfl (Nle rfl) trivial ?_)
 refine VO.ma rfl rfl rfl rfl ?_
 refine VO.nil ?_
 refine VC.sr ?_
 refine VO.val rfl rfl (OpV.build (pls := #[(0, 1), (1, 1), (2, 1)]) rfl Tryz.zeroValue60 Tryz.underlying60 (fun w => by kernel_rfl) rfl rfl) ?_
 refine VO.le _ (Le.recast (t := 39) (y := avPc ⟨⟨#[112]⟩, 10, []⟩) rfl (fun w Z u h => pace_nil h)) ?_
 refine VO.op rfl (OpE.buildSlice (zc := #[.string ⟨#[]⟩, .int .i64 0, .slice none 0 0]) rfl hB rfl Tryz.underlying26 Tryz.sizeOf60 Tryz.zeroValue60 (by decide) (by decide) (by kernel_rfl) rfl rfl ?_)
 refine VO.le _ (Le.recast (t := 40) (y := avL rdP) rfl (fun w Z u h => Rep.rowL (xs := rdP) rfl h)) ?_
 refine VO.val rfl rfl (OpV.build (pls := #[(0, 1), (1, 1), (2, 1), (3, 1), (4, 1)]) rfl Tryz.zeroValue35 Tryz.underlying35 (fun w => by kernel_rfl) rfl rfl) ?_
 refine VO.op rfl (OpE.buildSlice (zc := #[.string ⟨#[]⟩, .string ⟨#[]⟩, .int .i64 0, .int .i64 0, .int .i64 0]) rfl hB rfl Tryz.underlying28 Tryz.sizeOf35 Tryz.zeroValue35 (by decide) (by decide) (by kernel_rfl) rfl rfl ?_)
 refine VO.le _ (Le.recast (t := 42) (y := avL rdO) rfl (fun w Z u h => Rep.rowL (xs := rdO) rfl h)) ?_
 refine VO.op rfl (OpE.buildSlice (zc := #[.int .i64 0]) rfl hB rfl Tryz.underlying22 Tryz.sizeOf3 Tryz.zeroValue3 (by decide) (by decide) (by kernel_rfl) rfl rfl ?_)
 refine VO.le _ (Le.lits (t := 43) (xs := [0]) rfl rfl) ?_
 refine VO.op rfl (OpE.call rfl hB rfl Tryz.call33 rfl (SpecN.spec (plan_Times rdP_sm rdO_sm (by decide))) ?_)
 rintro _ rfl
 refine VO.le _ (Le.recast (t := 44) (y := .tup [avL ([⟨1, 31⟩] : List WinS), avI 0]) rfl (fun w Z u h => by rw [rd_times, rd_sch] at h; exact h)) ?_
 refine VO.mv rfl rfl rfl rfl ?_
 refine VO.val rfl rfl (OpV.extract rfl rfl rfl) ?_
 refine VO.val rfl rfl (OpV.extract rfl rfl rfl) ?_
 refine VO.ma rfl rfl rfl rfl ?_
 refine VO.ma rfl rfl rfl rfl ?_
 refine VO.nil ?_
 refine VC.sr ?_
 refine VO.mv rfl rfl rfl rfl ?_
 refine VO.mv rfl rfl rfl rfl ?_
 refine VO.mv rfl rfl rfl rfl ?_
 refine VO.mv rfl rfl rfl rfl ?_
 refine VO.mv rfl rfl rfl rfl ?_
 refine VO.op rfl (OpE.buildSlice (zc := #[.int .i64 0, .int .i64 0, .int .i64 0, .int .i64 0, .int .i64 0]) rfl hB rfl Tryz.underlying130 Tryz.sizeOf38 Tryz.zeroValue38 (by decide) (by decide) (by kernel_rfl) rfl rfl ?_)
 refine VO.le _ (Le.lits (t := 52) (xs := [0, 0, 0, 0, 0]) rfl rfl) ?_
 refine VO.op rfl (OpE.call rfl hB rfl Tryz.call56 rfl (SpecN.spec (rk_errs (by decide))) ?_)
 rintro _ rfl
 refine VO.val rfl rfl (OpV.eql rfl rfl rfl) ?_
 refine VO.le _ (Le.boolT (t := 54) rfl (decide_eq_true rfl)) ?_
 refine VO.mv rfl rfl rfl rfl ?_
 refine VO.opY rfl rfl rfl rfl rfl ?_
 refine OpE.val (W := NoB) (OpV.move (.inl rfl) rfl) rfl ?_
 refine VO.opY rfl rfl rfl rfl rfl ?_
 refine OpE.val (W := NoB) (OpV.len_im rfl Tryz.underlying58 rfl) rfl ?_
 refine VO.opY rfl rfl rfl rfl rfl ?_
 refine OpE.val (W := NoB) (OpV.eql rfl rfl rfl) rfl ?_
 refine VO.le _ (Le.boolT (t := 58) rfl (decide_eq_true rfl)) ?_
 refine VO.val rfl rfl (OpV.pickT rfl rfl rfl rfl rfl) ?_
 refine VO.mv rfl rfl rfl rfl ?_
 refine VO.opY rfl rfl rfl rfl rfl ?_
 refine OpE.val (W := NoB) (OpV.move (.inl rfl) rfl) rfl ?_
 refine VO.opY rfl rfl rfl rfl rfl ?_
 refine OpE.val (W := NoB) (OpV.eql rfl rfl rfl) rfl ?_
 refine VO.le _ (Le.boolT (t := 62) rfl (decide_eq_true rfl)) ?_
 refine VO.val rfl rfl (OpV.pickT rfl rfl rfl rfl rfl) ?_
 refine VO.mv rfl rfl rfl rfl ?_
 refine VO.opY rfl rfl rfl rfl rfl ?_
 refine OpE.val (W := NoB) (OpV.move (.inl rfl) rfl) rfl ?_
 refine VO.opY rfl rfl rfl rfl rfl ?_
 refine OpE.val (W := NoB) (OpV.len_im rfl Tryz.underlying22 rfl) rfl ?_
 refine VO.opY rfl rfl rfl rfl rfl ?_
 refine OpE.val (W := NoB) (OpV.eql rfl rfl rfl) rfl ?_
 refine VO.le _ (Le.boolT (t := 67) rfl (decide_eq_true rfl)) ?_
 refine VO.val rfl rfl (OpV.pickT rfl rfl rfl rfl rfl) ?_
 refine VO.mv rfl rfl rfl rfl ?_
 refine VO.opY rfl rfl rfl rfl rfl ?_
 refine OpE.val (W := NoB) (OpV.fieldAddrO 0 rfl Tryz.underlying159 rfl rfl Tryz.sizeOf3 rfl) rfl ?_
 refine VO.opY rfl rfl rfl rfl rfl ?_
 refine OpE.val (W := NoB) (OpV.load_own (i := 0) rfl hB Tryz.isAgg3 rfl rfl rfl (fun h => h)) rfl ?_
 refine VO.opY rfl rfl rfl rfl rfl ?_
 refine OpE.val (W := NoB) (OpV.eql rfl rfl rfl) rfl ?_
 refine VO.le _ (Le.boolT (t := 72) rfl (decide_eq_true rfl)) ?_
 refine VO.val rfl rfl (OpV.pickT rfl rfl rfl rfl rfl) ?_
 refine VO.mv rfl rfl rfl rfl ?_
 refine VO.opY rfl rfl rfl rfl rfl ?_
 refine OpE.val (W := NoB) (OpV.move (.inl rfl) rfl) rfl ?_
 refine VO.opY rfl rfl rfl rfl rfl ?_
 refine OpE.val (W := NoB) (OpV.len_im rfl Tryz.underlying53 rfl) rfl ?_
 refine VO.opY rfl rfl rfl rfl rfl ?_
 refine OpE.val (W := NoB) (OpV.eql rfl rfl rfl) rfl ?_
 refine VO.le _ (Le.boolT (t := 77) rfl (decide_eq_true rfl)) ?_
 refine VO.val rfl rfl (OpV.pickT rfl rfl rfl rfl rfl) ?_
 refine VO.mv rfl rfl rfl rfl ?_
 refine VO.opY rfl rfl rfl rfl rfl ?_
 refine OpE.val (W := NoB) (OpV.move (.inl rfl) rfl) rfl ?_
 refine VO.opY rfl rfl rfl rfl rfl ?_
 refine OpE.val (W := NoB) (OpV.indexAddr_E rfl Tryz.underlying53 Tryz.sizeOf72 rfl rfl rfl (by show 0 < 1; decide)) rfl ?_
 refine VO.opY rfl rfl rfl rfl rfl ?_
 refine OpE.val (W := NoB) (OpV.fieldAddr_atO 1 rfl Tryz.underlying72 rfl rfl Tryz.sizeOf3 rfl rfl) rfl ?_
 refine VO.opY rfl rfl rfl rfl rfl ?_
 refine OpE.val (W := NoB) (OpV.load_at rfl hB OutW.no Tryz.isAgg3 rfl rfl) rfl ?_
 refine VO.opY rfl rfl rfl rfl rfl ?_
 refine OpE.val (W := NoB) (OpV.eql rfl rfl rfl) rfl ?_
 refine VO.le _ (Le.boolT (t := 84) rfl (decide_eq_true rfl)) ?_
 refine VO.val rfl rfl (OpV.pickT rfl rfl rfl rfl rfl) ?_
 refine VO.ma rfl rfl rfl rfl ?_
 refine VO.nil ?_
 refine VC.ret ?_
 exact Exists.intro _ (And.intro (RetN.one Tryz.results51 (ResN.v rfl)) (rfl))
end Go.Proofs.YtplphabekhaoaaaGreatDoor
namespace Go.Proofs.YtplphabekhaoaaaGreatDoor
open Go.RowKit
set_option linter.unusedVariables false
set_option linter.unusedSimpArgs false

section
variable {s parts : List ByteArray} {later : List (List ByteArray)}
end
theorem chg_set {s t : List ByteArray} {j : Nat} {x : ByteArray} (ht : t.length = s.length) (hj : j < s.length) (he : t.getD j ByteArray.empty = s.getD j ByteArray.empty) (hx : x ≠ s.getD j ByteArray.empty) (hx0 : x ≠ ε) :
  ∀ q : Nat, loadN (chgF s (t.set j x) q) = loadN (chgF s t q) + (if j < q then 1 else 0)
 | 0 => by simp [chgF, loadN]
 | q + 1 => by
  have ih := chg_set ht hj he hx hx0 q
  by_cases hq : q = j
  ·subst hq
   have g1 : (t.set q x).getD q ByteArray.empty = x := by simp [show q < t.length by omega]
   have c1 : sEq (s.getD q ByteArray.empty) (t.getD q ByteArray.empty) = true := by rw [he]; exact sEq_refl _
   have c2 : sEq (s.getD q ByteArray.empty) ((t.set q x).getD q ByteArray.empty) = false := Bool.eq_false_iff.2 fun h => by rw [g1] at h; exact hx (sEq_eq.1 h).symm
   have e1 : (if q < q then (1 : Int) else 0) = 0 := if_neg (by omega)
   have e2 : (if q < q + 1 then (1 : Int) else 0) = 1 := if_pos (by omega)
   have e3 : (if sEq ((t.set q x).getD q ByteArray.empty) ε = true then (0 : Int) else 1) = 1 := if_neg (by rw [g1]; intro h; exact hx0 (sEq_eq.1 h))
   rw [chgF, if_neg (by rw [c2]; simp), loadN_snoc, ih, chgF, if_pos c1, e1, e2]
   show _ + 0 + (if sEq ((t.set q x).getD q ByteArray.empty) ε = true then (0 : Int) else 1) = _
   rw [e3]
   omega
  ·have g1 : (t.set j x).getD q ByteArray.empty = t.getD q ByteArray.empty := by
    simp only [List.getD_eq_getElem?_getD, List.getElem?_set]
    rw [if_neg (fun h => hq h.symm)]
   have e2 : (if j < q + 1 then (1 : Int) else 0) = if j < q then 1 else 0 := by
    by_cases h : j < q
    ·rw [if_pos h, if_pos (by omega)]
    ·rw [if_neg h, if_neg (by omega)]
   rw [chgF, chgF, g1, e2]
   split
   ·exact ih
   ·rw [loadN_snoc, loadN_snoc, ih]; simp only; omega
theorem chg_self (s : List ByteArray) : ∀ q : Nat, loadN (chgF s s q) = 0
 | 0 => rfl
 | q + 1 => by rw [chgF, if_pos (sEq_refl _), chg_self s q]
theorem nextL_old {s l parts : List ByteArray} {later : List (List ByteArray)} (hl : ∀ x ∈ l, x ∈ parts) : ∀ (q : Nat) (i : Nat), q ≤ l.length → i < s.length → (nextL parts later s (l.take q)).getD i ByteArray.empty = s.getD i ByteArray.empty ∨ (nextL parts later s (l.take q)).getD i ByteArray.empty ∈ parts
 | 0, i, _, hi => .inl rfl
 | q + 1, i, hq, hi => by
  rw [nextL_take_succ (by omega)]
  have ih := nextL_old (s := s) (later := later) hl q i (by omega) hi
  simp only [List.getD_eq_getElem?_getD, List.getElem?_set] at ih ⊢
  split
  ·rename_i h
   rw [if_pos (by rw [h, nextL_len]; exact hi)]
   refine .inr (hl _ ?_)
   simp [show q < l.length by omega]
  ·exact ih
theorem next_loads {s parts : List ByteArray} {later : List (List ByteArray)} (hf : Fits s parts) : ∀ q : Nat, q ≤ (missF s parts).length → loadN (chgF s (nextL parts later s ((missF s parts).take q)) s.length) = q
 | 0, _ => chg_self s _
 | q + 1, hq => by
  have ih := next_loads (later := later) hf q (by omega)
  have hnd := missF_nodup (s := s) hf.pnd
  have hns : ∀ x ∈ missF s parts, x ∉ s := fun x hx => (missF_mem.1 hx).2
  have hq' : q < (missF s parts).length := by omega
  have hx := nextL_not (parts := parts) (later := later) hnd hns hq'
  have hxm : (missF s parts).getD q ByteArray.empty ∈ missF s parts := by simp [hq']
  have hxp := (missF_mem.1 hxm).1
  have hcl : (nextL parts later s ((missF s parts).take q)).length = s.length := nextL_len _ _ _ _
  obtain ⟨k1, k2, k3⟩ := slotF_in (later := later) (nextL_fits (later := later) hf hnd hns q (by omega)) hxp hx
  rw [hcl] at k2
  rw [nextL_take_succ hq', chg_set hcl (by omega) ?_ ?_ (hf.keys _ hxp), ih, if_pos (by omega)]
  ·rfl
  ·rcases nextL_old (s := s) (l := missF s parts) (parts := parts) (later := later) (fun x hx => (missF_mem.1 hx).1) q (slotF (nextL parts later s ((missF s parts).take q)) parts later).toNat (by omega) (by omega) with h | h
   ·exact h
   ·exact absurd h (has_not.1 k3)
  ·intro e
   refine hns _ hxm ?_
   rw [e]
   simp [show (slotF (nextL parts later s ((missF s parts).take q)) parts later).toNat < s.length by omega]
theorem nextF_loads {s parts : List ByteArray} {later : List (List ByteArray)} (hf : Fits s parts) : loadN (chgF s (nextF s parts later) s.length) = (missF s parts).length := by
 have := next_loads (later := later) hf (missF s parts).length (Nat.le_refl _)
 rwa [List.take_length] at this
end Go.Proofs.YtplphabekhaoaaaGreatDoor
namespace Go.Proofs.YtplphabekhaoaaaGreatDoor
open Go.RowKit
set_option linter.unusedVariables false
set_option linter.unusedSimpArgs false

theorem Le.erase {B : Bs} {s : St'} (i : Nat) : Le B s ⟨s.sl, s.hp.eraseIdx i, s.k⟩ := fun a w hr => hr.erase i
set_option maxRecDepth 100000 in
theorem slices_CloneM {xs : List (List ByteArray)} (hl : xs.length ≤ 1000000000) :
  SpecH Tryz.prog 134 [avM xs] [] (fun y hp' => ∃ u, y = .v u ∧ hp' = [.row u (xs.length) (1) (listM xs) (94)]) := by
 refine SpecH.of_VC Tryz.func134 rfl Tryz.ntmps134 (Nle rfl) fun w A hB => ?_
 have hnew : True := trivial
 refine VC.sr ?_
 refine VO.ma rfl rfl rfl rfl ?_
 refine VO.nil ?_
 refine VC.seq ?_
 refine VC.sr ?_
 refine VO.mv rfl rfl rfl rfl ?_
 refine VO.op rfl (OpE.eqNil rfl rfl Tryz.underlying91 rfl ?_)
 intro b4 hb4
 refine VO.nil ?_
 refine VC.cond rfl (fun h0b => ?_) (fun h0b => ?_)
 ·have h0 := h0b
  try simp only [qqT, qqF, qqN, qqM, qqL, qqE] at h0
  refine VC.sr ?_
  refine VO.ma rfl rfl rfl rfl ?_
  refine VO.nil ?_
  obtain rfl : xs = [] := List.eq_nil_of_length_eq_zero (hb4 h0)
  refine VC.le _ (Le.nilRow 1 94) ?_
  refine VC.le ⟨[(2, _)], [_], 0⟩ (Le.pick hB [0] ⟨rfl, trivial⟩ rfl rfl (Nat.le_refl _)) ?_
  refine VC.ret ?_
  exact Exists.intro _ (And.intro (RetV.one Tryz.results134 (ResV.tmp rfl)) (⟨_, rfl, rfl⟩))
 ·have h0 := h0b
  try simp only [qqT, qqF, qqN, qqM, qqL, qqE] at h0
  refine VC.skip ?_
  refine VC.sr ?_
  refine VO.op rfl (OpE.buildSlice0 rfl hB rfl Tryz.underlying91 Tryz.sizeOf94 ?_)
  intro g5
  refine VO.mv rfl rfl rfl rfl ?_
  refine VO.op rfl (OpE.appendP (i := 0) rfl hB rfl Tryz.underlying91 (infoOf Tryz.t94 1 (by kernel_rfl) rfl rfl) rfl (by decide) (by decide) rfl rfl (.im rfl) (fun _ _ => rfl) (by omega) (tab_M xs) (fun _ _ => trivial) ?_)
  intro u7
  refine VO.ma rfl rfl rfl rfl ?_
  refine VO.nil ?_
  rw [Nat.zero_add]
  refine VC.le ⟨[(2, _)], [_], 0⟩ (Le.pick hB [0] ⟨rfl, trivial⟩ rfl rfl (Nat.le_refl _)) ?_
  refine VC.ret ?_
  exact Exists.intro _ (And.intro (RetV.one Tryz.results134 (ResV.tmp rfl)) (⟨_, rfl, rfl⟩))

theorem ins_one {l : List AV} {F : Nat → AV} {X : AV} (hF : F 0 = X) : l.take (0 + 0 * 1) ++ tab (1 * 1) F ++ l.drop (0 + 0 * 1 + 1 * 1) = X :: l.drop 1 := by
 simp [tab, hF]
theorem ins_many {p : List (List ByteArray)} {l : List AV} {F : Nat → AV} (hl : l.length = p.length + 1) (hF : ∀ j, j < p.length → F j = Sx1.cell (p.getD j default)) :
  l.take (0 + 1 * 1) ++ tab (p.length * 1) F ++ l.drop (0 + 1 * 1 + p.length * 1) = l.take 1 ++ listM p := by
 have h1 : l.drop (0 + 1 * 1 + p.length * 1) = [] := List.drop_eq_nil_of_le (by omega)
 have h2 : tab (p.length * 1) F = listM p := by
  apply List.ext_getElem (by rw [tab_len, listM_len, Nat.mul_one])
  intro i h1 h2
  rw [tab_get]
  rw [listM_len] at h2
  rw [hF i h2]
  simp [listM, h2]
 rw [h1, h2, List.append_nil]
theorem ins_last {x : List ByteArray} {p : List (List ByteArray)} {l : List AV} {F : Nat → AV} (hF : F 0 = Sx1.cell x) (hl : 0 < l.length) : (l.take 1 ++ listM p).take (0 + 0 * 1) ++ tab (1 * 1) F ++ (l.take 1 ++ listM p).drop (0 + 0 * 1 + 1 * 1) = listM (x :: p) := by
 rw [ins_one hF]
 match l, hl with
 | y :: l, _ => simp [listM]
set_option maxRecDepth 100000 in
set_option maxHeartbeats 4000000 in
theorem slices_InsertM {p : List (List ByteArray)} {x : List ByteArray} {u : Value} (hl : p.length ≤ 1000000000) :
  SpecH Tryz.prog 133 [.v u, avI 0, avM [x]] [.row u p.length 1 (listM p) 94] (fun y hp' => ∃ u', y = .v u' ∧ hp' = [.row u' (p.length + 1) 1 (listM (x :: p)) 94]) := by
 have hx1 : [x].length = 1 := rfl
 refine SpecH.of_VC Tryz.func133 rfl Tryz.ntmps133 (Nle rfl) fun w A hB => ?_
 have hnew : True := trivial
 refine VC.sr ?_
 refine VO.ma rfl rfl rfl rfl ?_
 refine VO.nil ?_
 refine VC.sr ?_
 refine VO.mv rfl rfl rfl rfl ?_
 refine VO.mv rfl rfl rfl rfl ?_
 refine VO.val rfl rfl (OpV.slice_rowA (i := 0) (l := 0) rfl Tryz.underlying91 Tryz.sizeOf94 rfl rfl ⟨_, _, rfl, rfl⟩ rfl (by omega) (by omega)) ?_
 refine VO.nil ?_
 refine VC.sr ?_
 refine VO.mv rfl rfl rfl rfl ?_
 refine VO.val rfl rfl (OpV.len_im rfl Tryz.underlying91 rfl) ?_
 refine VO.ma rfl rfl rfl rfl ?_
 refine VO.nil ?_
 refine VC.seq ?_
 refine VC.sr ?_
 refine VO.mv rfl rfl rfl rfl ?_
 refine VO.val rfl rfl (OpV.eql rfl rfl rfl) ?_
 refine VO.nil ?_
 refine VC.cond rfl (fun aH1b => ?_) (fun aH1b => ?_)
 ·have aH1 := aH1b
  try simp only [qqT, qqF, qqN, qqM, qqL, qqE] at aH1
  exact VC.absurd (by omega)
 ·have aH1 := aH1b
  try simp only [qqT, qqF, qqN, qqM, qqL, qqE] at aH1
  refine VC.skip ?_
  refine VC.sr ?_
  refine VO.mv rfl rfl rfl rfl ?_
  refine VO.val rfl rfl (OpV.len_row (i := 0) rfl Tryz.underlying91 rfl rfl) ?_
  refine VO.ma rfl rfl rfl rfl ?_
  refine VO.nil ?_
  refine VC.seq ?_
  refine VC.sr ?_
  refine VO.mv rfl rfl rfl rfl ?_
  refine VO.mv rfl rfl rfl rfl ?_
  refine VO.val rfl rfl (OpV.eql rfl rfl rfl) ?_
  refine VO.nil ?_
  refine VC.cond rfl (fun h1b => ?_) (fun h1b => ?_)
  ·have h1 := h1b
   try simp only [qqT, qqF, qqN, qqM, qqL, qqE] at h1
   obtain rfl : p = [] := List.eq_nil_of_length_eq_zero (by omega)
   refine VC.sr ?_
   refine VO.mv rfl rfl rfl rfl ?_
   refine VO.mv rfl rfl rfl rfl ?_
   refine VO.op rfl (OpE.appendP (i := 0) rfl hB rfl Tryz.underlying91 (infoOf Tryz.t94 1 (by kernel_rfl) rfl rfl) rfl (by decide) (by decide) rfl rfl (.im rfl) (fun _ _ => rfl) (by omega) (tab_M [x]) (fun _ _ => trivial) ?_)
   intro u25
   refine VO.ma rfl rfl rfl rfl ?_
   refine VO.nil ?_
   refine VC.ret ?_
   exact Exists.intro _ (And.intro (RetV.one Tryz.results133 (ResV.tmp rfl)) (⟨_, rfl, rfl⟩))
  ·have h1 := h1b
   try simp only [qqT, qqF, qqN, qqM, qqL, qqE] at h1
   refine VC.asBox (i := 0) rfl (by omega) (fun g cap hu hcap hmx => ?_)
   subst hu
   refine VC.skip ?_
   refine VC.seq ?_
   refine VC.sr ?_
   refine VO.mv rfl rfl rfl rfl ?_
   refine VO.mv rfl rfl rfl rfl ?_
   refine VO.val rfl rfl (OpV.add rfl rfl rfl (by unfold fits; omega)) ?_
   refine VO.mv rfl rfl rfl rfl ?_
   refine VO.val rfl rfl (OpV.cap_v rfl Tryz.underlying91 rfl) ?_
   refine VO.val rfl rfl (OpV.gtr rfl rfl rfl) ?_
   refine VO.nil ?_
   refine VC.cond rfl (fun h2b => ?_) (fun h2b => ?_)
   ·have h2 := h2b
    try simp only [qqT, qqF, qqN, qqM, qqL, qqE] at h2
    refine VC.sr ?_
    refine VO.mv rfl rfl rfl rfl ?_
    refine VO.mv rfl rfl rfl rfl ?_
    refine VO.val rfl rfl (OpV.slice_own (h := 0) rfl Tryz.underlying91 Tryz.sizeOf94 rfl rfl ⟨_, _, rfl, rfl⟩ (by omega) (by omega) (by omega)) ?_
    refine VO.mv rfl rfl rfl rfl ?_
    refine VO.mv rfl rfl rfl rfl ?_
    refine VO.val rfl rfl (OpV.add rfl rfl rfl (by unfold fits; omega)) ?_
    refine VO.mv rfl rfl rfl rfl ?_
    refine VO.val rfl rfl (OpV.sub rfl rfl rfl (by unfold fits; omega)) ?_
    refine VO.op rfl (OpE.appendZ (k := p.length + 1) rfl hB rfl Tryz.underlying91 Tryz.underlying3 (infoOf Tryz.t94 1 (by kernel_rfl) rfl rfl) rfl (by decide) (by decide) rfl rfl (by omega) (by omega) (by omega) (by omega) ?_)
    intro u40
    refine VO.asBox (i := 1) rfl (by omega) (fun g3 cap3 hu3 hcap3 hmx3 => ?_)
    subst hu3
    refine VO.ma rfl rfl rfl rfl ?_
    refine VO.nil ?_
    refine VC.sr ?_
    refine VO.mv rfl rfl rfl rfl ?_
    refine VO.mv rfl rfl rfl rfl ?_
    refine VO.val rfl rfl (OpV.slice_own (l := 0) rfl Tryz.underlying91 Tryz.sizeOf94 rfl ⟨_, _, rfl, rfl⟩ rfl (by omega) (by omega) (by omega)) ?_
    refine VO.mv rfl rfl rfl rfl ?_
    refine VO.op rfl (OpE.copy (i := 1) rfl hB rfl Tryz.underlying91 Tryz.sizeOf94 rfl rfl (SrcP.im rfl) (c := 1) (by omega) (fun _ _ => rfl) (by simp) (ins_one (X := Sx1.cell x) rfl) trivial ?_)
    refine VO.nil ?_
    refine VC.seq ?_
    refine VC.draw (fun j b => j = 8 ∧ b = g3) hB (by kernel_rfl) ?_
    refine VA.take (i := 0) rfl (by kernel_rfl) (by kernel_rfl) (by kernel_rfl) rfl rfl (OpV.move (.inl rfl) rfl) ?_
    refine VA.take (i := 1) rfl (by kernel_rfl) (by kernel_rfl) (by kernel_rfl) rfl rfl (OpV.move (.inl rfl) rfl) ?_
    refine VA.take (i := 2) rfl (by kernel_rfl) (by kernel_rfl) (by kernel_rfl) rfl rfl (OpV.move (.inl rfl) rfl) ?_
    refine VA.take (i := 3) rfl (by kernel_rfl) (by kernel_rfl) (by kernel_rfl) rfl rfl (OpV.add rfl rfl rfl (by unfold fits; omega)) ?_
    refine VA.take (i := 4) rfl (by kernel_rfl) (by kernel_rfl) (by kernel_rfl) rfl rfl (OpV.slice_own (l := 1) rfl Tryz.underlying91 Tryz.sizeOf94 rfl ⟨_, _, rfl, by omega⟩ rfl (by omega) (by omega) (by omega)) ?_
    refine VA.take (i := 5) rfl (by kernel_rfl) (by kernel_rfl) (by kernel_rfl) rfl rfl (OpV.move (.inl rfl) rfl) ?_
    refine VA.take (i := 6) rfl (by kernel_rfl) (by kernel_rfl) (by kernel_rfl) rfl rfl (OpV.move (.inl rfl) rfl) ?_
    refine VA.take (i := 7) rfl (by kernel_rfl) (by kernel_rfl) (by kernel_rfl) rfl rfl (OpV.slice_own (l := 0) rfl Tryz.underlying91 Tryz.sizeOf94 rfl ⟨_, _, rfl, rfl⟩ rfl (by omega) (by omega) (by omega)) ?_
    refine VA.all (rs := [8]) (by kernel_rfl) (by decide) ?_
    refine ⟨⟨_, rfl, .inl rfl, ?_⟩, trivial⟩
    refine OpE.copy (i := 1) rfl hB rfl Tryz.underlying91 Tryz.sizeOf94 rfl rfl (SrcP.box (i := 0) rfl rfl (by rw [listM_len]; omega)) (c := p.length) (by omega) (fun j hj => by dsimp only; rw [List.getD_eq_getElem?_getD, show 0 + 0 * 1 + j = j by omega, listM_get (by omega)]; rfl) (by first | (simp; done) | (simp; omega)) (ins_many (p := p) (by simp) (fun j hj => by dsimp only; rw [List.getD_eq_getElem?_getD, show 0 + 0 * 1 + j = j by omega, listM_get (by omega)]; rfl)) (by first | exact ⟨rfl, rfl⟩ | exact .inl ⟨rfl, rfl⟩ | exact .inr ⟨rfl, rfl⟩ | exact ⟨rfl, trivial⟩ | exact .inl ⟨rfl, trivial⟩ | exact .inr ⟨rfl, trivial⟩ | exact ⟨by decide, rfl⟩) ?_
    refine VA.done (by kernel_rfl) ?_
    refine VC.sr ?_
    refine VO.mv rfl rfl rfl rfl ?_
    refine VO.ma rfl rfl rfl rfl ?_
    refine VO.nil ?_
    refine VC.le _ ((Le.erase 0).trans (Le.boxRow (i := 0) (n := p.length + 1) (sz := 1) (cap := cap3) rfl (by first | (simp [listM_len]; done) | (simp [listM_len]; omega)) hcap3 hmx3)) ?_
    refine VC.ret ?_
    exact Exists.intro _ (And.intro (RetV.one Tryz.results133 (ResV.tmp rfl)) (⟨_, rfl, rfl⟩))
   ·have h2 := h2b
    try simp only [qqT, qqF, qqN, qqM, qqL, qqE] at h2
    refine VC.le _ (Le.padBox (i := 0) 1 rfl (by rw [listM_len]; omega)) ?_
    refine VC.skip ?_
    refine VC.sr ?_
    refine VO.mv rfl rfl rfl rfl ?_
    refine VO.mv rfl rfl rfl rfl ?_
    refine VO.mv rfl rfl rfl rfl ?_
    refine VO.val rfl rfl (OpV.add rfl rfl rfl (by unfold fits; omega)) ?_
    refine VO.val rfl rfl (OpV.slice_own (h := p.length + 1) rfl Tryz.underlying91 Tryz.sizeOf94 rfl rfl ⟨_, _, rfl, by omega⟩ (by omega) (by omega) (by omega)) ?_
    refine VO.ma rfl rfl rfl rfl ?_
    refine VO.nil ?_
    refine VC.seq ?_
    refine VC.sr ?_
    refine VO.mv rfl rfl rfl rfl ?_
    refine VO.mv rfl rfl rfl rfl ?_
    refine VO.mv rfl rfl rfl rfl ?_
    refine VO.mv rfl rfl rfl rfl ?_
    refine VO.val rfl rfl (OpV.add rfl rfl rfl (by unfold fits; omega)) ?_
    refine VO.val rfl rfl (OpV.slice_own (l := 1) rfl Tryz.underlying91 Tryz.sizeOf94 rfl ⟨_, _, rfl, by omega⟩ rfl (by omega) (by omega) (by omega)) ?_
    refine VO.op rfl (OpE.overlaps (i := 0) rfl hB rfl (fun us w => run_callFunc_extern Tryz.func185 (by kernel_rfl) (by kernel_rfl) (by kernel_rfl) (e := Extern.SlicesOverlaps.overlaps #[91, 91] #[4]) (by kernel_rfl) us w) Tryz.underlying91 Tryz.sizeOf94 rfl (Nat.succ_pos _) rfl rfl (by show 0 < cap * 1; omega) ?_)
    refine VO.val rfl rfl (OpV.not rfl rfl) ?_
    refine VO.nil ?_
    refine VC.condT rfl rfl ?_
    refine VC.seq ?_
    refine VC.draw (fun j b => j = 8 ∧ b = g) hB (by kernel_rfl) ?_
    refine VA.take (i := 0) rfl (by kernel_rfl) (by kernel_rfl) (by kernel_rfl) rfl rfl (OpV.move (.inl rfl) rfl) ?_
    refine VA.take (i := 1) rfl (by kernel_rfl) (by kernel_rfl) (by kernel_rfl) rfl rfl (OpV.move (.inl rfl) rfl) ?_
    refine VA.take (i := 2) rfl (by kernel_rfl) (by kernel_rfl) (by kernel_rfl) rfl rfl (OpV.move (.inl rfl) rfl) ?_
    refine VA.take (i := 3) rfl (by kernel_rfl) (by kernel_rfl) (by kernel_rfl) rfl rfl (OpV.add rfl rfl rfl (by unfold fits; omega)) ?_
    refine VA.take (i := 4) rfl (by kernel_rfl) (by kernel_rfl) (by kernel_rfl) rfl rfl (OpV.slice_own (l := 1) rfl Tryz.underlying91 Tryz.sizeOf94 rfl ⟨_, _, rfl, by omega⟩ rfl (by omega) (by omega) (by omega)) ?_
    refine VA.take (i := 5) rfl (by kernel_rfl) (by kernel_rfl) (by kernel_rfl) rfl rfl (OpV.move (.inl rfl) rfl) ?_
    refine VA.take (i := 6) rfl (by kernel_rfl) (by kernel_rfl) (by kernel_rfl) rfl rfl (OpV.move (.inl rfl) rfl) ?_
    refine VA.take (i := 7) rfl (by kernel_rfl) (by kernel_rfl) (by kernel_rfl) rfl rfl (OpV.slice_own (l := 0) rfl Tryz.underlying91 Tryz.sizeOf94 rfl ⟨_, _, rfl, rfl⟩ rfl (by omega) (by omega) (by omega)) ?_
    refine VA.all (rs := [8]) (by kernel_rfl) (by decide) ?_
    refine ⟨⟨_, rfl, .inl rfl, ?_⟩, trivial⟩
    refine OpE.copy (i := 0) rfl hB rfl Tryz.underlying91 Tryz.sizeOf94 rfl rfl (SrcP.box (i := 0) rfl rfl (by simp [listM_len])) (c := p.length) (by omega) (fun j hj => by dsimp only; rw [List.getD_eq_getElem?_getD, show 0 + 0 * 1 + j = j by omega, List.getElem?_append_left (by rw [listM_len]; omega), listM_get (by omega)]; rfl) (by first | (simp [listM_len]; done) | (simp [listM_len]; omega)) (ins_many (p := p) (by simp [listM_len]) (fun j hj => by dsimp only; rw [List.getD_eq_getElem?_getD, show 0 + 0 * 1 + j = j by omega, List.getElem?_append_left (by rw [listM_len]; omega), listM_get (by omega)]; rfl)) (by first | exact ⟨rfl, rfl⟩ | exact .inl ⟨rfl, rfl⟩ | exact .inr ⟨rfl, rfl⟩ | exact ⟨rfl, trivial⟩ | exact .inl ⟨rfl, trivial⟩ | exact .inr ⟨rfl, trivial⟩ | exact ⟨by decide, rfl⟩) ?_
    refine VA.done (by kernel_rfl) ?_
    refine VC.sr ?_
    refine VO.mv rfl rfl rfl rfl ?_
    refine VO.mv rfl rfl rfl rfl ?_
    refine VO.val rfl rfl (OpV.slice_own (l := 0) rfl Tryz.underlying91 Tryz.sizeOf94 rfl ⟨_, _, rfl, rfl⟩ rfl (by omega) (by omega) (by omega)) ?_
    refine VO.mv rfl rfl rfl rfl ?_
    refine VO.op rfl (OpE.copy (i := 0) rfl hB rfl Tryz.underlying91 Tryz.sizeOf94 rfl rfl (SrcP.im rfl) (c := 1) (cs' := listM (x :: p)) (by omega) (fun _ _ => rfl) (by first | (simp [listM_len]; done) | (simp [listM_len]; omega)) (ins_last (x := x) rfl (by simp)) trivial ?_)
    refine VO.nil ?_
    refine VC.sr ?_
    refine VO.mv rfl rfl rfl rfl ?_
    refine VO.ma rfl rfl rfl rfl ?_
    refine VO.nil ?_
    refine VC.le _ (Le.boxRow (i := 0) (n := p.length + 1) (sz := 1) (cap := cap) rfl (by first | (simp [listM_len]; done) | (simp [listM_len]; omega)) (by omega) hmx) ?_
    refine VC.ret ?_
    exact Exists.intro _ (And.intro (RetV.one Tryz.results133 (ResV.tmp rfl)) (⟨_, rfl, rfl⟩))
end Go.Proofs.YtplphabekhaoaaaGreatDoor
namespace Go.Proofs.YtplphabekhaoaaaGreatDoor
open Go.RowKit
set_option linter.unusedVariables false
set_option linter.unusedSimpArgs false
def nextE (s parts : List ByteArray) (later : List (List ByteArray)) : Int := if setupF s ≠ 0 then setupF s else partsF s.length (parts :: later)
def nextR (s parts : List ByteArray) (later : List (List ByteArray)) : List ByteArray := if nextE s parts later = 0 then nextF s parts later else []
set_option maxRecDepth 100000 in
theorem setup_Next {s parts : List ByteArray} {later : List (List ByteArray)} (hs : SmS s) (hp : SmSS (parts :: later)) (hl : SmSS later) :
  SpecH Tryz.prog 62 [avStrs s, avStrs parts, avM later] [] (fun y hp' => ∃ u, y = .tup [.v u, avI (nextE s parts later)] ∧ hp' = [.row u ((nextR s parts later).length) (1) (strsL (nextR s parts later)) (9)]) := by
 have hl1 := hl.1
 refine SpecH.of_VC Tryz.func62 rfl Tryz.ntmps62 (Nle rfl) fun w A hB => ?_
 have hnew : True := trivial
 refine VC.sr ?_
 refine VO.ma rfl rfl rfl rfl ?_
 refine VO.ma rfl rfl rfl rfl ?_
 refine VO.nil ?_
 refine VC.seq ?_
 refine VC.sr ?_
 refine VO.mv rfl rfl rfl rfl ?_
 refine VO.op rfl (OpE.call rfl hB rfl Tryz.call80 rfl (SpecN.spec (setup_CheckSetup hs)) ?_)
 rintro _ rfl
 refine VO.ma rfl rfl rfl rfl ?_
 refine VO.nil ?_
 refine VC.sr ?_
 refine VO.mv rfl rfl rfl rfl ?_
 refine VO.val rfl rfl (OpV.neq rfl rfl rfl) ?_
 refine VO.nil ?_
 refine VC.cond rfl (fun h0b => ?_) (fun h0b => ?_)
 ·have h0 := h0b
  try simp only [qqT, qqF, qqN, qqM, qqL, qqE] at h0
  have he : nextE s parts later = setupF s := by rw [nextE, if_pos h0]
  have hR : nextR s parts later = [] := by rw [nextR, if_neg (by rw [he]; exact h0)]
  rw [hR, he]
  refine VC.sr ?_
  refine VO.mv rfl rfl rfl rfl ?_
  refine VO.ma rfl rfl rfl rfl ?_
  refine VO.ma rfl rfl rfl rfl ?_
  refine VO.nil ?_
  refine VC.le _ (Le.nilRow 1 9) ?_
  refine VC.le ⟨[(6, _), (7, _)], [_], 0⟩ (Le.pick hB [0] ⟨rfl, rfl, trivial⟩ rfl rfl (Nat.le_refl _)) ?_
  refine VC.ret ?_
  exact Exists.intro _ (And.intro (RetV.two Tryz.results62 (ResV.tmp rfl) (ResV.tmp rfl)) (⟨_, rfl, rfl⟩))
 ·have h0 := h0b
  try simp only [qqT, qqF, qqN, qqM, qqL, qqE] at h0
  have h00 : setupF s = 0 := by omega
  refine VC.skip ?_
  refine VC.seq ?_
  refine VC.sr ?_
  refine VO.mv rfl rfl rfl rfl ?_
  refine VO.val rfl rfl (OpV.len_im rfl Tryz.underlying94 rfl) ?_
  refine VO.mv rfl rfl rfl rfl ?_
  refine VO.op rfl (OpE.callH (hp := []) (rest := _) rfl hB rfl Tryz.call134 rfl rfl (slices_CloneM hl.1) (List.Perm.refl _) (fun _ h => by obtain ⟨e, he, _⟩ := h; cases he) ?_)
  rintro _ _ ⟨u18, rfl, rfl⟩
  refine VO.mv rfl rfl rfl rfl ?_
  refine VO.op rfl (OpE.buildSlice (zc := #[.slice none 0 0]) rfl hB rfl Tryz.underlying91 Tryz.sizeOf94 Tryz.zeroValue94 (by decide) (by decide) (by kernel_rfl) rfl rfl ?_)
  refine VO.le _ (Le.recast (t := 20) (y := avM [parts]) rfl (fun w Z u h => Rep.listM (xs := [parts]) rfl h)) ?_
  refine VO.op rfl (OpE.callH0 rfl hB rfl Tryz.call133 rfl rfl (slices_InsertM hl.1) (List.Perm.refl _) (fun _ _ => trivial) ?_)
  rintro _ _ ⟨u21, rfl, rfl⟩
  refine VO.le _ (Le.rowsM (t := 21) (i := 0) hB hnew rfl rfl (by first | rfl | simp)) ?_
  refine VO.op rfl (OpE.call rfl hB rfl Tryz.call132 rfl (SpecN.spec (setup_CheckParts hp)) ?_)
  rintro _ rfl
  refine VO.ma rfl rfl rfl rfl ?_
  refine VO.nil ?_
  refine VC.sr ?_
  refine VO.mv rfl rfl rfl rfl ?_
  refine VO.val rfl rfl (OpV.neq rfl rfl rfl) ?_
  refine VO.nil ?_
  refine VC.cond rfl (fun h1b => ?_) (fun h1b => ?_)
  ·have h1 := h1b
   try simp only [qqT, qqF, qqN, qqM, qqL, qqE] at h1
   have he : nextE s parts later = partsF s.length (parts :: later) := by rw [nextE, if_neg (by omega)]
   have hR : nextR s parts later = [] := by rw [nextR, if_neg (by rw [he]; exact h1)]
   rw [hR, he]
   refine VC.sr ?_
   refine VO.mv rfl rfl rfl rfl ?_
   refine VO.ma rfl rfl rfl rfl ?_
   refine VO.ma rfl rfl rfl rfl ?_
   refine VO.nil ?_
   refine VC.le _ (Le.nilRow 1 9) ?_
   refine VC.le ⟨[(6, _), (7, _)], [_], 0⟩ (Le.pick hB [0] ⟨rfl, rfl, trivial⟩ rfl rfl (Nat.le_refl _)) ?_
   refine VC.ret ?_
   exact Exists.intro _ (And.intro (RetV.two Tryz.results62 (ResV.tmp rfl) (ResV.tmp rfl)) (⟨_, rfl, rfl⟩))
  ·have h1 := h1b
   try simp only [qqT, qqF, qqN, qqM, qqL, qqE] at h1
   have hpa : partsF s.length (parts :: later) = 0 := by omega
   have he : nextE s parts later = 0 := by rw [nextE, if_neg (by omega), hpa]
   have hR : nextR s parts later = nextF s parts later := by rw [nextR, if_pos he]
   have hr0 : RightP s.length parts := RightP.of (q := 0) rfl hpa (by simp)
   rw [hR, he, nextF_len]
   refine VC.skip ?_
   refine VC.sr ?_
   refine VO.mv rfl rfl rfl rfl ?_
   refine VO.op rfl (OpE.callR rfl hB rfl Tryz.call130 (slices_CloneS_R hs.1) (ArgsP.cons (ArgP.ev rfl) (ArgsP.nil)) ?_)
   intro u
   refine VO.ma rfl rfl rfl rfl ?_
   refine VO.nil ?_
   refine VC.sr ?_
   refine VO.mv rfl rfl rfl rfl ?_
   refine VO.mv rfl rfl rfl rfl ?_
   refine VO.mv rfl rfl rfl rfl ?_
   refine VO.op rfl (OpE.callH0 rfl hB rfl Tryz.call135 rfl rfl (setup_next (Good'.of h00) hr0 hl) (List.Perm.refl _) (fun _ _ => trivial) ?_)
   rintro _ _ ⟨rfl, rfl⟩
   refine VO.nil ?_
   refine VC.sr ?_
   refine VO.mv rfl rfl rfl rfl ?_
   refine VO.ma rfl rfl rfl rfl ?_
   refine VO.ma rfl rfl rfl rfl ?_
   refine VO.nil ?_
   refine VC.le ⟨[(6, _), (7, _)], [_], 0⟩ (Le.pick hB [0] ⟨rfl, rfl, trivial⟩ rfl rfl (Nat.le_refl _)) ?_
   refine VC.ret ?_
   exact Exists.intro _ (And.intro (RetV.two Tryz.results62 (ResV.tmp rfl) (ResV.tmp rfl)) (⟨_, rfl, rfl⟩))
end Go.Proofs.YtplphabekhaoaaaGreatDoor
namespace Go.Proofs.YtplphabekhaoaaaGreatDoor
open Go.RowKit
set_option linter.unusedVariables false
set_option linter.unusedSimpArgs false

theorem made_rep {z : Value} {n m : Nat} (hz : z.cells = #[z]) (hm : m = n) : (madeCells z.cells (m * 1)).toList.map AV.v = List.replicate n (.v z) := by
 subst hm
 rw [hz, Nat.mul_one, toList_madeCells_one]
 simp
end Go.Proofs.YtplphabekhaoaaaGreatDoor
namespace Go.Proofs.YtplphabekhaoaaaGreatDoor
open Go.RowKit
set_option linter.unusedVariables false
set_option linter.unusedSimpArgs false

theorem smss_nil : SmSS [] := ⟨by simp, fun i => by simp only [List.getD_nil]; exact SmS.nil⟩
theorem SpecH.nil3 {P : Program} {F : FuncId} {x y : AV} {sz : Nat} {f : Nat → AV} {hp : List Ent} {G : AV → List Ent → Prop} (h : SpecH P F [x, y, .im 0 sz f] hp G) : SpecH P F [x, y, .v (.slice none 0 0)] hp G :=
 h.args rfl fun j h1 h2 w Z u hr => by
  match j, h1, h2 with
  | 0, _, _ => exact hr
  | 1, _, _ => exact hr
  | 2, _, _ =>
   simp only [List.getElem_cons_succ, List.getElem_cons_zero] at hr ⊢
   rw [hr.eq_v]; exact .nil _ _

end Go.Proofs.YtplphabekhaoaaaGreatDoor
namespace Go.Proofs.YtplphabekhaoaaaGreatDoor
open Go.RowKit
set_option linter.unusedVariables false
set_option linter.unusedSimpArgs false

theorem bits_Mul_S {x y : Nat} (hx : x < 18446744073709551616) (hy : y < 18446744073709551616) (hxy : x * y < 18446744073709551616) : SpecN Tryz.prog 139 [.v (.int .u64 x), .v (.int .u64 y)] (fun z => z = .tup [.v (.int .u64 0), .v (.int .u64 ((x * y : Nat) : Int))]) := by
 intro w us ha
 rw [argsV2 ha]
 refine (Tryz.bits_Mul x y hx hy w).mono ?_
 rintro e w' ⟨rfl, rfl⟩
 rw [Nat.div_eq_of_lt hxy, Nat.mod_eq_of_lt hxy]
 refine ⟨_, _, rfl, rfl, .tup _ _ rfl fun j hj => ?_, Chg.refl _ _, trivial⟩
 match j, hj with
 | 0, _ => exact .v _
 | 1, _ => exact .v _

def repC (X Z : AV) (k n : Nat) : List AV := List.replicate k X ++ List.replicate (n - k) Z
theorem repC_len {X Z : AV} {k n : Nat} (h : k ≤ n) : (repC X Z k n).length = n := by simp [repC]; omega
theorem repC_get {X Z : AV} {k n j : Nat} (h : k ≤ n) (hj : j < n) : (repC X Z k n)[j]? = some (if j < k then X else Z) := by
 unfold repC
 split
 ·rename_i h1; rw [List.getElem?_append_left (by simpa using h1)]; simp [h1]
 ·rename_i h1
  rw [List.getElem?_append_right (by simpa using h1), List.length_replicate, List.getElem?_replicate, if_pos (by omega)]
theorem repC_step {X Z : AV} {F : Nat → AV} {k c n o q : Nat} (h : k + c ≤ n) (hF : ∀ j, j < c → F j = X) (ho : o = k) (hq : q = c) : (repC X Z k n).take o ++ tab q F ++ (repC X Z k n).drop (o + q) = repC X Z (k + c) n := by
 subst ho; subst hq
 apply List.ext_getElem?
 intro i
 by_cases hi : i < n
 ·rw [repC_get h hi]
  by_cases h1 : i < o
  ·rw [List.append_assoc, List.getElem?_append_left (by rw [List.length_take, repC_len (by omega)]; omega), List.getElem?_take, if_pos h1, repC_get (by omega) hi, if_pos h1, if_pos (by omega)]
  ·by_cases h2 : i < o + q
   ·rw [List.append_assoc, List.getElem?_append_right (by rw [List.length_take, repC_len (by omega)]; omega), List.getElem?_append_left (by rw [List.length_take, repC_len (by omega), tab_len]; omega), if_pos h2]
    rw [List.getElem?_eq_getElem (by rw [List.length_take, repC_len (by omega), tab_len]; omega), tab_get, hF _ (by rw [List.length_take, repC_len (by omega)]; omega)]
   ·rw [List.getElem?_append_right (by rw [List.length_append, List.length_take, repC_len (by omega), tab_len]; omega), List.getElem?_drop, List.length_append, List.length_take, repC_len (by omega), tab_len, repC_get (by omega) (by omega), if_neg (by omega), if_neg h2]
 ·have l1 : ((repC X Z o n).take o ++ tab q F ++ (repC X Z o n).drop (o + q)).length ≤ i := by
   rw [List.length_append, List.length_append, List.length_take, List.length_drop, repC_len (by omega), tab_len]; omega
  have l2 : (repC X Z (o + q) n).length ≤ i := by rw [repC_len h]; omega
  rw [List.getElem?_eq_none l1, List.getElem?_eq_none l2]
theorem repC_0 {z : Value} {n m : Nat} (hz : z.cells = #[z]) (hm : m = n) : (madeCells z.cells (m * 1)).toList.map AV.v = repC (.v z) (.v z) 0 n := by
 subst hm
 rw [hz, Nat.mul_one, toList_madeCells_one]
 simp [repC]
theorem repC_full {X Z : AV} {n : Nat} : repC X Z n n = List.replicate n X := by simp [repC]
theorem repC_zero {X Y Z : AV} {n : Nat} : repC X Z 0 n = repC Y Z 0 n := by simp [repC]
theorem repC_first {X Z : AV} {F : Nat → AV} {n c : Nat} (hc : c = min 1 n) (hF : F 0 = X) : (repC Z Z 0 n).take 0 ++ tab (c * 1) F ++ (repC Z Z 0 n).drop (0 + c * 1) = repC X Z c n := by
 rw [repC_zero (X := Z) (Y := X)]
 have h0 : 0 + c = c := Nat.zero_add c
 rw [← h0]
 rw [h0]
 conv => rhs; rw [← h0]
 exact repC_step (c := c) (by omega) (fun j hj => by rw [show j = 0 by omega]; exact hF) rfl (Nat.mul_one _)
end Go.Proofs.YtplphabekhaoaaaGreatDoor
namespace Go.Proofs.YtplphabekhaoaaaGreatDoor
open Go.RowKit
set_option linter.unusedVariables false
set_option linter.unusedSimpArgs false

def ShS (m : Nat) (l : List ByteArray) : Prop := l.length ≤ m ∧ ∀ x ∈ l, x.size ≤ 1000
theorem ShS.sms {m : Nat} {l : List ByteArray} (h : ShS m l) (hm : m ≤ 1000) : SmS l := ⟨by have := h.1; omega, fun i => by
 by_cases hi : i < l.length
 ·have := h.2 _ (List.getElem_mem hi)
  simp only [List.getD_eq_getElem?_getD, List.getElem?_eq_getElem hi, Option.getD_some]; omega
 ·simp [List.getD_eq_getElem?_getD, List.getElem?_eq_none (by omega : l.length ≤ i)]⟩
theorem ShS.snoc {m : Nat} {l : List ByteArray} (h : ShS m l) {x : ByteArray} (hx : x.size ≤ 1000) : ShS (m + 1) (l ++ [x]) := ⟨by have := h.1; simp; omega, fun y hy => by
 rcases List.mem_append.1 hy with hy | hy
 ·exact h.2 y hy
 ·simp at hy; subst hy; exact hx⟩
theorem ShS.mono {m n : Nat} {l : List ByteArray} (h : ShS m l) (hn : m ≤ n) : ShS n l := ⟨Nat.le_trans h.1 hn, h.2⟩
def ShSS (p : List (List ByteArray)) : Prop := p.length ≤ 20 ∧ ∀ l ∈ p, ShS 20 l
theorem ShSS.smss {p : List (List ByteArray)} (h : ShSS p) : SmSS p := ⟨by have := h.1; omega, fun i => by
 by_cases hi : i < p.length
 ·have := (h.2 _ (List.getElem_mem hi)).sms (by omega)
  simpa only [List.getD_eq_getElem?_getD, List.getElem?_eq_getElem hi, Option.getD_some] using this
 ·simp only [List.getD_eq_getElem?_getD, List.getElem?_eq_none (by omega : p.length ≤ i), Option.getD_none]
  exact ⟨by decide, fun i => by show (([] : List ByteArray).getD i ByteArray.empty).size ≤ _; simp⟩⟩
theorem size_sixF (q : Nat) : (([⟨#[97]⟩, ⟨#[98]⟩, ⟨#[99]⟩, ⟨#[100]⟩, ⟨#[101]⟩, ⟨#[102]⟩] : List ByteArray).getD q ByteArray.empty).size ≤ 1000 := by
 match q with
 | 0 => decide
 | 1 => decide
 | 2 => decide
 | 3 => decide
 | 4 => decide
 | 5 => decide
 | q + 6 => simp
theorem getD_shs {m : Nat} {p : List (List ByteArray)} (h : ∀ l ∈ p, ShS m l) (i : Nat) : ShS m (p.getD i default) := by
 by_cases hi : i < p.length
 ·have := h _ (List.getElem_mem hi)
  simpa only [List.getD_eq_getElem?_getD, List.getElem?_eq_getElem hi, Option.getD_some] using this
 ·simp only [List.getD_eq_getElem?_getD, List.getElem?_eq_none (by omega : p.length ≤ i), Option.getD_none]
  exact ⟨Nat.zero_le _, fun x h => by cases h⟩
def sixF : List ByteArray := [⟨#[97]⟩, ⟨#[98]⟩, ⟨#[99]⟩, ⟨#[100]⟩, ⟨#[101]⟩, ⟨#[102]⟩]
theorem sixF_size (q : Nat) : (sixF.getD q ByteArray.empty).size ≤ 1000 := size_sixF q
set_option maxRecDepth 100000 in
theorem partLists_M {p : Nat} {L : List Int} {n m : Int} (hn : 0 ≤ n ∧ n ≤ 1000) (hm : 0 ≤ m ∧ m ≤ 10) :
  SpecT Tryz.prog (TT p L) (fun b => b = p) 58 [sp p, avI n, avI m] 100 (fun y => ∃ l : List (List ByteArray), (ShSS l ∧ (l.length : Int) ≤ m) ∧ y = avM l) := by
 have h6 : sixF.length = 6 := rfl
 refine SpecT.of_VC Tryz.func58 rfl Tryz.ntmps58 (Nle rfl) (low := (fun b => b ≤ p)) (fun w A k h => h.ok) fun w A k hk hB => ?_
 have hnew : True := trivial
 refine VC.sr ?_
 refine VO.ma rfl rfl rfl rfl ?_
 refine VO.nil ?_
 refine VC.sr ?_
 refine VO.ma rfl rfl rfl rfl ?_
 refine VO.nil ?_
 refine VC.seq ?_
 refine VC.sr ?_
 refine VO.mv rfl rfl rfl rfl ?_
 refine VO.mv rfl rfl rfl rfl ?_
 refine VO.op rfl (OpE.callT' (k) rfl rfl hB rfl Tryz.call49 rfl ((range_T (by omega) (by omega) (by omega))) (by omega) ?_)
 rintro _ ⟨r14, hr14, rfl⟩
 obtain ⟨N, rfl⟩ : ∃ N : Nat, r14 = N := ⟨r14.toNat, by omega⟩
 refine VO.mv rfl rfl rfl rfl ?_
 refine VO.nil ?_
 refine VC.block ?_
 refine VC.le _ (Le.nilRow 1 94) ?_
 refine VC.loopK [(0, _), (1, _), (14, _)] ⟨rfl, rfl, rfl, trivial⟩ ({t : Value × List (List ByteArray) × Nat // t.2.2 ≤ N ∧ t.2.1.length = t.2.2 ∧ ∀ l ∈ t.2.1, ShS 10 l}) (fun (iZ : {t : Value × List (List ByteArray) × Nat // t.2.2 ≤ N ∧ t.2.1.length = t.2.2 ∧ ∀ l ∈ t.2.1, ShS 10 l}) => match iZ with | ⟨⟨uo, out, q⟩, hq, hol, hos⟩ => [(7, .v uo), (15, avI (q : Int))]) (fun (iZ : {t : Value × List (List ByteArray) × Nat // t.2.2 ≤ N ∧ t.2.1.length = t.2.2 ∧ ∀ l ∈ t.2.1, ShS 10 l}) => match iZ with | ⟨⟨uo, out, q⟩, hq, hol, hos⟩ => [.row uo out.length 1 (listM out) 94]) (fun (iZ : {t : Value × List (List ByteArray) × Nat // t.2.2 ≤ N ∧ t.2.1.length = t.2.2 ∧ ∀ l ∈ t.2.1, ShS 10 l}) => match iZ with | ⟨⟨uo, out, q⟩, hq, hol, hos⟩ => k + 1 + 6 * q) (fun (iZ : {t : Value × List (List ByteArray) × Nat // t.2.2 ≤ N ∧ t.2.1.length = t.2.2 ∧ ∀ l ∈ t.2.1, ShS 10 l}) => match iZ with | ⟨⟨uo, out, q⟩, hq, hol, hos⟩ => N - q) ⟨(.slice none 0 0, [], 0), Nat.zero_le _, rfl, fun x h => by simp at h⟩ (Le.mk hB [0] ⟨rfl, rfl, rfl, rfl, rfl, trivial⟩ rfl rfl (show k + 1 ≤ k + 1 + 6 * 0 by omega)) ?_
 rintro ⟨⟨uo, out, q⟩, hq, hol, hos⟩
 show VC _ _ _ _ ⟨[(7, .v uo), (15, avI (q : Int))] ++ [(0, _), (1, _), (14, _)], [.row uo out.length 1 (listM out) 94], k + 1 + 6 * q⟩
 simp only at hq hol hos
 refine VC.sr ?_
 refine VO.val rfl rfl (OpV.lss rfl rfl rfl) ?_
 refine VO.nil ?_
 refine VC.seq ?_
 refine VC.cond rfl (fun aH1b => ?_) (fun aH1b => ?_)
 ·have aH1 := aH1b
  try simp only [qqT, qqF, qqN, qqM, qqL, qqE] at aH1
  refine VC.skip ?_
  refine VC.seq ?_
  refine VC.block ?_
  refine VC.sr ?_
  refine VO.ma rfl rfl rfl rfl ?_
  refine VO.nil ?_
  refine VC.seq ?_
  refine VC.sr ?_
  refine VO.op rfl (OpE.buildSlice (zc := #[.string ⟨#[]⟩, .string ⟨#[]⟩, .string ⟨#[]⟩, .string ⟨#[]⟩, .string ⟨#[]⟩, .string ⟨#[]⟩]) rfl hB rfl Tryz.underlying94 Tryz.sizeOf9 Tryz.zeroValue9 (by decide) (by decide) (by kernel_rfl) rfl rfl ?_)
  refine VO.le _ (Le.recast (t := 17) (y := avStrs sixF) rfl (fun w Z u h => Rep.strs (xs := sixF) rfl h)) ?_
  refine VO.val rfl rfl (OpV.len_im rfl Tryz.underlying94 rfl) ?_
  refine VO.mv rfl rfl rfl rfl ?_
  refine VO.nil ?_
  refine VC.block ?_
  refine VC.le _ (Le.nilRow 1 9) ?_
  refine VC.loopK [(0, _), (1, _), (7, _), (14, _), (15, _), (17, _), (18, _)] ⟨rfl, rfl, rfl, rfl, rfl, rfl, rfl, trivial⟩ ({t : Value × List ByteArray × Nat // t.2.2 ≤ 6 ∧ ShS t.2.2 t.2.1}) (fun (iZ : {t : Value × List ByteArray × Nat // t.2.2 ≤ 6 ∧ ShS t.2.2 t.2.1}) => match iZ with | ⟨⟨u, l, r⟩, hr, hl⟩ => [(8, .v u), (19, avI (r : Int))]) (fun (iZ : {t : Value × List ByteArray × Nat // t.2.2 ≤ 6 ∧ ShS t.2.2 t.2.1}) => match iZ with | ⟨⟨u, l, r⟩, hr, hl⟩ => [.row uo out.length 1 (listM out) 94, .row u l.length 1 (strsL l) 9]) (fun (iZ : {t : Value × List ByteArray × Nat // t.2.2 ≤ 6 ∧ ShS t.2.2 t.2.1}) => match iZ with | ⟨⟨u, l, r⟩, hr, hl⟩ => k + 1 + 6 * q + r) (fun (iZ : {t : Value × List ByteArray × Nat // t.2.2 ≤ 6 ∧ ShS t.2.2 t.2.1}) => match iZ with | ⟨⟨u, l, r⟩, hr, hl⟩ => 6 - r) ⟨(.slice none 0 0, [], 0), Nat.zero_le _, by decide, fun x h => by simp at h⟩ (Le.mk hB [0, 1] ⟨rfl, rfl, rfl, rfl, rfl, rfl, rfl, rfl, rfl, trivial⟩ rfl rfl (show k + 1 + 6 * q ≤ k + 1 + 6 * q + 0 by omega)) ?_
  rintro ⟨⟨u, l, r⟩, hr, hl⟩
  show VC _ _ _ _ ⟨[(8, .v u), (19, avI (r : Int))] ++ [(0, _), (1, _), (7, _), (14, _), (15, _), (17, _), (18, _)], [.row uo out.length 1 (listM out) 94, .row u l.length 1 (strsL l) 9], k + 1 + 6 * q + r⟩
  simp only at hr hl
  have hll := hl.1
  refine VC.sr ?_
  refine VO.val rfl rfl (OpV.lss rfl rfl rfl) ?_
  refine VO.nil ?_
  refine VC.seq ?_
  refine VC.cond rfl (fun aH2b => ?_) (fun aH2b => ?_)
  ·have aH2 := aH2b
   try simp only [qqT, qqF, qqN, qqM, qqL, qqE] at aH2
   refine VC.skip ?_
   refine VC.seq ?_
   refine VC.block ?_
   refine VC.sr ?_
   refine VO.val rfl rfl (OpV.indexAddr_1 rfl Tryz.underlying94 Tryz.sizeOf9 rfl rfl rfl (by show _ < sixF.length; omega)) ?_
   refine VO.val rfl rfl (OpV.load_at rfl hB OutW.no Tryz.isAgg9 rfl rfl) ?_
   refine VO.ma rfl rfl rfl rfl ?_
   refine VO.nil ?_
   refine VC.sr ?_
   refine VO.mv rfl rfl rfl rfl ?_
   refine VO.op rfl (OpE.callT' (k + 1 + 6 * q + r) rfl rfl hB rfl Tryz.call16 rfl ((flip_T (by omega))) (by omega) ?_)
   rintro _ ⟨r24, rfl⟩
   refine VO.mv rfl rfl rfl rfl ?_
   refine VO.opG rfl rfl rfl rfl (fun aK3b => ?_) (fun aK3b => ?_)
   ·replace aK3b : _ = true := aK3b
    have aK3 := aK3b
    try simp only [qqT, qqF, qqN, qqM, qqL, qqE] at aK3
    refine OpE.val (W := NoB) (OpV.move (.inl rfl) rfl) rfl ?_
    refine VO.opY rfl rfl rfl rfl aK3b ?_
    refine OpE.val (W := NoB) (OpV.len_row (i := 1) rfl Tryz.underlying94 rfl rfl) rfl ?_
    refine VO.opY rfl rfl rfl rfl aK3b ?_
    refine OpE.val (W := NoB) (OpV.move (.inl rfl) rfl) rfl ?_
    refine VO.opY rfl rfl rfl rfl aK3b ?_
    refine OpE.val (W := NoB) (OpV.lss rfl rfl rfl) rfl ?_
    refine VO.val rfl rfl (OpV.pickT rfl rfl rfl rfl aK3b) ?_
    refine VO.nil ?_
    refine VC.cond rfl (fun aH4b => ?_) (fun aH4b => ?_)
    ·have aH4 := aH4b
     try simp only [qqT, qqF, qqN, qqM, qqL, qqE] at aH4
     refine VC.region ?_
     refine VO.mv rfl rfl rfl rfl ?_
     refine VO.mv rfl rfl rfl rfl ?_
     refine VO.op rfl (OpE.buildSlice (zc := #[.string ⟨#[]⟩]) rfl hB rfl Tryz.underlying94 Tryz.sizeOf9 Tryz.zeroValue9 (by decide) (by decide) (by kernel_rfl) rfl rfl ?_)
     refine VO.op rfl (OpE.append1 (i := 1) rfl hB rfl Tryz.underlying94 (infoOf Tryz.t9 1 (by kernel_rfl) rfl rfl) rfl (by decide) (by decide) rfl rfl rfl rfl (strsL_snoc _ _) (by omega) (fun _ _ => trivial) ?_)
     intro u2
     refine VO.ma rfl rfl rfl rfl ?_
     refine VO.nil ?_
     refine VC.region ?_
     refine VO.val rfl rfl (OpV.add rfl rfl rfl (by unfold fits; omega)) ?_
     refine VO.mv rfl rfl rfl rfl ?_
     refine VO.nil ?_
     exact Exists.intro (⟨(u2, l ++ [sixF.getD r ByteArray.empty], r + 1), by show r + 1 ≤ 6; omega, hl.snoc (sixF_size r)⟩) (And.intro (Le.mk hB [0, 1] ⟨rfl, rfl, rfl, rfl, rfl, rfl, rfl, rfl, rfl, trivial⟩ rfl (by dsimp only; first | rfl | (rw [List.length_append]; rfl)) (show k + 1 + 6 * q + r + 1 ≤ k + 1 + 6 * q + (r + 1) by omega)) (by first | omega | (show _ < _; omega) | (simp only []; omega)))
    ·have aH4 := aH4b
     try simp only [qqT, qqF, qqN, qqM, qqL, qqE] at aH4
     refine VC.skip ?_
     refine VC.region ?_
     refine VO.val rfl rfl (OpV.add rfl rfl rfl (by unfold fits; omega)) ?_
     refine VO.mv rfl rfl rfl rfl ?_
     refine VO.nil ?_
     exact Exists.intro (⟨(u, l, r + 1), by show r + 1 ≤ 6; omega, hl.mono (by show r ≤ r + 1; omega)⟩) (And.intro (Le.mk hB [0, 1] ⟨rfl, rfl, rfl, rfl, rfl, rfl, rfl, rfl, rfl, trivial⟩ rfl (by dsimp only; first | rfl | (rw [List.length_append]; rfl)) (show k + 1 + 6 * q + r + 1 ≤ k + 1 + 6 * q + (r + 1) by omega)) (by first | omega | (show _ < _; omega) | (simp only []; omega)))
   ·replace aK3b : _ = false := aK3b
    have aK3 := aK3b
    try simp only [qqT, qqF, qqN, qqM, qqL, qqE] at aK3
    refine VO.opX rfl rfl rfl rfl aK3b ?_
    refine VO.opX rfl rfl rfl rfl aK3b ?_
    refine VO.opX rfl rfl rfl rfl aK3b ?_
    refine VO.val rfl rfl (OpV.pickF rfl rfl rfl rfl aK3b) ?_
    refine VO.nil ?_
    refine VC.condF rfl rfl ?_
    refine VC.skip ?_
    refine VC.region ?_
    refine VO.val rfl rfl (OpV.add rfl rfl rfl (by unfold fits; omega)) ?_
    refine VO.mv rfl rfl rfl rfl ?_
    refine VO.nil ?_
    exact Exists.intro (⟨(u, l, r + 1), by show r + 1 ≤ 6; omega, hl.mono (by show r ≤ r + 1; omega)⟩) (And.intro (Le.mk hB [0, 1] ⟨rfl, rfl, rfl, rfl, rfl, rfl, rfl, rfl, rfl, trivial⟩ rfl (by dsimp only; first | rfl | (rw [List.length_append]; rfl)) (show k + 1 + 6 * q + r + 1 ≤ k + 1 + 6 * q + (r + 1) by omega)) (by first | omega | (show _ < _; omega) | (simp only []; omega)))
  ·have aH2 := aH2b
   try simp only [qqT, qqF, qqN, qqM, qqL, qqE] at aH2
   refine VC.exit ?_
   refine VC.region ?_
   refine VO.mv rfl rfl rfl rfl ?_
   refine VO.le _ (Le.recast (t := 36) (y := .v uo) rfl (fun w Z u h => h)) ?_
   refine VO.mv rfl rfl rfl rfl ?_
   refine VO.le _ (Le.rowS (t := 37) (i := 1) hB hnew rfl rfl (by first | rfl | simp)) ?_
   refine VO.op rfl (OpE.buildSlice (zc := #[.slice none 0 0]) rfl hB rfl Tryz.underlying91 Tryz.sizeOf94 Tryz.zeroValue94 (by decide) (by decide) (by kernel_rfl) rfl rfl ?_)
   refine VO.op rfl (OpE.append1 (i := 0) rfl hB rfl Tryz.underlying91 (infoOf Tryz.t94 1 (by kernel_rfl) rfl rfl) rfl (by decide) (by decide) rfl rfl rfl rfl (listM_snoc out _) (by omega) (fun _ _ => trivial) ?_)
   intro uo2
   refine VO.ma rfl rfl rfl rfl ?_
   refine VO.nil ?_
   refine VC.region ?_
   refine VO.val rfl rfl (OpV.add rfl rfl rfl (by unfold fits; omega)) ?_
   refine VO.mv rfl rfl rfl rfl ?_
   refine VO.nil ?_
   exact Exists.intro (⟨(uo2, out ++ [l], q + 1), by show q + 1 ≤ N; omega, by show (out ++ [l]).length = q + 1; simp; omega, fun x hx => by rcases List.mem_append.1 hx with hx | hx; exact hos x hx; (simp at hx; subst hx; exact hl.mono (by omega))⟩) (And.intro (Le.mk hB [0] ⟨rfl, rfl, rfl, rfl, rfl, trivial⟩ rfl (by dsimp only; rw [List.length_append]; rfl) (show k + 1 + 6 * q + r ≤ k + 1 + 6 * (q + 1) by omega)) (by first | omega | (show _ < _; omega) | (simp only []; omega)))
 ·have aH1 := aH1b
  try simp only [qqT, qqF, qqN, qqM, qqL, qqE] at aH1
  refine VC.exit ?_
  refine VC.seq ?_
  refine VC.sr ?_
  refine VO.mv rfl rfl rfl rfl ?_
  refine VO.val rfl rfl (OpV.len_row (i := 0) rfl Tryz.underlying91 rfl rfl) ?_
  refine VO.val rfl rfl (OpV.gtr rfl rfl rfl) ?_
  refine VO.mv rfl rfl rfl rfl ?_
  refine VO.opG rfl rfl rfl rfl (fun aK5b => ?_) (fun aK5b => ?_)
  ·replace aK5b : _ = true := aK5b
   have aK5 := aK5b
   try simp only [qqT, qqF, qqN, qqM, qqL, qqE] at aK5
   refine OpE.val (W := NoB) (OpV.move (.inl rfl) rfl) rfl ?_
   refine VO.opY rfl rfl rfl rfl aK5b ?_
   refine OpE.callT' (k + 1 + 6 * q) rfl rfl hB rfl Tryz.call16 rfl ((flip_T (by omega))) (by omega) ?_
   rintro _ ⟨r46, rfl⟩
   refine VO.val rfl rfl (OpV.pickT rfl rfl rfl rfl aK5b) ?_
   refine VO.nil ?_
   refine VC.cond rfl (fun aH6b => ?_) (fun aH6b => ?_)
   ·have aH6 := aH6b
    try simp only [qqT, qqF, qqN, qqM, qqL, qqE] at aH6
    refine VC.seq ?_
    refine VC.asBox (i := 0) rfl (by omega) (fun g cap hu hcap hmx => ?_)
    subst hu
    refine VC.region ?_
    refine VO.mv rfl rfl rfl rfl ?_
    refine VO.mv rfl rfl rfl rfl ?_
    refine VO.mv rfl rfl rfl rfl ?_
    refine VO.val rfl rfl (OpV.len_v rfl Tryz.underlying91 rfl) ?_
    refine VO.op rfl (OpE.callT' (k + 1 + 6 * q + 1) rfl rfl hB rfl Tryz.call54 rfl ((next_T (by omega))) (by omega) ?_)
    rintro _ ⟨r52, hr52, rfl⟩
    obtain ⟨mm, rfl⟩ : ∃ mm : Nat, r52 = mm := ⟨r52.toNat, by omega⟩
    refine VO.val rfl rfl (OpV.indexAddr_o rfl Tryz.underlying91 Tryz.sizeOf94 rfl rfl rfl (by omega)) ?_
    refine VO.ma rfl rfl rfl rfl ?_
    refine VO.nil ?_
    refine VC.region ?_
    refine VO.mv rfl rfl rfl rfl ?_
    refine VO.mv rfl rfl rfl rfl ?_
    refine VO.val rfl rfl (OpV.nilCheck rfl rfl) ?_
    refine VO.val rfl rfl (OpV.load_own (i := 0) rfl hB Tryz.isAgg94 rfl rfl (listM_get (by omega)) (fun h => h)) ?_
    refine VO.op rfl (OpE.callR rfl hB rfl Tryz.call130 (slices_CloneS_R (by have := (getD_shs hos mm).1; omega)) (ArgsP.cons (ArgP.ev rfl) (ArgsP.nil)) ?_)
    intro u58
    refine VO.mv rfl rfl rfl rfl ?_
    refine VO.op rfl (OpE.buildSlice (zc := #[.string ⟨#[]⟩, .string ⟨#[]⟩, .string ⟨#[]⟩, .string ⟨#[]⟩]) rfl hB rfl Tryz.underlying94 Tryz.sizeOf9 Tryz.zeroValue9 (by decide) (by decide) (by kernel_rfl) rfl rfl ?_)
    refine VO.op rfl (OpE.callT' (k + 1 + 6 * q + 1 + 1) rfl rfl hB rfl Tryz.call31 rfl ((some_T 1000 (by rfl) (by decide) (by decide) (by repeat (first | exact AllS.nil | refine AllS.cons (by first | decide | omega) ?_)))) (by omega) ?_)
    rintro _ ⟨r61, hr61, rfl⟩
    refine VO.op rfl (OpE.buildSlice (zc := #[.string ⟨#[]⟩]) rfl hB rfl Tryz.underlying94 Tryz.sizeOf9 Tryz.zeroValue9 (by decide) (by decide) (by kernel_rfl) rfl rfl ?_)
    refine VO.op rfl (OpE.append1 (i := 1) rfl hB rfl Tryz.underlying94 (infoOf Tryz.t9 1 (by kernel_rfl) rfl rfl) rfl (by decide) (by decide) rfl rfl rfl rfl (strsL_snoc _ _) (by have := (getD_shs hos mm).1; omega) (fun _ _ => trivial) ?_)
    intro u63
    refine VO.le _ (Le.rowS (t := 63) (i := 1) hB hnew rfl rfl (by first | rfl | simp)) ?_
    refine VO.val rfl rfl (OpV.nilCheck rfl rfl) ?_
    refine VO.op rfl (OpE.store1 (i := 0) rfl hB rfl Tryz.sizeOf94 rfl rfl rfl rfl rfl rfl (by rw [listM_len]; omega) (listM_set _ _ _) trivial ?_)
    refine VO.nil ?_
    refine VC.sr ?_
    refine VO.mv rfl rfl rfl rfl ?_
    refine VO.ma rfl rfl rfl rfl ?_
    refine VO.nil ?_
    refine VC.le _ (Le.boxM (t := 6) (i := 0) (n := out.length) hB hnew rfl rfl (by simp) hcap hmx) ?_
    refine VC.ret ?_
    exact Exists.intro _ (And.intro (RetV.one Tryz.results58 (ResV.tmp rfl)) (And.intro (by first | exact ⟨out, ⟨⟨by omega, fun l hl => (hos l hl).mono (by omega)⟩, by omega⟩, rfl⟩ | exact ⟨out.set mm (out.getD mm default ++ [r61]), ⟨⟨by simp; omega, fun l hl => by rcases List.mem_or_eq_of_mem_set hl with h' | rfl; exact (hos l h').mono (by omega); exact ((getD_shs hos mm).snoc hr61).mono (by omega)⟩, by rw [List.length_set]; omega⟩, rfl⟩) ((show k + 1 + 6 * q + 1 + 1 + 1 ≤ k + 100 by omega))))
   ·have aH6 := aH6b
    try simp only [qqT, qqF, qqN, qqM, qqL, qqE] at aH6
    refine VC.skip ?_
    refine VC.sr ?_
    refine VO.mv rfl rfl rfl rfl ?_
    refine VO.ma rfl rfl rfl rfl ?_
    refine VO.nil ?_
    refine VC.le _ (Le.rowsM (t := 6) (i := 0) hB hnew rfl rfl rfl) ?_
    refine VC.ret ?_
    exact Exists.intro _ (And.intro (RetV.one Tryz.results58 (ResV.tmp rfl)) (And.intro (by first | exact ⟨out, ⟨⟨by omega, fun l hl => (hos l hl).mono (by omega)⟩, by omega⟩, rfl⟩ | exact ⟨out.set mm (out.getD mm default ++ [r61]), ⟨⟨by simp; omega, fun l hl => by rcases List.mem_or_eq_of_mem_set hl with h' | rfl; exact (hos l h').mono (by omega); exact ((getD_shs hos mm).snoc hr61).mono (by omega)⟩, by rw [List.length_set]; omega⟩, rfl⟩) ((show k + 1 + 6 * q + 1 ≤ k + 100 by omega))))
  ·replace aK5b : _ = false := aK5b
   have aK5 := aK5b
   try simp only [qqT, qqF, qqN, qqM, qqL, qqE] at aK5
   refine VO.opX rfl rfl rfl rfl aK5b ?_
   refine VO.val rfl rfl (OpV.pickF rfl rfl rfl rfl aK5b) ?_
   refine VO.nil ?_
   refine VC.condF rfl rfl ?_
   refine VC.skip ?_
   refine VC.sr ?_
   refine VO.mv rfl rfl rfl rfl ?_
   refine VO.ma rfl rfl rfl rfl ?_
   refine VO.nil ?_
   refine VC.le _ (Le.rowsM (t := 6) (i := 0) hB hnew rfl rfl rfl) ?_
   refine VC.ret ?_
   exact Exists.intro _ (And.intro (RetV.one Tryz.results58 (ResV.tmp rfl)) (And.intro (by first | exact ⟨out, ⟨⟨by omega, fun l hl => (hos l hl).mono (by omega)⟩, by omega⟩, rfl⟩ | exact ⟨out.set mm (out.getD mm default ++ [r61]), ⟨⟨by simp; omega, fun l hl => by rcases List.mem_or_eq_of_mem_set hl with h' | rfl; exact (hos l h').mono (by omega); exact ((getD_shs hos mm).snoc hr61).mono (by omega)⟩, by rw [List.length_set]; omega⟩, rfl⟩) ((show k + 1 + 6 * q ≤ k + 100 by omega))))
end Go.Proofs.YtplphabekhaoaaaGreatDoor
namespace Go.Proofs.YtplphabekhaoaaaGreatDoor
open Go.RowKit
set_option linter.unusedVariables false
set_option linter.unusedSimpArgs false
theorem Le.boolF {B : Bs} {s : St'} {t : Nat} {b : Bool} (ht : look s.sl t = some (avB b)) (hb : b = false) : Le B s ⟨(t, avB false) :: s.sl, s.hp, s.k⟩ := Le.recast ht fun w Z u h => by subst hb; exact h
end Go.Proofs.YtplphabekhaoaaaGreatDoor
namespace Go.Proofs.YtplphabekhaoaaaGreatDoor
set_option linter.unusedVariables false
set_option linter.unusedSimpArgs false

theorem mov_up {c bf : List Int} (h : RightLine c bf) (k : Nat) (hk : k < c.length) (b b' : Nat) (hb : b ≤ b') : (mov c bf b k).left ≤ (mov c bf b' k).left := by
 have := pas_up h k hk b b' hb
 rw [(pas_mov h b k hk).2, (pas_mov h b' k hk).2] at this
 exact this

theorem mov_le_left {c b1 b2 : List Int} (h1 : RightLine c b1) (h2 : RightLine c b2) (hb : ∀ k, at' b1 k ≤ at' b2 k) (b k : Nat) (hk : k < c.length)
  (e : (mov c b2 b k).taken ≤ (mov c b1 b k).taken) (ih : ∀ b', b' < b → ∀ k, k < c.length → (mov c b2 b' k).left ≤ (mov c b1 b' k).left) : (mov c b2 b k).left ≤ (mov c b1 b k).left := by
 have l1 := mov_left c b1 b k
 have l2 := mov_left c b2 b k
 have g1 := h1.b0 k
 have g2 := h2.b0 k
 have hbk := hb k
 by_cases hk1 : k + 1 < c.length
 ·by_cases hr2 : at' b2 k < b
  ·rw [if_pos ⟨hk1, g2, hr2⟩] at l2
   rw [if_pos ⟨hk1, g1, by omega⟩] at l1
   have u1 := ih (b - (at' b2 k).toNat - 1) (by omega) (k + 1) hk1
   have u2 := mov_up h1 (k + 1) hk1 (b - (at' b2 k).toNat - 1) (b - (at' b1 k).toNat - 1) (by omega)
   omega
  ·rw [if_neg (by omega)] at l2
   split at l1 <;> omega
 ·rw [if_neg (by omega)] at l1 l2
  omega

theorem mov_le {c b1 b2 : List Int} (h1 : RightLine c b1) (h2 : RightLine c b2) (hb : ∀ k, at' b1 k ≤ at' b2 k) (b : Nat) : ∀ k, k < c.length →
  (mov c b2 b k).taken ≤ (mov c b1 b k).taken ∧ (mov c b2 b k).left ≤ (mov c b1 b k).left := by
 induction b using Nat.strongRecOn with
 | _ b ihb =>
  intro k
  induction k with
  | zero =>
   intro hk
   have t1 := mov_taken c b1 b 0
   have t2 := mov_taken c b2 b 0
   have e : (mov c b2 b 0).taken ≤ (mov c b1 b 0).taken := by
    by_cases hb0 : b = 0
    ·subst hb0; simp at t1 t2; omega
    ·simp only [if_true, if_neg hb0] at t1 t2
     have := (ihb (b - 1) (by omega) 0 hk).2
     omega
   exact ⟨e, mov_le_left h1 h2 hb b 0 hk e fun b' hb' k hk => (ihb b' hb' k hk).2⟩
  | succ k ihk =>
   intro hk
   have t1 := mov_taken c b1 b (k + 1)
   have t2 := mov_taken c b2 b (k + 1)
   have hp := (ihk (by omega)).2
   have e : (mov c b2 b (k + 1)).taken ≤ (mov c b1 b (k + 1)).taken := by
    rw [if_neg (by omega)] at t1 t2
    simp only [Nat.add_sub_cancel] at t1 t2
    by_cases hb0 : b = 0
    ·subst hb0; simp only [if_true] at t1 t2; omega
    ·simp only [if_neg hb0] at t1 t2
     have := (ihb (b - 1) (by omega) (k + 1) hk).2
     omega
   exact ⟨e, mov_le_left h1 h2 hb b (k + 1) hk e fun b' hb' k hk => (ihb b' hb' k hk).2⟩

theorem pas_le {c b1 b2 : List Int} (h1 : RightLine c b1) (h2 : RightLine c b2) (hb : ∀ k, at' b1 k ≤ at' b2 k) (b k : Nat) (hk : k < c.length) :
  (pas c b2 b k).left ≤ (pas c b1 b k).left := by
 rw [(pas_mov h2 b k hk).2, (pas_mov h1 b k hk).2]
 exact (mov_le h1 h2 hb b k hk).2

end Go.Proofs.YtplphabekhaoaaaGreatDoor
namespace Go.Proofs.YtplphabekhaoaaaGreatDoor
open Go.RowKit
set_option linter.unusedVariables false
set_option linter.unusedSimpArgs false

def BlkC (w : World) (P : Nat) (cs : Array Value) (e : TypeId) : Prop := w.heap[P]? = some (.cells cs e (0, 0))
namespace BlkC
variable {w w' : World} {P : Nat} {cs : Array Value} {e : TypeId}
theorem new (w : World) (cs : Array Value) (e : TypeId) : BlkC (w.alloc (.cells cs e)) w.heap.size cs e := heap_alloc_new w _
theorem lt (h : BlkC w P cs e) : P < w.heap.size := (Array.getElem?_eq_some_iff.1 h).1
theorem set (h : BlkC w P cs e) (i : Nat) (v : Value) : BlkC (w.setCell ⟨P, i, none⟩ v) P (cs.setIfInBounds i v) e := by
 unfold BlkC at h ⊢; simp [World.setCell, Array.getElem?_modify, h]
theorem drew (h : BlkC w P cs e) : BlkC w.drew P cs e := h
theorem alloc (h : BlkC w P cs e) (o : Obj) : BlkC (w.alloc o) P cs e := (Below.heap_alloc _ _ _ h.lt).trans h
theorem keep {S : Nat → Prop} (h : BlkC w P cs e) (c : Chg S w w') (hs : ¬ S P) : BlkC w' P cs e := (c.block P h.lt hs).trans h
end BlkC

def Arr (w : World) (g : Nat) (e : TypeId) (xs : List Int) : Prop := BlkC w g (xs.map (Value.int .i64)).toArray e
namespace Arr
variable {w w' : World} {g : Nat} {xs : List Int} {e : TypeId}
theorem new (w : World) (n : Nat) (e : TypeId) : Arr (w.alloc (.cells (Array.replicate n (.int .i64 0)) e)) w.heap.size e (List.replicate n 0) := by
 have := BlkC.new w (Array.replicate n (.int .i64 0)) e
 unfold Arr
 rw [List.map_replicate, List.toArray_replicate]
 exact this
theorem set (h : Arr w g e xs) (i : Nat) (x : Int) : Arr (w.setCell ⟨g, i, none⟩ (.int .i64 x)) g e (xs.set i x) := by
 have := BlkC.set h i (.int .i64 x)
 unfold Arr
 rw [List.map_set, ← List.setIfInBounds_toArray]
 exact this
theorem drew (h : Arr w g e xs) : Arr w.drew g e xs := h
theorem alloc (h : Arr w g e xs) (o : Obj) : Arr (w.alloc o) g e xs := BlkC.alloc h o
theorem keep {S : Nat → Prop} (h : Arr w g e xs) (c : Chg S w w') (hs : ¬ S g) : Arr w' g e xs := BlkC.keep h c hs
end Arr

end Go.Proofs.YtplphabekhaoaaaGreatDoor
namespace Go.Proofs.YtplphabekhaoaaaGreatDoor
open Go.RowKit
set_option linter.unusedVariables false
set_option linter.unusedSimpArgs false

def Two (w1 wx : World) (n : Nat) (v1 v2 : Value) : Prop :=
 ∃ g1 g2, v1 = .slice (some ⟨g1, 0, none⟩) n n ∧ v2 = .slice (some ⟨g2, 0, none⟩) n n ∧ g1 ≠ g2 ∧ w1.heap.size ≤ g1 ∧ w1.heap.size ≤ g2 ∧
  Arr wx g1 3 (List.replicate n 0) ∧ Arr wx g2 3 (List.replicate n 0) ∧ Chg NoB w1 wx

theorem two_facts (w1 : World) (n : Nat) (e : TypeId) :
  let W := ((w1.alloc (.cells (Array.replicate n (.int .i64 0)) e)).alloc (.cells (Array.replicate n (.int .i64 0)) e)).drew
  Arr W w1.heap.size e (List.replicate n 0) ∧ Arr W (w1.heap.size + 1) e (List.replicate n 0) ∧ Chg NoB w1 W := by
 refine ⟨((Arr.new w1 n e).alloc _).drew, ?_, (((Chg.refl _ w1).alloc _).alloc _).drew⟩
 have := Arr.new (w1.alloc (.cells (Array.replicate n (.int .i64 0)) e)) n e
 rw [World.size_alloc] at this
 exact this.drew
theorem Two.one (w1 : World) (n : Nat) : Two w1 ((w1.alloc (.cells (Array.replicate n (.int .i64 0)) 3)).alloc (.cells (Array.replicate n (.int .i64 0)) 3)).drew n
  (.slice (some ⟨w1.heap.size, 0, none⟩) n n) (.slice (some ⟨w1.heap.size + 1, 0, none⟩) n n) :=
 let ⟨a, b, c⟩ := two_facts w1 n 3; ⟨_, _, rfl, rfl, by omega, by omega, by omega, a, b, c⟩
theorem Two.two (w1 : World) (n : Nat) : Two w1 ((w1.alloc (.cells (Array.replicate n (.int .i64 0)) 3)).alloc (.cells (Array.replicate n (.int .i64 0)) 3)).drew n
  (.slice (some ⟨w1.heap.size + 1, 0, none⟩) n n) (.slice (some ⟨w1.heap.size, 0, none⟩) n n) :=
 let ⟨a, b, c⟩ := two_facts w1 n 3; ⟨_, _, rfl, rfl, by omega, by omega, by omega, b, a, c⟩

end Go.Proofs.YtplphabekhaoaaaGreatDoor
namespace Go.Proofs.YtplphabekhaoaaaGreatDoor
open Go.RowKit
set_option linter.unusedVariables false
set_option linter.unusedSimpArgs false

def endT (c bf : List Int) (n : Nat) : Int := (pas c bf (n - 1) (c.length - 1)).left

set_option maxHeartbeats 400000 in
theorem end_any (v1 v2 : Value) (c bf : List Int) (m : Nat) (A1 A2 : Nat → Prop) (w : World) (h1 : IsSl w A1 v1 c) (h2 : IsSl w A2 v2 bf) (hr : RightLine c bf) (hm1 : 1 ≤ m) (hm2 : m ≤ 2000) :
  Calls Tryz.prog 137 #[v1, v2, .int .i64 m] w fun e w' => e = .returned (.int .i64 (endT c bf m)) ∧ Chg NoB w w' := by
 have HFL := hid (flow_any v1 v2 c bf m A1 A2 w h1 h2 hr hm2)
 have hpos := hr.pos
 have hlen := hr.len
 clear hr
 go_enter Tryz.func137, Tryz.ntmps137
 go_wp2_with fail
 refine HFL.out.mono ?_
 rintro e w2 ⟨v, rfl, hv, hc2⟩
 obtain ⟨a, cap, rfl, g1, g2⟩ := hv.shape
 obtain ⟨b, off, rfl, hb, hrows⟩ := hv.rows (by simp; omega)
 obtain ⟨vr, hcell, hrow⟩ := hrows (c.length - 1) (by simp; omega)
 obtain ⟨ar, capr, rfl, g3, g4⟩ := hrow.shape
 simp only [List.getElem_map, List.getElem_range, List.length_map, List.length_range] at hcell hrow g1 g3 ⊢
 obtain ⟨br, offr, rfl, _, hps⟩ := hrow.passes (by simp; omega)
 have p1 := (hps (m - 1) (by simp; omega)).2
 simp only [List.getElem_map, List.getElem_range] at p1
 have HE : Hid (endT c bf m = (pas c bf (m - 1) (c.length - 1)).left) := rfl
 clear hps hrows
 go_wp2_with fail
 go_ret
 exact ⟨ret_int HE.out.symm, hc2⟩

end Go.Proofs.YtplphabekhaoaaaGreatDoor
namespace Go.Proofs.YtplphabekhaoaaaGreatDoor
open Go.RowKit
set_option linter.unusedVariables false
set_option linter.unusedSimpArgs false
theorem lv_len (c b : List Int) (n : Nat) : (leaves c b n).length = n := by simp [leaves]
theorem lv_get {c b : List Int} {n q : Nat} (h : q < n) : (leaves c b n).getD q 0 = (pas c b q (c.length - 1)).left := by simp [leaves, h]
section
variable {c b : List Int} (h : RightLine c b)
include h
end
end Go.Proofs.YtplphabekhaoaaaGreatDoor
namespace Go.Proofs.YtplphabekhaoaaaGreatDoor
open Go.RowKit
set_option linter.unusedVariables false
set_option linter.unusedSimpArgs false

theorem line_end_S {c bf : List Int} {m : Nat} (hr : RightLine c bf) (hm1 : 1 ≤ m) (hm2 : m ≤ 2000) : SpecN Tryz.prog 137 [avInts c, avInts bf, avI m] (fun y => y = avI (endT c bf m)) := by
 intro w us ha
 obtain ⟨v1, v2, rfl, q1, q2⟩ := argsLLv ha
 refine (end_any v1 v2 c bf m _ _ w (isSl_of_rep q1) (isSl_of_rep q2) hr hm1 hm2).mono ?_
 rintro e w' ⟨rfl, hc⟩
 exact ⟨_, _, rfl, rfl, .v _, hc, trivial⟩
theorem line_cyclesFault_S {c : List Int} : SpecN Tryz.prog 136 [avInts c] (fun y => y = avI (cycF c)) := by
 intro w us ha
 obtain ⟨v1, rfl, q1⟩ := argsL ha
 refine (cyclesFault_any v1 c _ w (isSl_of_rep q1)).mono ?_
 rintro e w' ⟨rfl, hc⟩
 exact ⟨_, _, rfl, rfl, .v _, hc, trivial⟩
theorem rf_BoardsFault_S {c b : List Int} {n : Int} : SpecN Tryz.prog 50 [avInts c, avInts b, avI n] (fun y => y = avI (flowF c b n)) := by
 intro w us ha
 obtain ⟨v1, v2, rfl, q1, q2⟩ := argsLLv ha
 refine (boardsFault_any v1 v2 c b n _ _ w (isSl_of_rep q1) (isSl_of_rep q2)).mono ?_
 rintro e w' ⟨rfl, hc⟩
 exact ⟨_, _, rfl, rfl, .v _, hc, trivial⟩
theorem line_T {p : Nat} {L : List Int} : SpecT Tryz.prog (TT p L) (fun b => b = p) 48 [sp p] 100020 (fun y => ∃ c b : List Int, (SmallL 4 c ∧ SmallL 4 b) ∧ y = .tup [avInts c, avInts b]) := by
 intro w A us k ha ⟨k', hk', hs⟩ hstr hk
 have hus : us = #[.pointer (some ⟨p, 0, none⟩)] := by
  obtain ⟨v1, rfl, q1⟩ := argsL ha
  rw [q1.eq_v]
 subst hus
 ·refine (line_any p L k' w hs (by omega)).mono ?_
  rintro e w' ⟨v1, v2, k2, rfl, c, b, h1, h2, h3, h4, h5, h6, h7⟩
  refine ⟨.tup [avInts c, avInts b], .tuple #[v1, v2], ⟨c, b, ⟨h3, h4⟩, rfl⟩, rfl, .tup _ _ rfl fun j hj => ?_, chgIs h7, ⟨k2, by omega, h5⟩⟩
  have key : ∀ {v : Value} {xs : List Int}, IsSl w' (fun j => w.heap.size ≤ j) v xs → Rep w' (fun b => b < w'.heap.size ∧ (b < w.heap.size → A b)) (avInts xs) v := fun {v xs} h => by
   have hr := rep_of_isSl h
   exact hr.keep fun b hb hl => ⟨rfl, hl, fun h0 => absurd h0 (Nat.not_lt.2 hb)⟩
  match j, hj with
  | 0, _ => exact key h1
  | 1, _ => exact key h2

end Go.Proofs.YtplphabekhaoaaaGreatDoor
namespace Go.Proofs.YtplphabekhaoaaaGreatDoor
open Go.RowKit
set_option linter.unusedVariables false
set_option linter.unusedSimpArgs false
theorem SmallL.at_ {n : Nat} {xs : List Int} (h : SmallL n xs) (q : Nat) : -1 ≤ xs.getD q 0 ∧ xs.getD q 0 ≤ 10000001 := by
 rw [List.getD_eq_getElem?_getD]
 cases hx : xs[q]? with
 | none => simp
 | some x => exact h.2 x (List.mem_of_getElem? hx)
end Go.Proofs.YtplphabekhaoaaaGreatDoor
