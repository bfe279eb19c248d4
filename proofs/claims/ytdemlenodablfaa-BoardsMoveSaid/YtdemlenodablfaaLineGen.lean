/- The generator of cycles and buffers: it answers two lists of a few small numbers. -/
import Derived.Test.YtdemlenodablfaaStream
import Derived.Test.YtdemlenodablfaaMem
namespace Go.Proofs.Ytdemlenodablfaa
open Go.RowKit
set_option linter.unusedVariables false

theorem infoInt : (Try.prog.info? 3).map (fun i => (i.zero, i.size, i.bytes)) = some (some (.int .i64 0), 1, 8) := by kernel_rfl

def SmallL (n : Nat) (xs : List Int) : Prop := xs.length ≤ n ∧ ∀ x ∈ xs, -1 ≤ x ∧ x ≤ 10000001

theorem pick_mem (L : List Int) (k : Nat) (xs : List Int) (h : 0 < xs.length) : pick L k xs ∈ xs := by
  have b1 := nxt_lo L k xs.length
  have b2 := nxt_lt L k xs.length (by omega)
  unfold pick
  have hl : (nxt L k xs.length).toNat < xs.length := by omega
  simp [List.getD, hl]

/-- The frame while a generator runs: only the stream's block and new blocks. -/
def PB (p B : Nat) : Nat → Prop := fun k => k = p ∨ B ≤ k

theorem smallL_snoc {n : Nat} {xs : List Int} {x : Int} (h : SmallL n xs) (hx : -1 ≤ x ∧ x ≤ 10000001) : SmallL (n + 1) (xs ++ [x]) :=
  ⟨by simpa using h.1, fun y hy => by rcases List.mem_append.1 hy with hy | hy; exact h.2 y hy; simp at hy; subst hy; exact hx⟩
theorem smallL_set {n : Nat} {xs : List Int} {x : Int} (i : Nat) (h : SmallL n xs) (hx : -1 ≤ x ∧ x ≤ 10000001) : SmallL n (xs.set i x) :=
  ⟨by simpa using h.1, fun y hy => by rcases List.mem_or_eq_of_mem_set hy with hy | hy; exact h.2 y hy; subst hy; exact hx⟩

set_option maxHeartbeats 1000000 in
theorem line_any (p : Nat) (L : List Int) (k : Nat) (w : World) (h : Strm w p L k) (hk : k ≤ 900000) :
    Calls Try.prog 5 #[.pointer (some ⟨p, 0, none⟩)] w fun e w' => ∃ v1 v2 k', e = .returned (.tuple #[v1, v2]) ∧ ∃ c b, IsSl w' (fun j => w.heap.size ≤ j) v1 c ∧ IsSl w' (fun j => w.heap.size ≤ j) v2 b ∧
      SmallL 4 c ∧ SmallL 4 b ∧ Strm w' p L k' ∧ k' ≤ k + 20 ∧ Chg (AtB p) w w' := by
  have hp := h.lt
  have r1 := rng_lo L k 1 4
  have r2 := rng_hi L k 1 4 (by omega)
  obtain ⟨n, hn⟩ : ∃ n : Nat, rng L k 1 4 = n := ⟨(rng L k 1 4).toNat, by omega⟩
  have HN := hid hn
  have hn1 : 1 ≤ n := by omega
  have hn4 : n ≤ 4 := by omega
  clear r1 r2 hn
  go_enter Try.func5, Try.ntmps5
  go_wp2_with (go_at_call 21; refine (range_any _ _ _ _ _ _ h (by omega) (by omega) (by omega) (by omega)).mono ?_; rw [HN.out]; rintro e w1 ⟨rfl, hs1, hc1⟩)
  have hsz1 := hc1.size
  go_loopw [4, 8] (fun v i wr => ∃ (j : Nat) (c : List Int), j ≤ n ∧ i = .int .i64 j ∧ c.length = j ∧ SmallL j c ∧ Own wr w.heap.size 3 v c ∧ Strm wr p L (k + 1 + j) ∧ Chg (PB p w.heap.size) w wr)
    (fun _ i _ => n - (intOf i).toNat)
  case atStart => exact ⟨0, [], by omega, rfl, rfl, ⟨by simp, by simp⟩, Own.nil _ _ _, hs1, hc1.mono fun q _ x => .inl x⟩
  case round =>
    obtain ⟨j, c, hj, rfl, hcl, hsm, hown, hs, hch⟩ := hrel
    obtain ⟨a, cap, rfl, _, _⟩ := hown.shape
    have hszr := hch.size
    by_cases hjn : j < n
    · have hpm := pick_mem L (k + 1 + j) [10, 10, 15, 30, 7] (by simp)
      have hpb : -1 ≤ pick L (k + 1 + j) [10, 10, 15, 30, 7] ∧ pick L (k + 1 + j) [10, 10, 15, 30, 7] ≤ 10000001 := by
        generalize pick L (k + 1 + j) [10, 10, 15, 30, 7] = x at hpm ⊢
        simp at hpm; omega
      clear hpm
      have HPB := hid hpb; clear hpb
      have hcl4 : c.length ≤ n := by omega
      have HCL := hid hcl; clear hcl
      go_wp2_with fail
      refine (pick_any p L _ (fun q => wr.heap.size ≤ q) _ [10, 10, 15, 30, 7] _ (hs.keep ((Chg.refl NoB wr).alloc _) fun _ _ x => x) (by omega) (isSl_lit wr [10, 10, 15, 30, 7] 3 (by simp [maxLen])) (by omega) (by simp) (by simp)).mono ?_
      rintro e w2 ⟨rfl, hs2, hc2⟩
      have hc2' : Chg (AtB p) wr w2 := ((Chg.refl _ wr).alloc _).trans hc2
      have hown2 := hown.keep hc2' (fun q h1 h2 h3 => by unfold AtB at h3; omega)
      have hsz2 := hc2'.size
      go_wp2_with (at_builtin; go_loud (refine wpl_append_int w2 rfl _ _ 22 3 rfl Try.underlying22 infoInt w.heap.size _ c _ hown2 (by omega) (by omega) rfl rfl ?_); intro g cap' w3 hown3 hc3 hg3 hlg)
      have hc13 : Chg (PB p w.heap.size) w w3 := (hch.trans (hc2'.mono fun q _ x => .inl x)).trans (hc3.mono fun q hq x => .inr (hown2.lt q x).1)
      have hs3 : Strm w3 p L (k + 1 + (j + 1)) := hs2.keep hc3 fun q hq x => by have := (hown2.lt q x).1; omega
      go_roundw
      case rel => exact ⟨j + 1, c ++ [pick L (k + 1 + j) [10, 10, 15, 30, 7]], by omega, by go_num, by rw [List.length_append, HCL.out]; rfl, smallL_snoc hsm HPB.out, hown3, hs3, hc13⟩
      case measure => simp [intOf]; omega
    · obtain rfl : j = n := by omega
      have hcl1 : 1 ≤ c.length := by omega
      have hcl4 : c.length ≤ 4 := by omega
      have hsm4 : SmallL 4 c := ⟨hcl4, hsm.2⟩
      clear hcl hsm hj
      have hcb0 := hown.lt
      obtain ⟨w2, rfl⟩ : ∃ w2 : World, w2 = wr := ⟨_, rfl⟩
      have hp2 : p < w2.heap.size := hs.lt
      go_wp2_with fail
      go_loopw [5, 20] (fun v i wr => ∃ (q : Nat) (b : List Int), q + 1 ≤ c.length ∧ i = .int .i64 q ∧ b.length ≤ q ∧ SmallL q b ∧ Own wr w2.heap.size 3 v b ∧ Strm wr p L (k + 1 + j + q) ∧ Chg (PB p w2.heap.size) w2 wr)
        (fun _ i _ => c.length - (intOf i).toNat)
      case atStart => exact ⟨0, [], by omega, rfl, by simp, ⟨by simp, by simp⟩, Own.nil _ _ _, hs, Chg.refl _ _⟩
      case round =>
        obtain ⟨q, b, hq, rfl, hbl, hbsm, hbown, hbs, hbch⟩ := hrel
        obtain ⟨ab, capb, rfl, _, _⟩ := hbown.shape
        have hszb := hbch.size
        by_cases hqm : q + 1 < c.length
        · have hpm := pick_mem L (k + 1 + j + q) [0, 0, 1, 2] (by simp)
          have hpb : -1 ≤ pick L (k + 1 + j + q) [0, 0, 1, 2] ∧ pick L (k + 1 + j + q) [0, 0, 1, 2] ≤ 10000001 := by
            generalize pick L (k + 1 + j + q) [0, 0, 1, 2] = x at hpm ⊢
            simp at hpm; omega
          clear hpm
          have HPB := hid hpb; clear hpb
          go_wp2_with fail
          refine (pick_any p L _ (fun q => wr.heap.size ≤ q) _ [0, 0, 1, 2] _ (hbs.keep ((Chg.refl NoB wr).alloc _) fun _ _ x => x) (by omega) (isSl_lit wr [0, 0, 1, 2] 3 (by simp [maxLen])) (by omega) (by simp) (by simp)).mono ?_
          rintro e w3 ⟨rfl, hs3, hc3⟩
          have hc3' : Chg (AtB p) wr w3 := ((Chg.refl _ wr).alloc _).trans hc3
          have hbown3 := hbown.keep hc3' (fun q h1 h2 h3 => by unfold AtB at h3; omega)
          have hsz3 := hc3'.size
          go_wp2_with (at_builtin; refine wpl_append_int w3 rfl _ _ 22 3 rfl Try.underlying22 infoInt w2.heap.size _ b _ hbown3 (by omega) (by omega) rfl rfl ?_; intro g cap' w4 hown4 hc4 hg4 hlg)
          have hc14 : Chg (PB p w2.heap.size) w2 w4 := (hbch.trans (hc3'.mono fun q _ x => .inl x)).trans (hc4.mono fun q hq x => .inr (hbown3.lt q x).1)
          have hs4 : Strm w4 p L (k + 1 + j + (q + 1)) := hs3.keep hc4 fun q hq x => by have := (hbown3.lt q x).1; omega
          go_roundw
          case rel => exact ⟨q + 1, b ++ [pick L (k + 1 + j + q) [0, 0, 1, 2]], by omega, by go_num, by simp; omega, smallL_snoc hbsm HPB.out, hown4, hs4, hc14⟩
          case measure => simp [intOf]; omega
        · have hcb : ∀ q, (Value.slice a c.length cap).ownBlock = some q → q < w2.heap.size := fun q hq => (hcb0 q hq).2
          have hp3 : p < wr.heap.size := hbs.lt
          have hcw : Own wr w.heap.size 3 _ c := hown.keep hbch fun q h1 h2 h3 => by unfold PB at h3; omega
          have hchw : Chg (PB p w.heap.size) w wr := hch.trans (hbch.mono fun q _ x => x.imp id fun y => by omega)
          obtain ⟨k3, hk3⟩ : ∃ k3, k3 = k + 1 + j + q := ⟨_, rfl⟩
          have hk3' : k3 ≤ k + 8 := by omega
          rw [← hk3] at hbs
          have hb4 : b.length ≤ 4 := by omega
          have hbsm4 : SmallL 4 b := ⟨hb4, hbsm.2⟩
          have hbsm3 : SmallL 3 b := ⟨by omega, hbsm.2⟩
          clear hk3 hbsm hbl hs hown hch hbch
          go_wp2_with fail
          refine (flip_any p L _ _ _ hbs (by omega) (by omega)).mono ?_
          rintro e w3 ⟨rfl, hs3, hc3⟩
          have hc3s := hc3.size
          have hcw3 := hcw.keep hc3 fun q h1 h2 h3 => by unfold AtB at h3; omega
          have hbw3 := hbown.keep hc3 fun q h1 h2 h3 => by unfold AtB at h3; omega
          have hchw3 : Chg (PB p w.heap.size) w w3 := hchw.trans (hc3.mono fun q _ x => .inl x)
          clear hcw hbown hchw hc3 hbs
          generalize (nxt L k3 12 == 0) = f
          cases f
          · go_wp2_with fail
            refine (flip_any p L _ _ _ hs3 (by omega) (by omega)).mono ?_
            rintro e w9 ⟨rfl, hs9, hc9⟩
            have hcw9 := (hcw3).keep hc9 fun q h1 h2 h3 => by unfold AtB at h3; omega
            have hbw9 := (hbw3).keep hc9 fun q h1 h2 h3 => by unfold AtB at h3; omega
            have hchw9 : Chg (AtB p) w w9 := (hchw3).mono (fun q hq x => by unfold PB at x; unfold AtB; omega) |>.trans hc9
            generalize (nxt L (k3 + 1) 60 == 0) = f9
            cases f9
            · go_wp2_with fail
              go_ret2
              exact ⟨_, _, _, rfl, _, _, hcw9.isSl, hbw9.isSl.low fun q hq _ => by omega, hsm4, hbsm4, hs9, by omega, hchw9⟩
            · go_wp2_with fail
              go_ret2
              exact ⟨_, _, _, rfl, [], [], IsSl.nil _ _, IsSl.nil _ _, ⟨by simp, by simp⟩, ⟨by simp, by simp⟩, hs9, by omega, hchw9⟩
          · go_wp2_with fail
            refine (next_any p L _ _ _ hs3 (by omega) (by omega)).mono ?_
            rintro e w4 ⟨rfl, hs4, hc4⟩
            have hc4s := hc4.size
            have hcw4 := hcw3.keep hc4 fun q h1 h2 h3 => by unfold AtB at h3; omega
            have hbw4 := hbw3.keep hc4 fun q h1 h2 h3 => by unfold AtB at h3; omega
            have hchw4 : Chg (PB p w.heap.size) w w4 := hchw3.trans (hc4.mono fun q _ x => .inl x)
            have b1 := nxt_lo L (k3 + 1) 3
            have b2 := nxt_lt L (k3 + 1) 3 (by omega)
            generalize nxt L (k3 + 1) 3 = r at b1 b2 ⊢
            clear hcw3 hbw3 hchw3 hc4 hs3
            rcases (show r = 0 ∨ r = 1 ∨ r = 2 by omega) with rfl | rfl | rfl
            · have hlen : 0 < c.length := by omega
              go_wp2_with fail
              refine (next_any p L _ _ _ hs4 (by omega) (by omega)).mono ?_
              rintro e w5 ⟨rfl, hs5, hc5⟩
              have hc5s := hc5.size
              have hcw5 := hcw4.keep hc5 fun q h1 h2 h3 => by unfold AtB at h3; omega
              have hbw5 := hbw4.keep hc5 fun q h1 h2 h3 => by unfold AtB at h3; omega
              have hchw5 : Chg (PB p w.heap.size) w w5 := hchw4.trans (hc5.mono fun q _ x => .inl x)
              have d1 := nxt_lo L (k3 + 1 + 1) (c.length : Int)
              have d2 := nxt_lt L (k3 + 1 + 1) (c.length : Int) (by omega)
              obtain ⟨t, ht⟩ : ∃ t : Nat, nxt L (k3 + 1 + 1) (c.length : Int) = t := ⟨(nxt L (k3 + 1 + 1) (c.length : Int)).toNat, by omega⟩
              rw [ht] at d1 d2 ⊢
              clear hcw4 hbw4 hchw4 hc5 hs4 ht
              go_wp2_with fail
              refine (pick_any p L _ (fun q => w5.heap.size ≤ q) _ [0, -1, 10000000, 10000001] _ (hs5.keep ((Chg.refl NoB w5).alloc _) fun _ _ x => x) (by omega) (isSl_lit w5 [0, -1, 10000000, 10000001] 3 (by simp [maxLen])) (by omega) (by simp) (by simp)).mono ?_
              rintro e w6 ⟨rfl, hs6, hc6⟩
              have hc6' : Chg (AtB p) w5 w6 := ((Chg.refl _ w5).alloc _).trans hc6
              have hc6s := hc6'.size
              have hcw6 := hcw5.keep hc6' fun q h1 h2 h3 => by unfold AtB at h3; omega
              have hbw6 := hbw5.keep hc6' fun q h1 h2 h3 => by unfold AtB at h3; omega
              have hchw6 : Chg (PB p w.heap.size) w w6 := hchw5.trans (hc6'.mono fun q _ x => .inl x)
              clear hcw5 hbw5 hchw5 hc6 hc6' hs5
              have htl : t < c.length := by omega
              obtain ⟨g, rfl, hg1, hg2⟩ := hcw6.head (by omega)
              have hcell := hcw6.icell t htl
              have hfr := hcw6.froz t
              have hpk := pick_mem L (k3 + 1 + 1 + 1) [0, -1, 10000000, 10000001] (by simp)
              have hpb : -1 ≤ (pick L (k3 + 1 + 1 + 1) [0, -1, 10000000, 10000001]) ∧ (pick L (k3 + 1 + 1 + 1) [0, -1, 10000000, 10000001]) ≤ 10000001 := by
                generalize (pick L (k3 + 1 + 1 + 1) [0, -1, 10000000, 10000001]) = x at hpk ⊢
                simp at hpk; omega
              have hst : Chg (AtB g) w6 (w6.setCell ⟨g, t, none⟩ (.int .i64 (pick L (k3 + 1 + 1 + 1) [0, -1, 10000000, 10000001]))) := Chg.setAt _ _ _ _
              have HT := hcw6.set t htl (pick L (k3 + 1 + 1 + 1) [0, -1, 10000000, 10000001])
              have HO := hbw6.keepF hst fun q hq x => by unfold AtB at x; have := (hbw6.lt q hq).1; have := hcb g rfl; omega
              have hs7 := hs6.keep hst fun q hq x => by unfold AtB at x; omega
              have hchw7 : Chg (PB p w.heap.size) w _ := hchw6.trans (hst.mono fun q _ x => by unfold AtB at x; exact .inr (by omega))
              have HPB := hid hpb
              clear hpk hpb hcw6 hbw6 hchw6 hs6 hst
              go_wp2_with fail
              refine (flip_any p L _ _ _ hs7 (by omega) (by omega)).mono ?_
              rintro e w9 ⟨rfl, hs9, hc9⟩
              have hcw9 := (HT).keep hc9 fun q h1 h2 h3 => by unfold AtB at h3; omega
              have hbw9 := (HO).keep hc9 fun q h1 h2 h3 => by unfold AtB at h3; omega
              have hchw9 : Chg (AtB p) w w9 := (hchw7).mono (fun q hq x => by unfold PB at x; unfold AtB; omega) |>.trans hc9
              generalize (nxt L (k3 + 1 + 1 + 1 + 1) 60 == 0) = f9
              cases f9
              · go_wp2_with fail
                go_ret2
                exact ⟨_, _, _, rfl, _, _, hcw9.isSl, hbw9.isSl.low fun q hq _ => by omega, smallL_set t hsm4 HPB.out, hbsm4, hs9, by omega, hchw9⟩
              · go_wp2_with fail
                go_ret2
                exact ⟨_, _, _, rfl, [], [], IsSl.nil _ _, IsSl.nil _ _, ⟨by simp, by simp⟩, ⟨by simp, by simp⟩, hs9, by omega, hchw9⟩
            · go_wp2_with fail
              refine (pick_any p L _ (fun q => w4.heap.size ≤ q) _ [0, -1] _ (hs4.keep ((Chg.refl NoB w4).alloc _) fun _ _ x => x) (by omega) (isSl_lit w4 [0, -1] 3 (by simp [maxLen])) (by omega) (by simp) (by simp)).mono ?_
              rintro e w6 ⟨rfl, hs6, hc6⟩
              have hc6' : Chg (AtB p) w4 w6 := ((Chg.refl _ w4).alloc _).trans hc6
              have hc6s := hc6'.size
              have hcw6 := hcw4.keep hc6' fun q h1 h2 h3 => by unfold AtB at h3; omega
              have hbw6 := hbw4.keep hc6' fun q h1 h2 h3 => by unfold AtB at h3; omega
              have hchw6 : Chg (PB p w.heap.size) w w6 := hchw4.trans (hc6'.mono fun q _ x => .inl x)
              have hpk := pick_mem L (k3 + 1 + 1) [0, -1] (by simp)
              have hpb : -1 ≤ pick L (k3 + 1 + 1) [0, -1] ∧ pick L (k3 + 1 + 1) [0, -1] ≤ 10000001 := by
                generalize pick L (k3 + 1 + 1) [0, -1] = x at hpk ⊢
                simp at hpk; omega
              have HPB := hid hpb
              clear hpk hpb hcw4 hbw4 hchw4 hc6 hc6' hs4
              go_wp2_with (at_builtin; refine wpl_append_int w6 rfl _ _ 22 3 rfl Try.underlying22 infoInt w2.heap.size _ b _ hbw6 (by omega) (by omega) rfl rfl ?_; intro g cap' w7 HT hst hg4 hlg)
              have hst' : Chg (NewB w2.heap.size) w6 w7 := hst.mono fun q hq x => (hbw6.lt q x).1
              have hst7 := hst.size
              have HO := hcw6.keepF hst' fun q hq x => by unfold NewB at x; have := hcb q hq; omega
              have hs7 := hs6.keep hst' fun q hq x => by unfold NewB at x; omega
              have hchw7 : Chg (PB p w.heap.size) w w7 := hchw6.trans (hst'.mono fun q _ x => by unfold NewB at x; exact .inr (by omega))
              clear hcw6 hbw6 hchw6 hs6 hst hst'
              refine (flip_any p L _ _ _ hs7 (by omega) (by omega)).mono ?_
              rintro e w9 ⟨rfl, hs9, hc9⟩
              have hcw9 := (HO).keep hc9 fun q h1 h2 h3 => by unfold AtB at h3; omega
              have hbw9 := (HT).keep hc9 fun q h1 h2 h3 => by unfold AtB at h3; omega
              have hchw9 : Chg (AtB p) w w9 := (hchw7).mono (fun q hq x => by unfold PB at x; unfold AtB; omega) |>.trans hc9
              generalize (nxt L (k3 + 1 + 1 + 1) 60 == 0) = f9
              cases f9
              · go_wp2_with fail
                go_ret2
                exact ⟨_, _, _, rfl, _, _, hcw9.isSl, hbw9.isSl.low fun q hq _ => by omega, hsm4, smallL_snoc hbsm3 HPB.out, hs9, by omega, hchw9⟩
              · go_wp2_with fail
                go_ret2
                exact ⟨_, _, _, rfl, [], [], IsSl.nil _ _, IsSl.nil _ _, ⟨by simp, by simp⟩, ⟨by simp, by simp⟩, hs9, by omega, hchw9⟩
            · by_cases hbl : 0 < b.length
              · go_wp2_with fail
                refine (next_any p L _ _ _ hs4 (by omega) (by omega)).mono ?_
                rintro e w5 ⟨rfl, hs5, hc5⟩
                have hc5s := hc5.size
                have hcw5 := hcw4.keep hc5 fun q h1 h2 h3 => by unfold AtB at h3; omega
                have hbw5 := hbw4.keep hc5 fun q h1 h2 h3 => by unfold AtB at h3; omega
                have hchw5 : Chg (PB p w.heap.size) w w5 := hchw4.trans (hc5.mono fun q _ x => .inl x)
                have d1 := nxt_lo L (k3 + 1 + 1) (b.length : Int)
                have d2 := nxt_lt L (k3 + 1 + 1) (b.length : Int) (by omega)
                obtain ⟨t, ht⟩ : ∃ t : Nat, nxt L (k3 + 1 + 1) (b.length : Int) = t := ⟨(nxt L (k3 + 1 + 1) (b.length : Int)).toNat, by omega⟩
                rw [ht] at d1 d2 ⊢
                clear hcw4 hbw4 hchw4 hc5 hs4 ht
                go_wp2_with fail
                refine (pick_any p L _ (fun q => w5.heap.size ≤ q) _ [-1, 2000, 2001] _ (hs5.keep ((Chg.refl NoB w5).alloc _) fun _ _ x => x) (by omega) (isSl_lit w5 [-1, 2000, 2001] 3 (by simp [maxLen])) (by omega) (by simp) (by simp)).mono ?_
                rintro e w6 ⟨rfl, hs6, hc6⟩
                have hc6' : Chg (AtB p) w5 w6 := ((Chg.refl _ w5).alloc _).trans hc6
                have hc6s := hc6'.size
                have hcw6 := hcw5.keep hc6' fun q h1 h2 h3 => by unfold AtB at h3; omega
                have hbw6 := hbw5.keep hc6' fun q h1 h2 h3 => by unfold AtB at h3; omega
                have hchw6 : Chg (PB p w.heap.size) w w6 := hchw5.trans (hc6'.mono fun q _ x => .inl x)
                clear hcw5 hbw5 hchw5 hc6 hc6' hs5
                have htl : t < b.length := by omega
                obtain ⟨g, rfl, hg1, hg2⟩ := hbw6.head (by omega)
                have hcell := hbw6.icell t htl
                have hfr := hbw6.froz t
                have hpk := pick_mem L (k3 + 1 + 1 + 1) [-1, 2000, 2001] (by simp)
                have hpb : -1 ≤ (pick L (k3 + 1 + 1 + 1) [-1, 2000, 2001]) ∧ (pick L (k3 + 1 + 1 + 1) [-1, 2000, 2001]) ≤ 10000001 := by
                  generalize (pick L (k3 + 1 + 1 + 1) [-1, 2000, 2001]) = x at hpk ⊢
                  simp at hpk; omega
                have hst : Chg (AtB g) w6 (w6.setCell ⟨g, t, none⟩ (.int .i64 (pick L (k3 + 1 + 1 + 1) [-1, 2000, 2001]))) := Chg.setAt _ _ _ _
                have HT := hbw6.set t htl (pick L (k3 + 1 + 1 + 1) [-1, 2000, 2001])
                have HO := hcw6.keepF hst fun q hq x => by unfold AtB at x; have := hcb q hq; omega
                have hs7 := hs6.keep hst fun q hq x => by unfold AtB at x; omega
                have hchw7 : Chg (PB p w.heap.size) w _ := hchw6.trans (hst.mono fun q _ x => by unfold AtB at x; exact .inr (by omega))
                have HPB := hid hpb
                clear hpk hpb hcw6 hbw6 hchw6 hs6 hst
                go_wp2_with fail
                refine (flip_any p L _ _ _ hs7 (by omega) (by omega)).mono ?_
                rintro e w9 ⟨rfl, hs9, hc9⟩
                have hcw9 := (HO).keep hc9 fun q h1 h2 h3 => by unfold AtB at h3; omega
                have hbw9 := (HT).keep hc9 fun q h1 h2 h3 => by unfold AtB at h3; omega
                have hchw9 : Chg (AtB p) w w9 := (hchw7).mono (fun q hq x => by unfold PB at x; unfold AtB; omega) |>.trans hc9
                generalize (nxt L (k3 + 1 + 1 + 1 + 1) 60 == 0) = f9
                cases f9
                · go_wp2_with fail
                  go_ret2
                  exact ⟨_, _, _, rfl, _, _, hcw9.isSl, hbw9.isSl.low fun q hq _ => by omega, hsm4, smallL_set t hbsm4 HPB.out, hs9, by omega, hchw9⟩
                · go_wp2_with fail
                  go_ret2
                  exact ⟨_, _, _, rfl, [], [], IsSl.nil _ _, IsSl.nil _ _, ⟨by simp, by simp⟩, ⟨by simp, by simp⟩, hs9, by omega, hchw9⟩
              · go_wp2_with fail
                refine (flip_any p L _ _ _ hs4 (by omega) (by omega)).mono ?_
                rintro e w9 ⟨rfl, hs9, hc9⟩
                have hcw9 := (hcw4).keep hc9 fun q h1 h2 h3 => by unfold AtB at h3; omega
                have hbw9 := (hbw4).keep hc9 fun q h1 h2 h3 => by unfold AtB at h3; omega
                have hchw9 : Chg (AtB p) w w9 := (hchw4).mono (fun q hq x => by unfold PB at x; unfold AtB; omega) |>.trans hc9
                generalize (nxt L (k3 + 1 + 1) 60 == 0) = f9
                cases f9
                · go_wp2_with fail
                  go_ret2
                  exact ⟨_, _, _, rfl, _, _, hcw9.isSl, hbw9.isSl.low fun q hq _ => by omega, hsm4, hbsm4, hs9, by omega, hchw9⟩
                · go_wp2_with fail
                  go_ret2
                  exact ⟨_, _, _, rfl, [], [], IsSl.nil _ _, IsSl.nil _ _, ⟨by simp, by simp⟩, ⟨by simp, by simp⟩, hs9, by omega, hchw9⟩
end Go.Proofs.Ytdemlenodablfaa
