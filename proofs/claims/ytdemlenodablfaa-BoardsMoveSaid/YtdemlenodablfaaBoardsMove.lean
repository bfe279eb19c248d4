/- The walk of the law BoardsMove. -/
import Derived.Test.YtdemlenodablfaaLined
import Derived.Test.YtdemlenodablfaaRate
import Derived.Test.YtdemlenodablfaaBlocked
import Derived.Test.YtdemlenodablfaaRefOf
namespace Go.Proofs.Ytdemlenodablfaa
open Go.RowKit
set_option linter.unusedVariables false

set_option maxRecDepth 100000 in
set_option maxHeartbeats 1000000 in
theorem boardsMove_any (a0 : Option Addr) (cap0 : Nat) (L : List Int) (w : World) (h : Inp w a0 L) :
    Calls Try.prog 3 #[.slice a0 L.length cap0] w fun e w' => e = .returned (.bool true) ∧ Chg NoB w w' := by
  have hst := h.strm cap0
  have h00 : Chg NoB w (w.alloc (.cells #[.slice a0 L.length cap0, .int .i64 0] 25)) := (Chg.refl _ w).alloc _
  have e0 : (w.alloc (.cells #[.slice a0 L.length cap0, .int .i64 0] 25)).heap.size = w.heap.size + 1 := by simp
  clear h
  go_enter Try.func3, Try.ntmps3
  go_wp2_with fail
  refine (line_any _ L 0 _ hst (by omega)).mono ?_
  rw [e0]
  rintro e w1 ⟨v1, v2, k1, rfl, c, b, hc, hb, hcs, hbs, hs1, hk1, hch1⟩
  have hc01 : Chg NoB w w1 := (h00.any.trans hch1).mono fun q hq x => by simp only [AtB] at x; omega
  clear hst hch1 h00
  go_wp2_with fail
  refine (boardNumber_any _ L k1 _ hs1 (by omega)).mono ?_
  obtain ⟨n, hn⟩ : ∃ n, n = pick L k1 [1, 2, 3, 5, 12, 0, 2001] := ⟨_, rfl⟩
  rw [← hn]
  rintro e w2 ⟨rfl, hs2, hch2⟩
  have hc02 : Chg NoB w w2 := (hc01.any.trans hch2).mono fun q hq x => by simp only [AtB] at x; omega
  have hc2 := hc.keep hch2 fun q h1 h2 x => by simp only [AtB] at x; omega
  have hb2 := hb.keep hch2 fun q h1 h2 x => by simp only [AtB] at x; omega
  clear hs1 hs2 hch2 hc01 hc hb hk1 hn hcs hbs
  go_wp2_with fail
  refine (leave_any _ _ c b n _ _ _ hc2 hb2).mono ?_
  rintro e w3 ⟨v3, rfl, hv3, hch3⟩
  have hc3 := hc2.keepN hch3
  have hb3 := hb2.keepN hch3
  have hc03 := hc02.trans hch3
  clear hc2 hb2 hch3 hc02
  go_wp2_with fail
  refine (blocked_any _ _ c b n _ _ _ hc3 hb3).mono ?_
  rintro e w4 ⟨v4, v5, rfl, hv4, hv5, hch4⟩
  replace hv3 := hv3.keepN hch4
  have hc4 := hc3.keepN hch4
  have hb4 := hb3.keepN hch4
  have hc04 := hc03.trans hch4
  clear hc3 hb3 hch4 hc03
  go_wp2_with fail
  refine (rate_any _ _ c b n _ _ _ hc4 hb4).mono ?_
  obtain ⟨x, y, hxy⟩ : ∃ x y, rateF c b n = .agg #[.int .i64 x, .int .i64 y] := by
    unfold rateF; split
    · exact ⟨_, _, rfl⟩
    · exact ⟨_, _, rfl⟩
  rw [hxy]
  rintro e w5 ⟨rfl, hch5⟩
  replace hv3 := hv3.keepN hch5
  replace hv4 := hv4.keepN hch5
  replace hv5 := hv5.keepN hch5
  have hc5 := hc4.keepN hch5
  have hb5 := hb4.keepN hch5
  have hc05 := hc04.trans hch5
  have hk5 := BlkC.new w5 #[.int .i64 x, .int .i64 y] 35
  have g5 : Chg NoB w5 (w5.alloc (.cells #[.int .i64 x, .int .i64 y] 35)) := (Chg.refl _ w5).alloc _
  clear hc4 hb4 hch5 hc04
  go_wp2_with fail
  refine (boardsFault_any _ _ c b n _ _ _ (hc5.keepN g5) (hb5.keepN g5)).mono ?_
  rintro e w6 ⟨rfl, hch6⟩
  replace hv3 := (hv3.keepN g5).keepN hch6
  replace hv4 := (hv4.keepN g5).keepN hch6
  replace hv5 := (hv5.keepN g5).keepN hch6
  have hc6 := (hc5.keepN g5).keepN hch6
  have hb6 := (hb5.keepN g5).keepN hch6
  have hc06 := (hc05.trans g5).trans hch6
  have hk6 := hk5.keepN hch6
  have hk6l : w5.heap.size < w6.heap.size := hk6.lt
  obtain ⟨P, hP⟩ : ∃ P, P = w5.heap.size := ⟨_, rfl⟩
  rw [← hP] at hk6 hk6l ⊢
  clear hc5 hb5 hch6 g5 hc05 hk5 hP
  by_cases hf : flowF c b n = 0
  · obtain ⟨hr, hn1, hn2⟩ := flowF_right hf
    obtain ⟨m, rfl⟩ : ∃ m : Nat, n = m := ⟨n.toNat, by omega⟩
    have hE := endT_bd hr m (by omega)
    obtain ⟨E, hEq⟩ : ∃ E, E = endT c b m := ⟨_, rfl⟩
    have hR : frac m E = .agg #[.int .i64 x, .int .i64 y] := by rw [← hxy, rateF, if_pos hf, hEq]; simp
    rw [← hEq] at hE
    rw [leavesF, if_pos hf, Int.toNat_natCast] at hv3
    rw [blkF, if_pos hf, Int.toNat_natCast] at hv4
    rw [idlF, if_pos hf, Int.toNat_natCast] at hv5
    rw [hf]
    have HEq := hid hEq
    have HR := hid hR
    have HRL := hid hr
    have hll : (leaves c b m).length = m := by simp [leaves]
    have hlE : (leaves c b m)[m - 1]'(by omega) = E := by rw [hEq]; simp [leaves, endT]
    have HlE := hid hlE
    have Hxy := hid hxy
    have Hf := hid hf
    clear hxy hf hEq hR hlE hr
    have g6 : Chg NoB w6 (w6.alloc (.cells #[.int .i64 0, .int .i64 0] 35)) := (Chg.refl _ w6).alloc _
    have hq6 := BlkC.new w6 #[.int .i64 0, .int .i64 0] 35
    go_wp2_with fail
    refine (leaveOf_any _ _ c b m _ _ _ (hc6.keepN g6) (hb6.keepN g6) HRL.out (by omega)).mono ?_
    rintro e w7 ⟨v6, rfl, hv6, hch7⟩
    obtain ⟨Q, hQ⟩ : ∃ Q, Q = w6.heap.size := ⟨_, rfl⟩
    replace hv3 := ((hv3.low (A' := fun k => k ≠ Q) fun k _ hl => by omega).keepN g6).keepN hch7
    replace hv4 := ((hv4.low (A' := fun k => k ≠ Q) fun k _ hl => by omega).keepN g6).keepN hch7
    replace hv5 := ((hv5.low (A' := fun k => k ≠ Q) fun k _ hl => by omega).keepN g6).keepN hch7
    replace hv6 := hv6.low (A' := fun k => k ≠ Q) fun k hk hl => by simp at hk; omega
    have hc7 := (hc6.keepN g6).keepN hch7
    have hb7 := (hb6.keepN g6).keepN hch7
    have hc07 := (hc06.trans g6).trans hch7
    have hk7 := (hk6.keepN g6).keepN hch7
    have hq7 := hq6.keepN hch7
    have hQw : w.heap.size ≤ Q := by rw [hQ]; exact hc06.size
    have hPQ : P < Q := by omega
    rw [← hQ] at hq7 ⊢
    clear hc6 hb6 hch7 g6 hc06 hk6 hq6 hk6l hQ
    go_wp2_with fail
    refine (blockedOf_any _ _ c b m _ _ _ hc7 hb7 HRL.out (by omega)).mono ?_
    rintro e w8 ⟨v7, v8, rfl, hv7, hv8, hch8⟩
    replace hv3 := hv3.keepN hch8
    replace hv4 := hv4.keepN hch8
    replace hv5 := hv5.keepN hch8
    replace hv6 := hv6.keepN hch8
    have hc08 := hc07.trans hch8
    have hk8 := hk7.keepN hch8
    have hq8 := hq7.keepN hch8
    have hq7l := hq7.lt
    replace hv7 := hv7.low (A' := fun k => k ≠ Q) fun k hk hl => by omega
    replace hv8 := hv8.low (A' := fun k => k ≠ Q) fun k hk hl => by omega
    clear hq7l
    obtain ⟨a6, cap6, rfl, g61, g62⟩ := hv6.shape
    obtain ⟨B6, o6, rfl, _, hcell⟩ := hv6.ints (by omega)
    replace hcell := hcell (m - 1) (by omega)
    rw [HlE.out] at hcell
    clear hc7 hb7 hch8 hc07 hk7 hq7
    unfold maxLen at g62
    go_wp2_with fail
    refine (refLowest m E _ (by omega) (by omega) (by omega) (by omega)).mono ?_
    rw [HR.out]
    rintro e w9 ⟨rfl, hch9⟩
    have hq9 := hq8.keepN hch9
    have hk9 := hk8.keepN hch9
    have g9 : Chg (AtB Q) w9 ((w9.setCell ⟨Q, 0, none⟩ (.int .i64 x)).setCell ⟨Q, 1, none⟩ (.int .i64 y)) :=
      ((Chg.refl (AtB Q) w9).setCell (a := ⟨Q, 0, none⟩) (fun _ => rfl) _).setCell (a := ⟨Q, 1, none⟩) (fun _ => rfl) _
    replace hv3 := (hv3.keepN hch9).keep g9 fun k h1 _ => h1
    replace hv4 := (hv4.keepN hch9).keep g9 fun k h1 _ => h1
    replace hv5 := (hv5.keepN hch9).keep g9 fun k h1 _ => h1
    replace hv6 := (hv6.keepN hch9).keep g9 fun k h1 _ => h1
    replace hv7 := (hv7.keepN hch9).keep g9 fun k h1 _ => h1
    replace hv8 := (hv8.keepN hch9).keep g9 fun k h1 _ => h1
    have hc09 : Chg NoB w _ := ((hc08.trans hch9).any.trans g9).mono fun q hq x => by simp only [AtB] at x; omega
    have hkA := hk9.keepAt g9 (Nat.ne_of_lt hPQ)
    have hqA := (hq9.set 0 (.int .i64 x)).set 1 (.int .i64 y)
    have f0 := hq9.froz 0
    have f1 := hq9.froz 1
    have d0 := hq9.cell 0
    have d1 := hq9.cell 1
    simp at d0 d1 hqA
    clear hq9 hk9 g9 hcell hch9 hc08
    go_wp2_with fail
    obtain ⟨wA, hwA⟩ : ∃ wA : World, wA = ((w9.setCell ⟨Q, 0, none⟩ (.int .i64 x)).setCell ⟨Q, 1, none⟩ (.int .i64 y)) := ⟨_, rfl⟩
    rw [← hwA] at hv3 hv4 hv5 hv6 hv7 hv8 hc09 hkA hqA ⊢
    clear hwA f0 f1 d0 d1
    refine (equalI _ _ (leaves c b m) (leaves c b m) _ _ _ hv3 (by simpa only [hll] using hv6)).mono ?_
    rw [decide_eq_true rfl]
    rintro e w10 ⟨rfl, hch10⟩
    replace hv4 := hv4.keepN hch10
    replace hv5 := hv5.keepN hch10
    replace hv7 := hv7.keepN hch10
    replace hv8 := hv8.keepN hch10
    replace hkA := hkA.keepN hch10
    replace hqA := hqA.keepN hch10
    replace hc09 := hc09.trans hch10
    clear hch10 hv3 hv6
    go_wp2_with fail
    refine (equalI _ _ (blkL c b m) (blkL c b m) _ _ _ hv4 hv7).mono ?_
    rw [decide_eq_true rfl]
    rintro e w11 ⟨rfl, hch11⟩
    replace hv5 := hv5.keepN hch11
    replace hv8 := hv8.keepN hch11
    replace hkA := hkA.keepN hch11
    replace hqA := hqA.keepN hch11
    replace hc09 := hc09.trans hch11
    clear hch11 hv4 hv7
    go_wp2_with fail
    refine (equalI _ _ (idlL c b m) (idlL c b m) _ _ _ hv5 hv8).mono ?_
    rw [decide_eq_true rfl]
    rintro e w12 ⟨rfl, hch12⟩
    replace hkA := hkA.keepN hch12
    replace hqA := hqA.keepN hch12
    replace hc09 := hc09.trans hch12
    clear hch12 hv5 hv8
    have a0 := hkA.cell 0
    have a1 := hkA.cell 1
    have b0 := hqA.cell 0
    have b1 := hqA.cell 1
    simp at a0 a1 b0 b1
    clear hkA hqA
    go_wp2_with fail
    refine (lined_any _).mono ?_
    rintro e w13 ⟨rfl, hch13⟩
    go_wp2_with fail
    go_ret
    exact ⟨rfl, hc09.trans hch13⟩
  · have hR : (Value.agg #[.int .i64 0, .int .i64 0]) = .agg #[.int .i64 x, .int .i64 y] := by rw [← hxy, rateF, if_neg hf]
    simp at hR
    obtain ⟨rfl, rfl⟩ := hR
    rw [leavesF, if_neg hf] at hv3
    rw [blkF, if_neg hf] at hv4
    rw [idlF, if_neg hf] at hv5
    obtain ⟨F, hF⟩ : ∃ F, F = flowF c b n := ⟨_, rfl⟩
    rw [← hF] at hf ⊢
    clear hxy hF
    have g6 : Chg NoB w6 (w6.alloc (.cells #[.int .i64 0, .int .i64 0] 35)) := (Chg.refl _ w6).alloc _
    have hqA := BlkC.new w6 #[.int .i64 0, .int .i64 0] 35
    replace hv3 := hv3.keepN g6
    replace hv4 := hv4.keepN g6
    replace hv5 := hv5.keepN g6
    replace hk6 := hk6.keepN g6
    replace hc06 := hc06.trans g6
    clear g6 hc6 hb6 hk6l
    go_wp2_with fail
    refine (equalI _ _ ([] : List Int) [] _ AnyB _ hv3 (IsSl.nil _ _)).mono ?_
    rw [decide_eq_true rfl]
    rintro e w10 ⟨rfl, hch10⟩
    replace hv4 := hv4.keepN hch10
    replace hv5 := hv5.keepN hch10
    replace hk6 := hk6.keepN hch10
    replace hqA := hqA.keepN hch10
    replace hc06 := hc06.trans hch10
    clear hch10 hv3
    go_wp2_with fail
    refine (equalI _ _ ([] : List Int) [] _ AnyB _ hv4 (IsSl.nil _ _)).mono ?_
    rw [decide_eq_true rfl]
    rintro e w11 ⟨rfl, hch11⟩
    replace hv5 := hv5.keepN hch11
    replace hk6 := hk6.keepN hch11
    replace hqA := hqA.keepN hch11
    replace hc06 := hc06.trans hch11
    clear hch11 hv4
    go_wp2_with fail
    refine (equalI _ _ ([] : List Int) [] _ AnyB _ hv5 (IsSl.nil _ _)).mono ?_
    rw [decide_eq_true rfl]
    rintro e w12 ⟨rfl, hch12⟩
    replace hk6 := hk6.keepN hch12
    replace hqA := hqA.keepN hch12
    replace hc06 := hc06.trans hch12
    clear hch12 hv5
    have a0 := hk6.cell 0
    have a1 := hk6.cell 1
    have b0 := hqA.cell 0
    have b1 := hqA.cell 1
    simp at a0 a1 b0 b1
    clear hk6 hqA
    go_wp2_with fail
    refine (lined_any _).mono ?_
    rintro e w13 ⟨rfl, hch13⟩
    go_wp2_with fail
    go_ret
    exact ⟨rfl, hc06.trans hch13⟩
end Go.Proofs.Ytdemlenodablfaa
