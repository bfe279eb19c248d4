/- Fractions in lowest terms: kit.Lowest and the reference's Lowest divide by the greatest common divisor. -/
import Derived.Test.YtdemlenodablfaaProg
import Derived.Test.YtdemlenodablfaaBlk
import Derived.BigRegion
import Derived.Deep.QuietTactic
import Derived.BigQuiet
namespace Go.Proofs.Ytdemlenodablfaa
open Go.RowKit
set_option linter.unusedVariables false

def gcdI (a b : Int) : Int := (Nat.gcd a.toNat b.toNat : Nat)

theorem gcdI_step {a b : Int} (ha : 0 ≤ a) (hb : 0 < b) : gcdI b (a % b) = gcdI a b := by
  unfold gcdI
  obtain ⟨x, rfl⟩ := Int.eq_ofNat_of_zero_le ha
  obtain ⟨y, rfl⟩ := Int.eq_ofNat_of_zero_le (Int.le_of_lt hb)
  have : (((x : Int) % (y : Int)).toNat) = x % y := by rw [← Int.natCast_emod, Int.toNat_natCast]
  rw [this]
  simp only [Int.toNat_natCast]
  rw [Nat.gcd_comm y, ← Nat.gcd_rec y x, Nat.gcd_comm]
theorem gcdI_zero {a : Int} (ha : 0 ≤ a) : gcdI a 0 = a := by
  unfold gcdI; simp; omega
theorem gcdI_pos {a b : Int} (hb : 0 < b) : 0 < gcdI a b := by
  unfold gcdI
  have := Nat.gcd_pos_of_pos_right a.toNat (show 0 < b.toNat by omega)
  omega
theorem gcdI_le {a b : Int} (hb : 0 < b) : gcdI a b ≤ b := by
  unfold gcdI
  have := Nat.gcd_le_right a.toNat (show 0 < b.toNat by omega)
  omega

def frac (num den : Int) : Value := .agg #[.int .i64 (num / gcdI num den), .int .i64 (den / gcdI num den)]

set_option maxHeartbeats 400000 in
theorem kitLowest (num den : Int) (w : World) (h0 : 0 ≤ num) (h1 : 0 < den) (b0 : num ≤ 9000000000000000000) (b1 : den ≤ 9000000000000000000) :
    Calls Try.prog 26 #[.int .i64 num, .int .i64 den] w fun e w' => e = .returned (frac num den) ∧ Chg NoB w w' := by
  have hg0 := gcdI_pos (a := num) h1
  have hg1 := gcdI_le (a := num) h1
  have HP : Hid (∀ g, gcdI num den = g → 0 ≤ num / g ∧ num / g ≤ num ∧ 0 ≤ den / g ∧ den / g ≤ den) := hid fun g hg => by
    subst hg
    exact ⟨Int.ediv_nonneg h0 (by omega), Int.ediv_le_self _ h0, Int.ediv_nonneg (by omega) (by omega), Int.ediv_le_self _ (by omega)⟩
  clear hg1
  go_enter Try.func26, Try.ntmps26
  go_wp2
  go_loopw [5, 6] (fun x y wr => ∃ a b : Int, 0 ≤ a ∧ a ≤ 9000000000000000000 ∧ 0 ≤ b ∧ b ≤ 9000000000000000000 ∧ x = .int .i64 a ∧ y = .int .i64 b ∧ Hid (gcdI a b = gcdI num den) ∧ BlkC wr w.heap.size #[.int .i64 0, .int .i64 0] 35 ∧ Chg NoB w wr)
    (fun _ y _ => (intOf y).toNat)
  case atStart => exact ⟨num, den, h0, b0, by omega, b1, rfl, rfl, hid rfl, BlkC.new w _ _, (Chg.refl _ _).alloc _⟩
  case round =>
    obtain ⟨a, b, ha, ha2, hb, hb2, rfl, rfl, hg, hblk, hch⟩ := hrel
    by_cases hb0 : b = 0
    · subst hb0
      have hag : gcdI num den = a := by rw [← hg.out, gcdI_zero ha]
      have hpa := HP.out a hag
      rw [hag] at hg0
      have HA := hid hag; clear hag
      obtain ⟨p1, p2, p3, p4⟩ := hpa
      have f0 := hblk.cell 0
      have f1 := hblk.cell 1
      have f2 := hblk.froz 0
      have f3 := hblk.froz 1
      have HB := hid hblk; clear hblk
      go_wp2
      go_region
      all_goals go_wp2
      have hb' : BlkC (((wr.setCell ⟨w.heap.size, 0, none⟩ (.int .i64 (num / a))).setCell ⟨w.heap.size, 1, none⟩ (.int .i64 (den / a))).drew) w.heap.size #[.int .i64 (num / a), .int .i64 (den / a)] 35 :=
        ((HB.out.set 0 _).set 1 _).drew
      have c0 := hb'.cell 0
      have c1 := hb'.cell 1
      have hfr : frac num den = .agg #[.int .i64 (num / a), .int .i64 (den / a)] := by rw [frac, HA.out]
      have hch' : Chg NoB w (((wr.setCell ⟨w.heap.size, 0, none⟩ (.int .i64 (num / a))).setCell ⟨w.heap.size, 1, none⟩ (.int .i64 (den / a))).drew) :=
        ((hch.setCell (a := ⟨w.heap.size, 0, none⟩) (fun x => absurd x (Nat.lt_irrefl _)) _).setCell (a := ⟨w.heap.size, 1, none⟩) (fun x => absurd x (Nat.lt_irrefl _)) _).drew
      rw [hfr]
      exact bodyPost_ret (v := .agg #[.int .i64 (num / a), .int .i64 (den / a)]) (by simp [results, Try.results26, go_sem, c0, c1]) rfl ⟨rfl, hch'⟩
    · have m1 := Int.emod_nonneg a hb0
      have m2 := Int.emod_lt_of_pos a (show 0 < b by omega)
      have HS := hid (gcdI_step ha (show 0 < b by omega))
      have hbn : (b != 0) = true := by simp [hb0]
      have HB := hid hblk; clear hblk
      go_wp2
      go_region
      all_goals go_wp2
      all_goals go_roundw
      case rel => exact ⟨b, a % b, by omega, by omega, by omega, by omega, rfl, rfl, hid (HS.out.trans hg.out), HB.out, hch.drew⟩
      case measure => simp [intOf]; omega

set_option maxHeartbeats 400000 in
theorem divisor_any (num den : Int) (w : World) (h0 : 0 ≤ num) (h1 : 0 < den) (b0 : num ≤ 9000000000000000000) (b1 : den ≤ 9000000000000000000) :
    Calls Try.prog 33 #[.int .i64 num, .int .i64 den] w fun e w' => e = .returned (.int .i64 (gcdI num den)) ∧ Chg NoB w w' := by
  go_enter Try.func33, Try.ntmps33
  go_wp2
  go_loopw [0, 1] (fun x y wr => ∃ a b : Int, 0 ≤ a ∧ a ≤ 9000000000000000000 ∧ 0 ≤ b ∧ b ≤ 9000000000000000000 ∧ x = .int .i64 a ∧ y = .int .i64 b ∧ Hid (gcdI a b = gcdI num den) ∧ Chg NoB w wr)
    (fun _ y _ => (intOf y).toNat)
  case atStart => exact ⟨num, den, h0, b0, by omega, b1, rfl, rfl, hid rfl, Chg.refl _ _⟩
  case round =>
    obtain ⟨a, b, ha, ha2, hb, hb2, rfl, rfl, hg, hch⟩ := hrel
    by_cases hb0 : b = 0
    · subst hb0
      have HA : Hid (gcdI num den = a) := by unfold Hid; rw [← hg.out, gcdI_zero ha]
      go_wp2
      go_ret
      exact ⟨ret_int (by rw [HA.out]; omega), hch⟩
    · have m1 := Int.emod_nonneg a hb0
      have m2 := Int.emod_lt_of_pos a (show 0 < b by omega)
      have HS := hid (gcdI_step ha (show 0 < b by omega))
      have hbn : (b != 0) = true := by simp [hb0]
      go_wp2
      go_region
      all_goals go_wp2
      all_goals go_roundw
      case rel => exact ⟨b, a % b, by omega, by omega, by omega, by omega, rfl, rfl, hid (HS.out.trans hg.out), hch.drew⟩
      case measure => simp [intOf]; omega

set_option maxHeartbeats 400000 in
theorem refLowest (num den : Int) (w : World) (h0 : 0 ≤ num) (h1 : 0 < den) (b0 : num ≤ 9000000000000000000) (b1 : den ≤ 9000000000000000000) :
    Calls Try.prog 13 #[.int .i64 num, .int .i64 den] w fun e w' => e = .returned (frac num den) ∧ Chg NoB w w' := by
  have HD : Hid (∀ w, _) := hid fun w => divisor_any num den w h0 h1 b0 b1
  have hg0 := gcdI_pos (a := num) h1
  have p1 := Int.ediv_nonneg h0 (by omega : 0 ≤ gcdI num den)
  have p2 := Int.ediv_le_self (gcdI num den) h0
  have p3 := Int.ediv_nonneg (by omega : 0 ≤ den) (by omega : 0 ≤ gcdI num den)
  have p4 := Int.ediv_le_self (gcdI num den) (by omega : 0 ≤ den)
  have HF : Hid (∀ g, g = gcdI num den → frac num den = .agg #[.int .i64 (num / g), .int .i64 (den / g)]) := hid fun g hg => by rw [frac, hg]
  obtain ⟨g, hg⟩ : ∃ g, g = gcdI num den := ⟨_, rfl⟩
  have HF' := hid (HF.out g hg)
  rw [← hg] at HD hg0 p1 p2 p3 p4
  clear hg HF
  go_enter Try.func13, Try.ntmps13
  go_wp2_with fail
  refine (HD.out _).mono ?_
  rintro e w1 ⟨rfl, hc1⟩
  have hb := (BlkC.new w #[.int .i64 0, .int .i64 0] 35).keepN hc1
  have hc2 : Chg NoB w w1 := ((Chg.refl _ w).alloc _).trans hc1
  have f0 := hb.cell 0
  have f1 := hb.cell 1
  have f2 := hb.froz 0
  have f3 := hb.froz 1
  have HB := hid hb; clear hb
  go_wp2
  go_region
  all_goals go_wp2
  have hb' : BlkC (((w1.setCell ⟨w.heap.size, 0, none⟩ (.int .i64 (num / g))).setCell ⟨w.heap.size, 1, none⟩ (.int .i64 (den / g))).drew) w.heap.size #[.int .i64 (num / g), .int .i64 (den / g)] 35 :=
    ((HB.out.set 0 _).set 1 _).drew
  have c0 := hb'.cell 0
  have c1 := hb'.cell 1
  have hch' : Chg NoB w (((w1.setCell ⟨w.heap.size, 0, none⟩ (.int .i64 (num / g))).setCell ⟨w.heap.size, 1, none⟩ (.int .i64 (den / g))).drew) :=
    ((hc2.setCell (a := ⟨w.heap.size, 0, none⟩) (fun x => absurd x (Nat.lt_irrefl _)) _).setCell (a := ⟨w.heap.size, 1, none⟩) (fun x => absurd x (Nat.lt_irrefl _)) _).drew
  rw [HF'.out]
  exact bodyPost_ret (v := .agg #[.int .i64 (num / g), .int .i64 (den / g)]) (by simp [results, Try.results13, go_sem, c0, c1]) rfl ⟨rfl, hch'⟩
end Go.Proofs.Ytdemlenodablfaa
