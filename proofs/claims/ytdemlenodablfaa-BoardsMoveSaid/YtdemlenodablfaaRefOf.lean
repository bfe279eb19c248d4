/- The walks of the reference's LeaveOf and BlockedOf: they answer what the program's Leave and Blocked answer. -/
import Derived.Test.YtdemlenodablfaaMoves
namespace Go.Proofs.Ytdemlenodablfaa
open Go.RowKit
set_option linter.unusedVariables false

theorem leaves_mov {c bf : List Int} (hr : RightLine c bf) (q : Nat) : (pas c bf q (c.length - 1)).left = (mov c bf q (c.length - 1)).left :=
  (pas_mov hr q (c.length - 1) (by have := hr.pos; omega)).2

set_option maxHeartbeats 1000000 in
theorem leaveOf_any (v1 v2 : Value) (c bf : List Int) (m : Nat) (A1 A2 : Nat → Prop) (w : World) (h1 : IsSl w A1 v1 c) (h2 : IsSl w A2 v2 bf) (hr : RightLine c bf) (hm : m ≤ 2000) :
    Calls Try.prog 11 #[v1, v2, .int .i64 m] w fun e w' => ∃ v, e = .returned v ∧ IsSl w' (fun k => w.heap.size ≤ k) v (leaves c bf m) ∧ Chg NoB w w' := by
  have HM := hid (moves_any v1 v2 c bf m A1 A2 w h1 h2 hr hm)
  have hpos := hr.pos
  have hlen := hr.len
  have HR := hid hr; clear hr
  go_enter Try.func11, Try.ntmps11
  go_wp2_with fail
  refine HM.out.mono ?_
  rintro e w2 ⟨V, rfl, hv, hc2⟩
  have hz := hv 2 (by omega)
  clear hv
  generalize V 0 = u0
  generalize V 1 = u1
  generalize V 2 = u2 at hz ⊢
  obtain ⟨a, cap, rfl, g1, g2⟩ := hz.shape
  simp only [List.length_map, List.length_range] at hz g1 ⊢
  have hsz2 := hc2.size
  go_wp2_with fail
  go_loopw [10, 12, 23] (fun v _ i wr => ∃ (j : Nat), j ≤ m ∧ i = .int .i64 j ∧ Own wr w2.heap.size 3 v ((List.range j).map fun q => (mov c bf q (c.length - 1)).left) ∧ Chg (NewB w2.heap.size) w2 wr)
    (fun _ _ i _ => m - (intOf i).toNat)
  case atStart => exact ⟨0, by omega, rfl, Own.nil _ _ _, Chg.refl _ _⟩
  case round =>
    obtain ⟨j, hj, rfl, hown, hch⟩ := hrel
    have hszr := hch.size
    by_cases hjm : j < m
    · obtain ⟨b, off, rfl, hb, hrows⟩ := hz.rows (by simp; omega)
      obtain ⟨vr, hcell0, hrow⟩ := hrows j (by simp; omega)
      obtain ⟨ar, capr, rfl, g3, g4⟩ := hrow.shape
      simp only [List.getElem_map, List.getElem_range, movR_len] at hcell0 hrow g3
      have hcell := hch.cellNew (Nat.le_refl _) hcell0
      obtain ⟨br, offr, rfl, _, hps⟩ := hrow.ints (by rw [movR_len]; exact hpos)
      have p0 := hch.cellNew (Nat.le_refl _) (hps (c.length - 1) (by rw [movR_len]; omega))
      have e1 : (movR c bf 2 j)[c.length - 1]'(by rw [movR_len]; omega) = (mov c bf j (c.length - 1)).left := by simp [movR]
      rw [e1] at p0
      obtain ⟨X, hX⟩ : ∃ X, X = (mov c bf j (c.length - 1)).left := ⟨_, rfl⟩
      rw [← hX] at p0
      have HX := hid hX
      clear hX e1 hps hrows hcell0
      obtain ⟨av, capv, hv', _, _⟩ := hown.shape
      simp only [List.length_map, List.length_range] at hv'
      subst hv'
      go_wp2_with (at_builtin; refine wpl_append_intB wr rfl _ _ 22 3 rfl Try.underlying22 infoInt w2.heap.size _ _ _ hown (by omega) (by simp; omega) _ rfl j (by simp) rfl rfl ?_; intro g cap' w3 hown3 hc3 hg3 hlg)
      have hc23 : Chg (NewB w2.heap.size) w2 w3 := hch.trans (hc3.mono fun q hq x => (hown.lt q x).1)
      go_roundw
      case rel => exact ⟨j + 1, by omega, by go_num, by rw [List.range_succ, List.map_append]; simpa [HX.out] using hown3, hc23⟩
      case measure => simp [intOf]; omega
    · obtain rfl : j = m := by omega
      have hL : leaves c bf j = (List.range j).map fun q => (mov c bf q (c.length - 1)).left := by
        unfold leaves; congr 1; funext q; exact leaves_mov HR.out q
      have HL := hid hL; clear hL
      go_wp2_with fail
      go_ret
      exact ⟨_, rfl, by rw [HL.out]; exact hown.isSl.low fun q hq _ => by omega, hc2.trans (hch.mono fun q h1 h2 => by unfold NewB at h2; omega)⟩


/-- Cell k of row b of one of the three tables. -/
theorem movRow {w2 wr : World} {c bf : List Int} {m : Nat} {S B : Nat → Prop} {i : Nat} {a : Option Addr} {n cap : Nat} (hz : IsSl w2 B (.slice a n cap) ((List.range m).map (movR c bf i)))
    (hch : Chg S w2 wr) (hS : ∀ x y, w2.cell? x = some y → B x.block → ¬ S x.block) (b k : Nat) (hb : b < m) (hk : k < c.length) :
    ∃ bo off br offr capr, a = some ⟨bo, off, none⟩ ∧ bo < w2.heap.size ∧ br < w2.heap.size ∧ wr.cell? ⟨bo, off + b, none⟩ = some (.slice (some ⟨br, offr, none⟩) c.length capr) ∧
      wr.cell? ⟨br, offr + k, none⟩ = some (.int .i64 ((movR c bf i b)[k]'(by rw [movR_len]; exact hk))) := by
  obtain ⟨bo, off, rfl, hB, hrows⟩ := hz.rows (by simp; omega)
  obtain ⟨vr, hcell0, hrow⟩ := hrows b (by simp; omega)
  obtain ⟨ar, capr, rfl, g3, g4⟩ := hrow.shape
  simp only [List.getElem_map, List.getElem_range, movR_len] at hcell0 hrow g3
  obtain ⟨br, offr, rfl, hBr, hps⟩ := hrow.ints (by rw [movR_len]; omega)
  have p0 := hps k (by rw [movR_len]; omega)
  exact ⟨bo, off, br, offr, capr, rfl, World.block_lt_of_cell? w2 _ hcell0, World.block_lt_of_cell? w2 _ p0, hch.cell hcell0 (hS _ _ hcell0 hB), hch.cell p0 (hS _ _ p0 hBr)⟩

set_option maxRecDepth 100000 in
set_option maxHeartbeats 1000000 in
theorem blockedOf_any (v1 v2 : Value) (c bf : List Int) (m : Nat) (A1 A2 : Nat → Prop) (w : World) (h1 : IsSl w A1 v1 c) (h2 : IsSl w A2 v2 bf) (hr : RightLine c bf) (hm : m ≤ 2000) :
    Calls Try.prog 12 #[v1, v2, .int .i64 m] w fun e w' => ∃ y z, e = .returned (.tuple #[y, z]) ∧ IsSl w' (fun k => w.heap.size ≤ k) y (blkL c bf m) ∧ IsSl w' (fun k => w.heap.size ≤ k) z (idlL c bf m) ∧ Chg NoB w w' := by
  have HM := hid (moves_any v1 v2 c bf m A1 A2 w h1 h2 hr hm)
  have hpos := hr.pos
  have hlen := hr.len
  have HR := hid hr; clear hr
  obtain ⟨a1, cap1, rfl, g1, g2⟩ := h1.shape
  unfold maxLen at g2
  go_enter Try.func12, Try.ntmps12
  go_wp2_with fail
  refine HM.out.mono ?_
  rintro e w2 ⟨V, rfl, hv, hc2⟩
  have hb0 := hv 0 (by omega)
  have hb1 := hv 1 (by omega)
  have hb2 := hv 2 (by omega)
  clear hv
  generalize V 0 = u0 at hb0 ⊢
  generalize V 1 = u1 at hb1 ⊢
  generalize V 2 = u2 at hb2 ⊢
  obtain ⟨ax, capx, rfl, gx, gx2⟩ := hb0.shape
  obtain ⟨ay, capy, rfl, gy, gy2⟩ := hb1.shape
  obtain ⟨az, capz, rfl, gz, gz2⟩ := hb2.shape
  simp only [List.length_map, List.length_range] at hb0 hb1 hb2 gx gy gz ⊢
  have hsz2 := hc2.size
  go_upto_region 2 with (fail)
  go_cut [11, 12] (fun x10 x11 wx => Two w2 wx c.length x10 x11)
  case first =>
    have hmk := run_make_ints (P := Try.prog) 22 3 Try.underlying22 infoInt c.length (by omega)
    go_region
    all_goals go_wp2_with fail
    all_goals go_meet
    all_goals (case rel => first | exact Two.one _ _ | exact Two.two _ _)
  case rest =>
    obtain ⟨ga, gb, rfl, rfl, hab, hga, hgb, harr1, harr2, hc3⟩ := hcut
    obtain ⟨w3, rfl⟩ : ∃ w3 : World, w3 = wc := ⟨_, rfl⟩
    have hc23 : Chg (NewB w2.heap.size) w2 w3 := hc3.any
    go_wp2_with fail
    go_loopw [13, 14, 31] (fun _ _ i wr => ∃ k : Nat, k ≤ c.length ∧ i = .int .i64 k ∧ Arr wr ga 3 (pfx c.length k fun k => sumTo (blkAt c bf k) m) ∧ Arr wr gb 3 (pfx c.length k fun k => sumTo (idlAt c bf k) m) ∧ Chg (NewB w2.heap.size) w2 wr)
      (fun _ _ i _ => c.length - (intOf i).toNat)
    case atStart => exact ⟨0, by omega, rfl, by rw [pfx_zero]; exact harr1, by rw [pfx_zero]; exact harr2, hc23⟩
    case round =>
      clear harr1 harr2 hc3 hc23
      obtain ⟨k, hk, rfl, hra, hrb, hch⟩ := hrel
      by_cases hkl : k < c.length
      · obtain ⟨wo, rfl⟩ : ∃ wo : World, wo = wr := ⟨_, rfl⟩
        go_wp2_with fail
        go_loopw [14, 35] (fun _ i wr => ∃ j : Nat, j ≤ m ∧ i = .int .i64 j ∧ Arr wr ga 3 (pfx1 c.length k (fun k => sumTo (blkAt c bf k) m) (sumTo (blkAt c bf k) j)) ∧ Arr wr gb 3 (pfx1 c.length k (fun k => sumTo (idlAt c bf k) m) (sumTo (idlAt c bf k) j)) ∧ Chg (NewB w2.heap.size) w2 wr)
          (fun _ i _ => m - (intOf i).toNat)
        case atStart => exact ⟨0, by omega, rfl, by rw [pfx1_start _ _ _ hkl] at hra; exact hra, by rw [pfx1_start _ _ _ hkl] at hrb; exact hrb, hch⟩
        case round =>
          clear hra hrb hch
          obtain ⟨j, hj, rfl, hra, hrb, hch⟩ := hrel
          have hszr := hch.size
          by_cases hjm : j < m
          · have hS : ∀ x y, w2.cell? x = some y → (w.heap.size ≤ x.block) → ¬ NewB w2.heap.size x.block := fun x y hx _ => Nat.not_le_of_lt (World.block_lt_of_cell? w2 _ hx)
            obtain ⟨xo, xf, xb, xof, xc, rfl, xl1, xl2, x1, x2⟩ := movRow hb0 hch hS j k hjm hkl
            obtain ⟨yo, yf, yb, yof, yc, rfl, yl1, yl2, y1, y2⟩ := movRow hb1 hch hS j k hjm hkl
            obtain ⟨zo, zf, zb, zof, zc, rfl, zl1, zl2, z1, z2⟩ := movRow hb2 hch hS j k hjm hkl
            obtain ⟨zo', zf', zb', zof', zc', hz', zl1', zl2', z1', z2'⟩ := movRow hb2 hch hS (j - 1) k (by omega) hkl
            cases hz'
            have ex : (movR c bf 0 j)[k]'(by rw [movR_len]; exact hkl) = (pas c bf j k).taken := by simp [movR, (pas_mov HR.out j k hkl).1]
            have ey : (movR c bf 1 j)[k]'(by rw [movR_len]; exact hkl) = (pas c bf j k).taken + at' c k := by simp [movR, (pas_mov HR.out j k hkl).1]
            have ez : (movR c bf 2 j)[k]'(by rw [movR_len]; exact hkl) = (pas c bf j k).left := by simp [movR, (pas_mov HR.out j k hkl).2]
            have ez' : (movR c bf 2 (j - 1))[k]'(by rw [movR_len]; exact hkl) = (pas c bf (j - 1) k).left := by simp [movR, (pas_mov HR.out (j - 1) k hkl).2]
            rw [ex] at x2
            rw [ey] at y2
            rw [ez] at z2
            rw [ez'] at z2'
            have d1 := blkAt_bd HR.out k hkl j (by omega)
            have d2 := idlAt_bd HR.out k hkl j (by omega)
            have d3 := sumTo_bd (f := blkAt c bf k) (M := 30000000000) j fun i hi => blkAt_bd HR.out k hkl i (by omega)
            have d4 := sumTo_bd (f := idlAt c bf k) (M := 30000000000) j fun i hi => idlAt_bd HR.out k hkl i (by omega)
            have d5 := pas_bd HR.out j k hkl
            have d6 := pas_bd HR.out (j - 1) k hkl
            have d7 := HR.out.c1 k hkl
            have e1 : blkAt c bf k j = (pas c bf j k).left - ((pas c bf j k).taken + at' c k) := by rw [blkAt]; omega
            have s1 : sumTo (blkAt c bf k) (j + 1) = sumTo (blkAt c bf k) j + blkAt c bf k j := rfl
            have s2 : sumTo (idlAt c bf k) (j + 1) = sumTo (idlAt c bf k) j + idlAt c bf k j := rfl
            have r1 := hra.cell k (by rw [pfx1_len]; exact hkl)
            have r2 := hrb.cell k (by rw [pfx1_len]; exact hkl)
            rw [pfx1_get _ _ _ _ hkl] at r1 r2
            have r3 := hra.froz k
            have r4 := hrb.froz k
            have e2 : 0 < j → idlAt c bf k j = (pas c bf j k).taken - (pas c bf (j - 1) k).left := fun h => by rw [idlAt, if_neg (by omega)]
            have e3 : j = 0 → idlAt c bf k j = 0 := fun h => by rw [idlAt, if_pos h]
            have S1 : Hid (∀ x, x = sumTo (blkAt c bf k) j + ((pas c bf j k).left - ((pas c bf j k).taken + at' c k)) → x = sumTo (blkAt c bf k) (j + 1)) := hid fun x hx => by rw [hx, s1, e1]
            have S2 : Hid (∀ x, 0 < j → x = sumTo (idlAt c bf k) j + ((pas c bf j k).taken - (pas c bf (j - 1) k).left) → x = sumTo (idlAt c bf k) (j + 1)) := hid fun x h hx => by rw [hx, s2, e2 h]
            have S3 : Hid (j = 0 → sumTo (idlAt c bf k) j = sumTo (idlAt c bf k) (j + 1)) := hid fun h => by rw [s2, e3 h]; omega
            rw [e1] at d1
            have d2' : 0 < j → 0 ≤ (pas c bf j k).taken - (pas c bf (j - 1) k).left ∧ (pas c bf j k).taken - (pas c bf (j - 1) k).left ≤ 30000000000 := fun h => by rw [← e2 h]; exact d2
            have hac : ∃ C, C = at' c k := ⟨_, rfl⟩
            obtain ⟨C, hC⟩ := hac
            obtain ⟨SB, hSB⟩ : ∃ x, x = sumTo (blkAt c bf k) j := ⟨_, rfl⟩
            obtain ⟨SI, hSI⟩ : ∃ x, x = sumTo (idlAt c bf k) j := ⟨_, rfl⟩
            obtain ⟨X, hX⟩ : ∃ x, x = (pas c bf j k).left := ⟨_, rfl⟩
            obtain ⟨Y, hY⟩ : ∃ x, x = (pas c bf j k).taken := ⟨_, rfl⟩
            obtain ⟨Z, hZ⟩ : ∃ x, x = (pas c bf (j - 1) k).left := ⟨_, rfl⟩
            rw [← hC] at y2 d1 d5 d6 d7 S1
            rw [← hSB] at r1 d3 S1
            rw [← hSI] at r2 d4 S2 S3
            rw [← hX] at z2 d1 d5 S1
            rw [← hY] at x2 y2 d1 d5 d2' S1 S2
            rw [← hZ] at z2' d6 d2' S2
            have hra' := hid hra
            have hrb' := hid hrb
            rw [← hSB] at hra'
            rw [← hSI] at hrb'
            have hgl1 := hra.lt
            have hgl2 := hrb.lt
            clear hSB hSI hX hY hZ e1 e2 e3 s1 s2 d2 hra hrb ex ey ez ez' hC
            by_cases hj0 : 0 < j
            · have d2 := d2' hj0
              obtain ⟨q, rfl⟩ : ∃ q, j = q + 1 := ⟨j - 1, by omega⟩
              simp only [Nat.add_sub_cancel] at z1'
              clear d2'
              go_wp2_with fail
              go_region
              all_goals go_wp2_with fail
              all_goals go_region
              all_goals go_wp2_with fail
              all_goals go_roundw
              case rel =>
                refine ⟨q + 1 + 1, by omega, by go_num, ?_, ?_, ?_⟩
                · rw [← S1.out _ rfl, ← pfx1_set]
                  exact ((hra'.out.set k _).keepAt (Chg.setAt _ _ _ _).drew.drew hab)
                · rw [← S2.out _ (by omega) rfl, ← pfx1_set]
                  exact ((hrb'.out.keepAt (Chg.setAt _ _ _ _) (fun e => hab e.symm)).set k _)
                · exact ((((hch.setCell (a := ⟨ga, k, none⟩) (fun _ => hga) _).setCell (a := ⟨gb, k, none⟩) (fun _ => hgb) _)).drew).drew
              case measure => simp [intOf]; omega
            · clear d2'
              go_wp2_with fail
              go_region
              all_goals go_wp2_with fail
              all_goals go_roundw
              case rel =>
                refine ⟨j + 1, by omega, by go_num, ?_, ?_, ?_⟩
                · rw [← S1.out _ rfl, ← pfx1_set]
                  exact (hra'.out.set k _)
                · rw [← S3.out (by omega)]
                  exact (hrb'.out.keepAt (Chg.setAt _ _ _ _).drew (fun e => hab e.symm))
                · exact ((hch.setCell (a := ⟨ga, k, none⟩) (fun _ => hga) _)).drew
              case measure => simp [intOf]; omega
          · obtain rfl : j = m := by omega
            go_wp2_with fail
            go_roundw
            case rel => exact ⟨k + 1, by omega, by go_num, by rw [← pfx1_done _ _ _ hkl]; exact hra, by rw [← pfx1_done _ _ _ hkl]; exact hrb, hch⟩
            case measure => simp [intOf]; omega
      · obtain rfl : k = c.length := by omega
        go_wp2_with fail
        go_ret2
        have hx1 := hra.isSl (A := fun q => w.heap.size ≤ q) (by omega) (by rw [pfx_len]; unfold maxLen; omega)
        have hx2 := hrb.isSl (A := fun q => w.heap.size ≤ q) (by omega) (by rw [pfx_len]; unfold maxLen; omega)
        rw [pfx_len, pfx_all] at hx1 hx2
        exact ⟨_, _, rfl, hx1, hx2, hc2.trans (hch.mono fun q h1 h2 => by unfold NewB at h2; omega)⟩
end Go.Proofs.Ytdemlenodablfaa
