/- The walk of line.Blocked. -/
import Derived.Test.YtdemlenodablfaaLeave
import Derived.Test.YtdemlenodablfaaBlk
namespace Go.Proofs.Ytdemlenodablfaa
open Go.RowKit
set_option linter.unusedVariables false

def sumTo (f : Nat → Int) : Nat → Int
  | 0 => 0
  | n + 1 => sumTo f n + f n

theorem sumTo_bd {f : Nat → Int} {M : Int} (n : Nat) (h : ∀ j, j < n → 0 ≤ f j ∧ f j ≤ M) : 0 ≤ sumTo f n ∧ sumTo f n ≤ n * M := by
  induction n with
  | zero => simp [sumTo]
  | succ n ih =>
    have h1 := ih fun j hj => h j (by omega)
    have h2 := h n (by omega)
    have e : ((n + 1 : Nat) : Int) * M = n * M + M := by rw [Int.natCast_add, Int.add_mul]; simp
    simp only [sumTo]
    rw [e]
    omega

def blkAt (c bf : List Int) (k b : Nat) : Int := (pas c bf b k).left - (pas c bf b k).taken - at' c k
def idlAt (c bf : List Int) (k b : Nat) : Int := if b = 0 then 0 else (pas c bf b k).taken - (pas c bf (b - 1) k).left

theorem blkAt_bd {c bf : List Int} (hr : RightLine c bf) (k : Nat) (hk : k < c.length) (b : Nat) (hb : b ≤ 2000) : 0 ≤ blkAt c bf k b ∧ blkAt c bf k b ≤ 30000000000 := by
  have h := pas_bd hr b k hk
  have hc := hr.c1 k hk
  have := hr.len
  unfold blkAt; omega
theorem idlAt_bd {c bf : List Int} (hr : RightLine c bf) (k : Nat) (hk : k < c.length) (b : Nat) (hb : b ≤ 2000) : 0 ≤ idlAt c bf k b ∧ idlAt c bf k b ≤ 30000000000 := by
  unfold idlAt
  split
  · omega
  · have h := pas_bd hr b k hk
    have h2 := pas_bd hr (b - 1) k hk
    have hc := hr.c1 k hk
    have := hr.len
    have ht := pas_taken c bf b k
    rw [if_neg (by assumption)] at ht
    omega

/-- The first k entries reckoned, the others 0. -/
def pfx (n k : Nat) (f : Nat → Int) : List Int := (List.range n).map fun j => if j < k then f j else 0
theorem pfx_len (n k : Nat) (f : Nat → Int) : (pfx n k f).length = n := by simp [pfx]
theorem pfx_get (n k : Nat) (f : Nat → Int) (j : Nat) (hj : j < n) : (pfx n k f)[j]'(by simpa [pfx] using hj) = if j < k then f j else 0 := by simp [pfx]
theorem pfx_zero (n : Nat) (f : Nat → Int) : pfx n 0 f = List.replicate n 0 := by
  apply List.ext_getElem (by simp [pfx])
  intro i h1 h2
  simp [pfx]
/-- Entry k is being summed: x so far. -/
def pfx1 (n k : Nat) (f : Nat → Int) (x : Int) : List Int := (pfx n k f).set k x
theorem pfx1_len (n k : Nat) (f : Nat → Int) (x : Int) : (pfx1 n k f x).length = n := by simp [pfx1, pfx]
theorem pfx1_get (n k : Nat) (f : Nat → Int) (x : Int) (hk : k < n) : (pfx1 n k f x)[k]'(by simpa [pfx1, pfx] using hk) = x := by simp [pfx1]
theorem pfx1_start (n k : Nat) (f : Nat → Int) (hk : k < n) : pfx n k f = pfx1 n k f 0 := by
  apply List.ext_getElem (by simp [pfx1])
  intro i h1 h2
  simp only [pfx1, List.getElem_set]
  split
  · subst_vars; simp [pfx]
  · rfl
theorem pfx1_set (n k : Nat) (f : Nat → Int) (x y : Int) : (pfx1 n k f x).set k y = pfx1 n k f y := by simp [pfx1]
theorem pfx1_done (n k : Nat) (f : Nat → Int) (hk : k < n) : pfx1 n k f (f k) = pfx n (k + 1) f := by
  apply List.ext_getElem (by simp [pfx1, pfx])
  intro i h1 h2
  simp only [pfx1, List.getElem_set, pfx, List.getElem_map, List.getElem_range]
  split
  · subst_vars; simp
  · have : i < k + 1 ↔ i < k := by omega
    simp [this]

def blkL (c bf : List Int) (n : Nat) : List Int := (List.range c.length).map fun k => sumTo (blkAt c bf k) n
def idlL (c bf : List Int) (n : Nat) : List Int := (List.range c.length).map fun k => sumTo (idlAt c bf k) n
def blkF (c bf : List Int) (n : Int) : List Int := if flowF c bf n = 0 then blkL c bf n.toNat else []
def idlF (c bf : List Int) (n : Int) : List Int := if flowF c bf n = 0 then idlL c bf n.toNat else []
theorem pfx_all (n : Nat) (f : Nat → Int) : pfx n n f = (List.range n).map f := by
  apply List.ext_getElem (by simp [pfx])
  intro i h1 h2
  simp [pfx] at h1
  simp [pfx, h1]

def Two (w1 wx : World) (n : Nat) (v1 v2 : Value) : Prop :=
  ∃ g1 g2, v1 = .slice (some ⟨g1, 0, none⟩) n n ∧ v2 = .slice (some ⟨g2, 0, none⟩) n n ∧ g1 ≠ g2 ∧ w1.heap.size ≤ g1 ∧ w1.heap.size ≤ g2 ∧
    Arr wx g1 3 (List.replicate n 0) ∧ Arr wx g2 3 (List.replicate n 0) ∧ Chg NoB w1 wx

theorem two_facts (w1 : World) (n : Nat) (e : TypeId) :
    let W := ((w1.alloc (.cells (Array.replicate n (.int .i64 0)) e)).alloc (.cells (Array.replicate n (.int .i64 0)) e)).drew
    Arr W w1.heap.size e (List.replicate n 0) ∧ Arr W (w1.heap.size + 1) e (List.replicate n 0) ∧ Chg NoB w1 W := by
  refine ⟨((Arr.new w1 n e).alloc _).drew, ?_, (((Chg.refl _ w1).alloc _).alloc _).drew⟩
  have := Arr.new (w1.alloc (.cells (Array.replicate n (.int .i64 0)) e)) n e
  rw [World.size_alloc] at this
  exact this.drew
theorem Two.one (w1 : World) (n : Nat) : Two w1 ((w1.alloc (.cells (Array.replicate n (.int .i64 0)) 3)).alloc (.cells (Array.replicate n (.int .i64 0)) 3)).drew n
    (.slice (some ⟨w1.heap.size, 0, none⟩) n n) (.slice (some ⟨w1.heap.size + 1, 0, none⟩) n n) :=
  let ⟨a, b, c⟩ := two_facts w1 n 3; ⟨_, _, rfl, rfl, by omega, by omega, by omega, a, b, c⟩
theorem Two.two (w1 : World) (n : Nat) : Two w1 ((w1.alloc (.cells (Array.replicate n (.int .i64 0)) 3)).alloc (.cells (Array.replicate n (.int .i64 0)) 3)).drew n
    (.slice (some ⟨w1.heap.size + 1, 0, none⟩) n n) (.slice (some ⟨w1.heap.size, 0, none⟩) n n) :=
  let ⟨a, b, c⟩ := two_facts w1 n 3; ⟨_, _, rfl, rfl, by omega, by omega, by omega, b, a, c⟩

/-- The frame of the summing: all new blocks but those of the rows, which came between w2 and w3. -/
def But (B L H : Nat) : Nat → Prop := fun q => B ≤ q ∧ (q < L ∨ H ≤ q)

set_option maxRecDepth 100000 in
set_option maxHeartbeats 1000000 in
theorem blocked_any (v1 v2 : Value) (c bf : List Int) (n : Int) (A1 A2 : Nat → Prop) (w : World) (h1 : IsSl w A1 v1 c) (h2 : IsSl w A2 v2 bf) :
    Calls Try.prog 8 #[v1, v2, .int .i64 n] w fun e w' => ∃ y z, e = .returned (.tuple #[y, z, .int .i64 (flowF c bf n)]) ∧ IsSl w' (fun k => w.heap.size ≤ k) y (blkF c bf n) ∧ IsSl w' (fun k => w.heap.size ≤ k) z (idlF c bf n) ∧ Chg NoB w w' := by
  have HF := hid (flowFault_any v1 v2 c bf n A1 A2 w h1 h2)
  by_cases hf : flowF c bf n = 0
  · obtain ⟨hr, hn1, hn2⟩ := flowF_right hf
    obtain ⟨m, rfl⟩ : ∃ m : Nat, n = m := ⟨n.toNat, by omega⟩
    have HL : Hid (blkF c bf m = blkL c bf m ∧ idlF c bf m = idlL c bf m) := by unfold Hid; rw [blkF, idlF, if_pos hf, if_pos hf]; simp
    have HFL : Hid (∀ w1, Chg NoB w w1 → _) := hid fun w1 (hc : Chg NoB w w1) => flow_any v1 v2 c bf m A1 A2 w1 (h1.keepN hc) (h2.keepN hc) hr (by omega)
    have hpos := hr.pos
    have hlen := hr.len
    rw [hf] at HF ⊢
    have HR := hid hr; clear hr hf
    obtain ⟨a1, cap1, rfl, g1, g2⟩ := h1.shape
    unfold maxLen at g2
    obtain ⟨bc, oc, rfl, _, hcc⟩ := h1.ints (by omega)
    have HCC := hid hcc; clear hcc
    go_enter Try.func8, Try.ntmps8
    go_wp2_with fail
    refine HF.out.mono ?_
    rintro e w1 ⟨rfl, hc1⟩
    go_upto_region 4 with (fail)
    go_cut [10, 11] (fun x10 x11 wx => Two w1 wx c.length x10 x11)
    case first =>
      have hmk := run_make_ints (P := Try.prog) 22 3 Try.underlying22 infoInt c.length (by omega)
      go_region
      all_goals go_wp2_with fail
      all_goals go_meet
      all_goals (case rel => first | exact Two.one _ _ | exact Two.two _ _)
    case rest =>
      obtain ⟨ga, gb, rfl, rfl, hab, hga, hgb, harr1, harr2, hc2⟩ := hcut
      obtain ⟨w2, rfl⟩ : ∃ w2 : World, w2 = wc := ⟨_, rfl⟩
      have hc12 := hc1.trans hc2
      have hsz1 := hc1.size
      have hga' : w.heap.size ≤ ga := by omega
      have hgb' : w.heap.size ≤ gb := by omega
      have hl1 := harr1.lt
      have hl2 := harr2.lt
      go_wp2_with fail
      refine (HFL.out w2 hc12).mono ?_
      rintro e w3 ⟨v, rfl, hv, hc3⟩
      obtain ⟨av, capv, rfl, g5, g6⟩ := hv.shape
      simp only [List.length_map, List.length_range] at hv g5 ⊢
      obtain ⟨bv, ov, rfl, hbv, hrows⟩ := hv.rows (by simp; omega)
      simp only [List.length_map, List.length_range, List.getElem_map, List.getElem_range] at hrows
      have harr1' := harr1.keep hc3 (fun x => x)
      have harr2' := harr2.keep hc3 (fun x => x)
      have hc13 := hc12.trans hc3
      have hsz3 := hc3.size
      clear harr1 harr2 hv
      go_wp2_with fail
      go_loopw [12, 13, 14, 15, 34] (fun _ _ _ _ i wr => ∃ k : Nat, k ≤ c.length ∧ i = .int .i64 k ∧ Arr wr ga 3 (pfx c.length k fun k => sumTo (blkAt c bf k) m) ∧ Arr wr gb 3 (pfx c.length k fun k => sumTo (idlAt c bf k) m) ∧ Chg (But w.heap.size w2.heap.size w3.heap.size) w3 wr)
        (fun _ _ _ _ i _ => c.length - (intOf i).toNat)
      case atStart => exact ⟨0, by omega, rfl, by rw [pfx_zero]; exact harr1', by rw [pfx_zero]; exact harr2', Chg.refl _ _⟩
      case round =>
        clear harr1' harr2'
        obtain ⟨k, hk, rfl, hra, hrb, hch⟩ := hrel
        by_cases hkl : k < c.length
        · obtain ⟨vr, hcell0, hrow0⟩ := hrows k hkl
          have hbl : ∀ (x : Addr) y, w3.cell? x = some y → w2.heap.size ≤ x.block → ¬ But w.heap.size w2.heap.size w3.heap.size x.block := by
            intro x y hx hl hbt
            have := World.block_lt_of_cell? w3 _ hx
            unfold But at hbt; omega
          have hcell := hch.cell hcell0 (hbl _ _ hcell0 hbv)
          obtain ⟨ar, capr, rfl, g7, g8⟩ := hrow0.shape
          simp only [List.length_map, List.length_range] at hcell hrow0 g7
          have HBL := hid hbl; clear hbl
          clear hcell0
          obtain ⟨wo, rfl⟩ : ∃ wo : World, wo = wr := ⟨_, rfl⟩
          go_wp2_with fail
          go_loopw [14, 15, 41] (fun _ _ i wr => ∃ j : Nat, j ≤ m ∧ i = .int .i64 j ∧ Arr wr ga 3 (pfx1 c.length k (fun k => sumTo (blkAt c bf k) m) (sumTo (blkAt c bf k) j)) ∧ Arr wr gb 3 (pfx1 c.length k (fun k => sumTo (idlAt c bf k) m) (sumTo (idlAt c bf k) j)) ∧ Chg (But w.heap.size w2.heap.size w3.heap.size) w3 wr)
            (fun _ _ i _ => m - (intOf i).toNat)
          case atStart => exact ⟨0, by omega, rfl, by rw [pfx1_start _ _ _ hkl] at hra; exact hra, by rw [pfx1_start _ _ _ hkl] at hrb; exact hrb, hch⟩
          case round =>
            clear hra hrb hch hcell
            obtain ⟨j, hj, rfl, hra, hrb, hch⟩ := hrel
            have hszr := hch.size
            by_cases hjm : j < m
            · obtain ⟨br, or_, rfl, hbr, hps⟩ := hrow0.passes (by simp; omega)
              obtain ⟨p0, p1⟩ := hps j (by simp; omega)
              simp only [List.getElem_map, List.getElem_range] at p0 p1
              have q0 := hch.cell p0 (HBL.out _ _ p0 hbr)
              have q1 := hch.cell p1 (HBL.out _ _ p1 hbr)
              have hp0 := (hps (j - 1) (by simp; omega)).2
              simp only [List.getElem_map, List.getElem_range] at hp0
              have q2 := hch.cell hp0 (HBL.out _ _ hp0 hbr)
              have hcc3 := hc13.cell (HCC.out k hkl) (fun x => x)
              have hck := hch.cell hcc3 (fun x => by have := World.block_lt_of_cell? w _ (HCC.out k hkl); unfold But at x; omega)
              have hac : at' c k = c[k] := by simp [at', hkl]
              have d1 := blkAt_bd HR.out k hkl j (by omega)
              have d2 := idlAt_bd HR.out k hkl j (by omega)
              have d3 := sumTo_bd (f := blkAt c bf k) (M := 30000000000) j fun i hi => blkAt_bd HR.out k hkl i (by omega)
              have d4 := sumTo_bd (f := idlAt c bf k) (M := 30000000000) j fun i hi => idlAt_bd HR.out k hkl i (by omega)
              have d5 := pas_bd HR.out j k hkl
              have d6 := pas_bd HR.out (j - 1) k hkl
              have d7 := HR.out.c1 k hkl
              have e1 : blkAt c bf k j = (pas c bf j k).left - (pas c bf j k).taken - c[k] := by rw [blkAt, hac]
              have s1 : sumTo (blkAt c bf k) (j + 1) = sumTo (blkAt c bf k) j + blkAt c bf k j := rfl
              have s2 : sumTo (idlAt c bf k) (j + 1) = sumTo (idlAt c bf k) j + idlAt c bf k j := rfl
              have r1 := hra.cell k (by rw [pfx1_len]; exact hkl)
              have r2 := hrb.cell k (by rw [pfx1_len]; exact hkl)
              rw [pfx1_get _ _ _ _ hkl] at r1 r2
              have r3 := hra.froz k
              have r4 := hrb.froz k
              rw [hac] at d5 d6 d7
              have e2 : 0 < j → idlAt c bf k j = (pas c bf j k).taken - (pas c bf (j - 1) k).left := fun h => by rw [idlAt, if_neg (by omega)]
              have e3 : j = 0 → idlAt c bf k j = 0 := fun h => by rw [idlAt, if_pos h]
              have S1 : Hid (∀ x, x = sumTo (blkAt c bf k) j + ((pas c bf j k).left - (pas c bf j k).taken - c[k]) → x = sumTo (blkAt c bf k) (j + 1)) := hid fun x hx => by rw [hx, s1, e1]
              have S2 : Hid (∀ x, 0 < j → x = sumTo (idlAt c bf k) j + ((pas c bf j k).taken - (pas c bf (j - 1) k).left) → x = sumTo (idlAt c bf k) (j + 1)) := hid fun x h hx => by rw [hx, s2, e2 h]
              have S3 : Hid (j = 0 → sumTo (idlAt c bf k) j = sumTo (idlAt c bf k) (j + 1)) := hid fun h => by rw [s2, e3 h]; omega
              rw [e1] at d1
              have d2' : 0 < j → 0 ≤ (pas c bf j k).taken - (pas c bf (j - 1) k).left ∧ (pas c bf j k).taken - (pas c bf (j - 1) k).left ≤ 30000000000 := fun h => by rw [← e2 h]; exact d2
              obtain ⟨SB, hSB⟩ : ∃ x, x = sumTo (blkAt c bf k) j := ⟨_, rfl⟩
              obtain ⟨SI, hSI⟩ : ∃ x, x = sumTo (idlAt c bf k) j := ⟨_, rfl⟩
              obtain ⟨X, hX⟩ : ∃ x, x = (pas c bf j k).left := ⟨_, rfl⟩
              obtain ⟨Y, hY⟩ : ∃ x, x = (pas c bf j k).taken := ⟨_, rfl⟩
              obtain ⟨Z, hZ⟩ : ∃ x, x = (pas c bf (j - 1) k).left := ⟨_, rfl⟩
              rw [← hSB] at r1 d3 S1
              rw [← hSI] at r2 d4 S2 S3
              rw [← hX] at q1 d1 d5 S1
              rw [← hY] at q0 d1 d5 d2' S1 S2
              rw [← hZ] at q2 d6 d2' S2
              have hra' := hid hra
              have hrb' := hid hrb
              rw [← hSB] at hra'
              rw [← hSI] at hrb'
              have hgl1 := hra.lt
              have hgl2 := hrb.lt
              have hbl1 : bc < wr.heap.size := World.block_lt_of_cell? wr _ hck
              have hbl2 : br < wr.heap.size := World.block_lt_of_cell? wr _ q0
              clear hSB hSI hX hY hZ e1 e2 e3 s1 s2 d2 hra hrb p0 p1 hp0 hps hac hcc3
              by_cases hj0 : 0 < j
              · have d2 := d2' hj0
                obtain ⟨q, rfl⟩ : ∃ q, j = q + 1 := ⟨j - 1, by omega⟩
                simp only [Nat.add_sub_cancel] at q2
                clear d2'
                go_wp2_with fail
                go_region
                all_goals go_wp2_with fail
                all_goals go_region
                all_goals go_wp2_with fail
                all_goals go_roundw
                case rel =>
                  refine ⟨q + 1 + 1, by omega, by go_num, ?_, ?_, ?_⟩
                  · rw [← S1.out _ rfl, ← pfx1_set]
                    exact ((hra'.out.set k _).keepAt (Chg.setAt _ _ _ _) hab).alloc _
                  · rw [← S2.out _ (by omega) rfl, ← pfx1_set]
                    exact ((hrb'.out.keepAt (Chg.setAt _ _ _ _) (fun e => hab e.symm)).set k _).alloc _
                  · exact ((((hch.setCell (a := ⟨ga, k, none⟩) (fun _ => ⟨hga', .inl hl1⟩) _).setCell (a := ⟨gb, k, none⟩) (fun _ => ⟨hgb', .inl hl2⟩) _).alloc _).drew).drew
                case measure => simp [intOf]; omega
              · clear d2'
                go_wp2_with fail
                go_region
                all_goals go_wp2_with fail
                all_goals go_roundw
                case rel =>
                  refine ⟨j + 1, by omega, by go_num, ?_, ?_, ?_⟩
                  · rw [← S1.out _ rfl, ← pfx1_set]
                    exact (hra'.out.set k _).alloc _
                  · rw [← S3.out (by omega)]
                    exact (hrb'.out.keepAt (Chg.setAt _ _ _ _) (fun e => hab e.symm)).alloc _
                  · exact ((hch.setCell (a := ⟨ga, k, none⟩) (fun _ => ⟨hga', .inl hl1⟩) _).alloc _).drew
                case measure => simp [intOf]; omega
            · obtain rfl : j = m := by omega
              go_wp2_with fail
              go_roundw
              case rel => exact ⟨k + 1, by omega, by go_num, by rw [← pfx1_done _ _ _ hkl]; exact hra, by rw [← pfx1_done _ _ _ hkl]; exact hrb, hch⟩
              case measure => simp [intOf]; omega
        · obtain rfl : k = c.length := by omega
          go_wp2_with fail
          go_ret3
          have hx1 := hra.isSl (A := fun q => w.heap.size ≤ q) (by omega) (by rw [pfx_len]; unfold maxLen; omega)
          have hx2 := hrb.isSl (A := fun q => w.heap.size ≤ q) (by omega) (by rw [pfx_len]; unfold maxLen; omega)
          rw [pfx_len, pfx_all] at hx1 hx2
          exact ⟨_, _, rfl, by rw [HL.out.1]; exact hx1, by rw [HL.out.2]; exact hx2, (hc13.any.trans hch).mono fun q h1 h2 => by unfold But at h2; omega⟩
  · have hb : (flowF c bf n != 0) = true := by simp [hf]
    have HL : Hid (blkF c bf n = [] ∧ idlF c bf n = []) := by unfold Hid; rw [blkF, idlF, if_neg hf, if_neg hf]; exact ⟨rfl, rfl⟩
    clear hf
    go_enter Try.func8, Try.ntmps8
    go_wp2_with fail
    refine HF.out.mono ?_
    rintro e w1 ⟨rfl, hc1⟩
    go_wp2_with fail
    go_ret3
    exact ⟨_, _, rfl, by rw [HL.out.1]; exact IsSl.nil _ _, by rw [HL.out.2]; exact IsSl.nil _ _, hc1⟩
end Go.Proofs.Ytdemlenodablfaa
