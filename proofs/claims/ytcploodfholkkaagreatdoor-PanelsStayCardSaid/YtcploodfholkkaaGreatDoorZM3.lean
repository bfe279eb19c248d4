/- Part 3 of a proof: the walks and laws that it needs. -/
import Derived.Laws.StructEq
import Derived.Test.YtcploodfholkkaaGreatDoorZM2
set_option linter.unusedVariables false
set_option linter.unusedSimpArgs false
namespace Go.Proofs.YtcploodfholkkaaGreatDoor
open Go.RowKit
set_option maxRecDepth 100000
section
def wd3 : List Int := [100, 60, 1000]
def hg3 : List Int := [40, 60, 999]
def prt4 : List ByteArray := [⟨#[99, 97, 112]⟩, ⟨#[114, 101, 115]⟩, ⟨#[114, 101, 115]⟩, ⟨#[105, 99]⟩]
def prNew (L : List Int) (w h : Int) (q j : Nat) : PlaceS := ⟨keysP.getD q ByteArray.empty, someV L (j + 1) prt4, rng L (j + 2) 0 w, rng L (j + 3) 0 (min h 30), rng L (j + 4) 0 3⟩
def prStep (L : List Int) (w h : Int) (q : Nat) (z : List PlaceS × Nat) : List PlaceS × Nat := if nxt L z.2 3 = 0 then (z.1, z.2 + 1) else (z.1 ++ [prNew L w h q z.2], z.2 + 5)
def prL (L : List Int) (w h : Int) (k : Nat) : Nat → List PlaceS × Nat
 | 0 => ([], k)
 | q + 1 => prStep L w h q (prL L w h k q)
def prTail (L : List Int) (w h : Int) (l : List PlaceS) (j : Nat) : ProdS × Nat :=
 if nxt L j 10 = 0 then
  if nxt L (j + 1) 3 = 0 then (⟨someV L (j + 2) [⟨#[]⟩, ⟨#[65]⟩, ⟨#[112]⟩], pickV L (j + 3) [w, 0, 500001], pickV L (j + 4) [h, -1, 500000], l⟩, j + 5)
  else if 0 < l.length then
   (⟨⟨#[112]⟩, w, h, l.set (nxt L (j + 2) l.length).toNat ⟨someV L (j + 3) [(l.getD (nxt L (j + 2) l.length).toNat default).name, (l.getD (nxt L (j + 2) l.length).toNat default).name, ⟨#[]⟩, ⟨#[99, 49]⟩],
    someV L (j + 4) [(l.getD (nxt L (j + 2) l.length).toNat default).part, (l.getD (nxt L (j + 2) l.length).toNat default).part, ⟨#[]⟩], pickV L (j + 5) [(l.getD (nxt L (j + 2) l.length).toNat default).x, -1, w + 1],
    pickV L (j + 6) [(l.getD (nxt L (j + 2) l.length).toNat default).y, (l.getD (nxt L (j + 2) l.length).toNat default).y, -1, 4611686018427387904], pickV L (j + 7) [(l.getD (nxt L (j + 2) l.length).toNat default).quarter, 4, -1]⟩⟩, j + 8)
  else (⟨⟨#[112]⟩, w, h, l⟩, j + 2)
 else (⟨⟨#[112]⟩, w, h, l⟩, j + 1)
def apV (L : List Int) (k : Nat) : ProdS × Nat := prTail L (pickV L k wd3) (pickV L (k + 1) hg3) (prL L (pickV L k wd3) (pickV L (k + 1) hg3) (k + 2) 5).1 (prL L (pickV L k wd3) (pickV L (k + 1) hg3) (k + 2) 5).2
section
variable {L : List Int} {w h : Int} {k q j : Nat} {l : List PlaceS}
theorem prStep_n (h1 : nxt L j 3 = 0) : prStep L w h q (l, j) = (l, j + 1) := if_pos h1
theorem prStep_y (h1 : nxt L j 3 ≠ 0) : prStep L w h q (l, j) = (l ++ [prNew L w h q j], j + 5) := if_neg h1
theorem prNew_sm : (prNew L w h q j).name.size ≤ 1000 ∧ (prNew L w h q j).part.size ≤ 1000 := ⟨keysP_size q, someV_size (m := 1000) (by decide)⟩
end
section
variable {L : List Int} {w h : Int} {j m : Nat} {l : List PlaceS} {r75 r86 r129 : ByteArray} {r96 r107 r114 r134 r139 : Int}
theorem prTail_0 (h0 : nxt L j 10 ≠ 0) : prTail L w h l j = (⟨⟨#[112]⟩, w, h, l⟩, j + 1) := if_neg h0
theorem prTail_1 (h0 : nxt L j 10 = 0) (h1 : nxt L (j + 1) 3 = 0) (e1 : someV L (j + 2) [⟨#[]⟩, ⟨#[65]⟩, ⟨#[112]⟩] = r129) (e2 : pickV L (j + 3) [w, 0, 500001] = r134) (e3 : pickV L (j + 4) [h, -1, 500000] = r139) : prTail L w h l j = (⟨r129, r134, r139, l⟩, j + 5) := by
 rw [prTail, if_pos h0, if_pos h1, e1, e2, e3]
theorem prTail_2 (h0 : nxt L j 10 = 0) (h1 : nxt L (j + 1) 3 ≠ 0) (h2 : l.length = 0) : prTail L w h l j = (⟨⟨#[112]⟩, w, h, l⟩, j + 2) := by
 rw [prTail, if_pos h0, if_neg h1, if_neg (by omega)]
theorem prTail_3 (h0 : nxt L j 10 = 0) (h1 : nxt L (j + 1) 3 ≠ 0) (h2 : 0 < l.length) (hm : nxt L (j + 2) l.length = (m : Int)) (e1 : someV L (j + 3) [(xA l m).name, (xA l m).name, ⟨#[]⟩, ⟨#[99, 49]⟩] = r75) (e2 : someV L (j + 4) [(xA l m).part, (xA l m).part, ⟨#[]⟩] = r86) (e3 : pickV L (j + 5) [(xA l m).x, -1, w + 1] = r96) (e4 : pickV L (j + 6) [(xA l m).y, (xA l m).y, -1, 4611686018427387904] = r107) (e5 : pickV L (j + 7) [(xA l m).quarter, 4, -1] = r114) :
  prTail L w h l j = (⟨⟨#[112]⟩, w, h, (((((l.set m ({l.getD m default with name := r75} : PlaceS)).set m ({l.getD m default with name := r75, part := r86} : PlaceS)).set m ({l.getD m default with name := r75, part := r86, x := r96} : PlaceS)).set m ({l.getD m default with name := r75, part := r86, x := r96, y := r107} : PlaceS)).set m ({l.getD m default with name := r75, part := r86, x := r96, y := r107, quarter := r114} : PlaceS))⟩, j + 8) := by
 rw [prTail, if_pos h0, if_neg h1, if_pos h2, hm, Int.toNat_natCast, e1, e2, e3, e4, e5]
 simp only [List.set_set]
theorem ap_o1 {k J : Nat} {P : ProdS} (hT : apV L k = (P, J)) : avProd P = avProd (apV L k).1 := by rw [hT]
theorem ap_o2 {k J p cap : Nat} {a0 : Option Addr} {P : ProdS} {e : Ent} (hT : apV L k = (P, J)) : [bxStr p a0 cap L J, e] = [bxStr p a0 cap L (apV L k).2, e] := by rw [hT]
end
def aProduct_EZ1 (p : Nat) (g2 : Nat) (g3 : Nat) (ww : Int) (hg0 : Int) : List (Nat × AV) := [(0, sp p), (2, (pA g2 (0))), (3, (pA g3 (0))), (127, sp p), (130, sp p), (135, sp p), (132, avI ww), (137, avI hg0)]
def aProduct_EZ2 (p : Nat) (g2 : Nat) (g3 : Nat) (gr : Nat) (m : Nat) (l : List PlaceS) (ww : Int) : List (Nat × AV) := [(0, sp p), (2, (pA g2 (0))), (3, (pA g3 (0))), (65, sp p), (76, sp p), (87, sp p), (97, sp p), (108, sp p), (60, (pA gr (0 + m * 5))), (69, avS (xA l m).name), (73, avS (xA l m).name), (80, avS (xA l m).part), (84, avS (xA l m).part), (91, avI (xA l m).x), (94, avI (ww + 1)), (101, avI (xA l m).y), (105, avI (xA l m).y), (112, avI (xA l m).quarter), (61, (pA gr (0 + m * 5))), (62, (pA gr (0 + m * 5))), (63, (pA gr (0 + m * 5))), (64, (pA gr (0 + m * 5)))]
set_option maxHeartbeats 40000000 in
theorem aProduct_E {p0 cap : Nat} {a0 : Option Addr} {p k : Nat} {L : List Int} (hk : k ≤ 900000) (hp0 : p0 ≤ p) :
    SpecHX (TXI a0 L p0) Tryz.prog 68 [sp p] [bxStr p a0 cap L k] (fun y hp' => y = avProd (apV L k).1 ∧ ∃ e, hp' = [bxStr p a0 cap L (apV L k).2, e]) := by
  have e3 : wd3.length = 3 := rfl
  have e3' : hg3.length = 3 := rfl
  have e4 : prt4.length = 4 := rfl
  obtain ⟨ww, hww⟩ : ∃ z, pickV L k wd3 = z := ⟨_, rfl⟩
  obtain ⟨hg0, hhh⟩ : ∃ z, pickV L (k + 1) hg3 = z := ⟨_, rfl⟩
  have bw : 60 ≤ ww ∧ ww ≤ 1000 := by rw [← hww]; exact pickV_in (by decide) (by decide)
  have bh : 40 ≤ hg0 ∧ hg0 ≤ 1000 := by rw [← hhh]; exact pickV_in (by decide) (by decide)
  refine SpecHX.of_VC txi_stab Tryz.func68 rfl Tryz.ntmps68 (Nle rfl) fun w A hB hGX => ?_
  have hnew : True := trivial
  refine VC.sr ?_
  refine VO.op rfl (OpE.alloc rfl hB rfl Tryz.zeroValue28 rfl ?_)
  intro g2
  refine VO.nil ?_
  refine VC.sr ?_
  refine VO.mw ?_
  refine VO.op rfl (bI rfl hB rfl (by decide) rfl rfl ?_)
  refine VO.le _ (Le.lI (t := 8) (xs := wd3) rfl rfl) ?_
  refine VO.op rfl (OpE.callHX (rest := [_]) txi_stab hGX rfl hB rfl Tryz.call77 rfl rfl (pick_E (xs := wd3) (by omega) (by omega) hp0) (List.Perm.refl _) (fun _ _ => trivial) ?_)
  rintro _ _ ⟨rfl, rfl⟩
  refine VO.le _ (Le.recast (t := 9) (y := avI ww) rfl (fun w Z u h => by rw [← hww]; exact h)) ?_
  refine VO.mw ?_
  refine VO.op rfl (bI rfl hB rfl (by decide) rfl rfl ?_)
  refine VO.le _ (Le.lI (t := 11) (xs := hg3) rfl rfl) ?_
  refine VO.op rfl (OpE.callHX (rest := [_]) txi_stab hGX rfl hB rfl Tryz.call77 rfl rfl (pick_E (xs := hg3) (by omega) (by omega) hp0) (List.Perm.refl _) (fun _ _ => trivial) ?_)
  rintro _ _ ⟨rfl, rfl⟩
  refine VO.le _ (Le.recast (t := 12) (y := avI hg0) rfl (fun w Z u h => by rw [← hhh]; exact h)) ?_
  refine VO.vv (OpV.build (pls := #[(0, 1), (1, 1), (2, 1), (3, 1)]) rfl Tryz.zeroValue28 Tryz.underlying28 (fun w => by kernel_rfl) rfl rfl) ?_
  refine VO.op rfl (OpE.alloc rfl hB rfl Tryz.zeroValue28 rfl ?_)
  intro g3
  refine VO.op rfl (OpE.store (i := 2) rfl hB rfl Tryz.sizeOf28 rfl rfl rfl rfl rfl rfl (Nle rfl) trivial ?_)
  refine VO.nil ?_
  refine VC.seq ?_
  refine VC.sr ?_
  refine VO.op rfl (bS rfl hB rfl (by decide) rfl rfl ?_)
  refine VO.le _ (Le.lS (t := 14) (xs := keysP) rfl rfl) ?_
  refine VO.vv (OpV.len_im rfl Tryz.underlying82 rfl) ?_
  refine VO.mw ?_
  refine VO.nil ?_
  refine VC.block ?_
  refine VC.le _ (Le.nilRow 5 152) ?_
  refine VC.loopK [(0, _), (2, _), (3, _), (14, _)] ⟨rfl, rfl, rfl, rfl, trivial⟩ ({t : (Option Addr × Nat) × (List PlaceS × Nat) × Nat // t.2.2 ≤ 5 ∧ t.2.1 = prL L ww hg0 (k + 2) t.2.2 ∧ (t.2.1.1.length ≤ t.2.2 ∧ t.2.1.2 ≤ k + 2 + 5 * t.2.2 ∧ POk t.2.1.1)}) (fun (iZ : {t : (Option Addr × Nat) × (List PlaceS × Nat) × Nat // t.2.2 ≤ 5 ∧ t.2.1 = prL L ww hg0 (k + 2) t.2.2 ∧ (t.2.1.1.length ≤ t.2.2 ∧ t.2.1.2 ≤ k + 2 + 5 * t.2.2 ∧ POk t.2.1.1)}) => match iZ with | ⟨⟨⟨b, c⟩, ⟨l, j⟩, q⟩, hq, hlj, hl, hj, hok⟩ => [(15, avI 5), (16, avI (q : Int))]) (fun (iZ : {t : (Option Addr × Nat) × (List PlaceS × Nat) × Nat // t.2.2 ≤ 5 ∧ t.2.1 = prL L ww hg0 (k + 2) t.2.2 ∧ (t.2.1.1.length ≤ t.2.2 ∧ t.2.1.2 ≤ k + 2 + 5 * t.2.2 ∧ POk t.2.1.1)}) => match iZ with | ⟨⟨⟨b, c⟩, ⟨l, j⟩, q⟩, hq, hlj, hl, hj, hok⟩ => [bxStr p a0 cap L j, .box g2 ⟨[avS ⟨#[]⟩, avI 0, avI 0, .v (.slice none 0 0)], 28, 4⟩, .box g3 ⟨[avS ⟨#[112]⟩, avI ww, avI hg0, .v (.slice b l.length c)], 28, 4⟩, .row (.slice b l.length c) l.length 5 (rowL l) 152]) (fun (iZ : {t : (Option Addr × Nat) × (List PlaceS × Nat) × Nat // t.2.2 ≤ 5 ∧ t.2.1 = prL L ww hg0 (k + 2) t.2.2 ∧ (t.2.1.1.length ≤ t.2.2 ∧ t.2.1.2 ≤ k + 2 + 5 * t.2.2 ∧ POk t.2.1.1)}) => match iZ with | ⟨⟨⟨b, c⟩, ⟨l, j⟩, q⟩, hq, hlj, hl, hj, hok⟩ => 0) (fun (iZ : {t : (Option Addr × Nat) × (List PlaceS × Nat) × Nat // t.2.2 ≤ 5 ∧ t.2.1 = prL L ww hg0 (k + 2) t.2.2 ∧ (t.2.1.1.length ≤ t.2.2 ∧ t.2.1.2 ≤ k + 2 + 5 * t.2.2 ∧ POk t.2.1.1)}) => match iZ with | ⟨⟨⟨b, c⟩, ⟨l, j⟩, q⟩, hq, hlj, hl, hj, hok⟩ => 5 - q) ⟨((none, 0), ([], k + 2), 0), Nat.zero_le _, rfl, Nat.zero_le _, Nat.le_refl _, fun x h => by simp at h⟩ (Le.mk hB [0, 1, 2, 3] ⟨rfl, rfl, rfl, rfl, rfl, rfl, trivial⟩ rfl rfl (Nat.le_refl _)) ?_
  rintro ⟨⟨⟨b, c⟩, ⟨l, j⟩, q⟩, hq, hlj, hl, hj, hok⟩
  show VC _ _ _ _ ⟨[(15, avI 5), (16, avI (q : Int))] ++ [(0, _), (2, _), (3, _), (14, _)], [bxStr p a0 cap L j, .box g2 ⟨[avS ⟨#[]⟩, avI 0, avI 0, .v (.slice none 0 0)], 28, 4⟩, .box g3 ⟨[avS ⟨#[112]⟩, avI ww, avI hg0, .v (.slice b l.length c)], 28, 4⟩, .row (.slice b l.length c) l.length 5 (rowL l) 152], 0⟩
  simp only at hq hlj hl hj hok
  refine VC.sr ?_
  refine VO.vv (OpV.lss rfl rfl rfl) ?_
  refine VO.nil ?_
  refine VC.seq ?_
  refine VC.cond rfl (fun aH1b => ?_) (fun aH1b => ?_)
  · have aH1 := aH1b
    try simp only [qq] at aH1
    refine VC.skip ?_
    refine VC.seq ?_
    refine VC.block ?_
    refine VC.sr ?_
    refine VO.vv (OpV.indexAddr_1 rfl Tryz.underlying82 Tryz.sizeOf9 rfl rfl rfl (by show _ < 5; omega)) ?_
    refine VO.vv (OpV.load_at rfl hB OutW.no Tryz.isAgg9 rfl rfl) ?_
    refine VO.mb ?_
    refine VO.nil ?_
    refine VC.seq ?_
    refine VC.sr ?_
    refine VO.mw ?_
    refine VO.op rfl (OpE.callHX (rest := [_, _, _]) txi_stab hGX rfl hB rfl Tryz.call76 rfl rfl (flip_X (by omega) (by omega) hp0) (List.Perm.refl _) (fun _ _ => trivial) ?_)
    rintro _ _ ⟨rfl, rfl⟩
    refine VO.nil ?_
    refine VC.cond rfl (fun h1b => ?_) (fun h1b => ?_)
    · have h1 := h1b
      try simp only [qq] at h1
      refine VC.exit ?_
      refine VC.region ?_
      refine VO.vv (OpV.add rfl rfl rfl (by unfold fits; omega)) ?_
      refine VO.mw ?_
      refine VO.nil ?_
      exact Exists.intro (⟨((b, c), (l, j + 1), q + 1), by show q + 1 ≤ 5; omega, by show _ = prStep L ww hg0 q (prL L ww hg0 (k + 2) q); rw [← hlj]; exact (prStep_n h1).symm, by show l.length ≤ q + 1; omega, by show j + 1 ≤ k + 2 + 5 * (q + 1); omega, hok⟩) (And.intro (Le.mk hB [0, 1, 2, 3] ⟨rfl, rfl, rfl, rfl, rfl, rfl, trivial⟩ rfl (by first | rfl | (dsimp only; rw [List.length_append]; rfl)) (Nat.le_refl _)) (by first | omega | (show _ < _; omega) | (simp only []; omega)))
    · have h1 := h1b
      try simp only [qq] at h1
      refine VC.skip ?_
      refine VC.hap (fun hap => ?_)
      have n3p := apart_ne hap (i := 2) (j := 0) rfl rfl (by decide)
      refine VC.draw (fun j b => (j = 21 ∧ b = g3) ∨ (j = 19 ∧ b ≠ g3 ∧ b ≠ p) ∨ (j ∈ [5, 9, 14, 16] ∧ b = p)) hB (by kernel_rfl) ?_
      refine VA.td (i := 0) rfl (OpV.fieldAddrO 3 rfl Tryz.underlying28 rfl rfl Tryz.sizeOf26 rfl) ?_
      refine VA.td (i := 1) rfl (OpV.load_own (i := 2) rfl hB Tryz.isAgg26 rfl rfl rfl (Wi.notS3 (.inl (by decide +kernel)) (.inr fun h => h.1 rfl) n3p)) ?_
      refine VA.td (i := 2) rfl (OpV.move (.inl rfl) rfl) ?_
      refine VA.td (i := 3) rfl (OpV.move (.inl rfl) rfl) ?_
      refine VA.td (i := 6) rfl (OpV.move (.inl rfl) rfl) ?_
      refine VA.td (i := 7) rfl (OpV.fieldAddrO 1 rfl Tryz.underlying28 rfl rfl Tryz.sizeOf3 rfl) ?_
      refine VA.td (i := 8) rfl (OpV.load_own (i := 2) rfl hB Tryz.isAgg3 rfl rfl rfl (Wi.notS3 (.inl (by decide +kernel)) (.inr fun h => h.1 rfl) n3p)) ?_
      refine VA.td (i := 10) rfl (OpV.move (.inl rfl) rfl) ?_
      refine VA.td (i := 11) rfl (OpV.fieldAddrO 2 rfl Tryz.underlying28 rfl rfl Tryz.sizeOf3 rfl) ?_
      refine VA.td (i := 12) rfl (OpV.load_own (i := 2) rfl hB Tryz.isAgg3 rfl rfl rfl (Wi.notS3 (.inl (by decide +kernel)) (.inr fun h => h.1 rfl) n3p)) ?_
      refine VA.td (i := 13) rfl (OpV.min2 rfl rfl rfl) ?_
      refine VA.td (i := 15) rfl (OpV.move (.inl rfl) rfl) ?_
      refine VA.all (rs := [4]) (by decide +kernel) (by decide) ?_
      refine ⟨⟨_, rfl, .inl rfl, ?_⟩, trivial⟩
      refine bS rfl hB rfl (by decide) rfl rfl ?_
      refine VA.le _ (Le.lS (t := 26) (xs := prt4) rfl rfl) ?_
      refine VA.all (rs := [5]) (by decide +kernel) (by decide) ?_
      refine ⟨⟨_, rfl, .inl rfl, ?_⟩, trivial⟩
      refine OpE.callHX (rest := [_, _, _]) txi_stab hGX rfl hB rfl Tryz.call79 rfl rfl (some_X (xs := prt4) (by omega) (by omega) hp0) (List.Perm.refl _) (fun b h => .inr (.inr ⟨by decide, blkStr h⟩)) ?_
      rintro _ _ ⟨rfl, rfl⟩
      refine VA.all (rs := [9]) (by decide +kernel) (by decide) ?_
      refine ⟨⟨_, rfl, .inl rfl, ?_⟩, trivial⟩
      refine OpE.callHX (rest := [_, _, _]) txi_stab hGX rfl hB rfl Tryz.call58 rfl rfl (range_X (by omega) (by omega) (by omega) (by omega) hp0) (List.Perm.refl _) (fun b h => .inr (.inr ⟨by decide, blkStr h⟩)) ?_
      rintro _ _ ⟨rfl, rfl⟩
      refine VA.all (rs := [14]) (by decide +kernel) (by decide) ?_
      refine ⟨⟨_, rfl, .inl rfl, ?_⟩, trivial⟩
      refine OpE.callHX (rest := [_, _, _]) txi_stab hGX rfl hB rfl Tryz.call58 rfl rfl (range_X (by omega) (by omega) (by omega) (by omega) hp0) (List.Perm.refl _) (fun b h => .inr (.inr ⟨by decide, blkStr h⟩)) ?_
      rintro _ _ ⟨rfl, rfl⟩
      refine VA.all (rs := [16]) (by decide +kernel) (by decide) ?_
      refine ⟨⟨_, rfl, .inl rfl, ?_⟩, trivial⟩
      refine OpE.callHX (rest := [_, _, _]) txi_stab hGX rfl hB rfl Tryz.call58 rfl rfl (range_X (by omega) (by omega) (by omega) (by omega) hp0) (List.Perm.refl _) (fun b h => .inr (.inr ⟨by decide, blkStr h⟩)) ?_
      rintro _ _ ⟨rfl, rfl⟩
      refine VA.td (i := 17) rfl (OpV.build (pls := #[(0, 1), (1, 1), (2, 1), (3, 1), (4, 1)]) rfl Tryz.zeroValue152 Tryz.underlying152 (fun w => by kernel_rfl) rfl rfl) ?_
      refine VA.all (rs := [18]) (by decide +kernel) (by decide) ?_
      refine ⟨⟨_, rfl, .inl rfl, ?_⟩, trivial⟩
      refine OpE.buildSlice (zc := #[.string ⟨#[]⟩, .string ⟨#[]⟩, .int .i64 0, .int .i64 0, .int .i64 0]) rfl hB rfl Tryz.underlying26 Tryz.sizeOf152 Tryz.zeroValue152 (by decide) (by decide) (by kernel_rfl) rfl rfl ?_
      refine VA.all (rs := [19]) (by decide +kernel) (by decide) ?_
      refine ⟨⟨_, rfl, .inl rfl, ?_⟩, trivial⟩
      refine OpE.hap (fun hap => ?_)
      refine OpE.append1S (i := 3) rfl hB rfl Tryz.underlying26 (infoOf Tryz.t152 5 (by kernel_rfl) rfl rfl) rfl (by decide) (by decide) rfl rfl rfl rfl (rowL_snoc l (prNew L ww hg0 q j)) (by omega) (fun g' hg => .inr (.inl ⟨rfl, apart_ne hap (i := 3) (j := 2) hg rfl (by decide), apart_ne hap (i := 3) (j := 0) hg rfl (by decide)⟩)) ?_
      intro b2 c2
      refine VA.td (i := 20) rfl (OpV.fieldAddrO 3 rfl Tryz.underlying28 rfl rfl Tryz.sizeOf26 rfl) ?_
      refine VA.all (rs := [21]) (by decide +kernel) (by decide) ?_
      refine ⟨⟨_, rfl, .inl rfl, ?_⟩, trivial⟩
      refine OpE.hap (fun hap => ?_)
      refine OpE.store (i := 2) rfl hB rfl Tryz.sizeOf26 rfl rfl rfl rfl rfl rfl (Nle rfl) (.inl ⟨rfl, rfl⟩) ?_
      refine VA.done (by decide +kernel) ?_
      refine VC.region ?_
      refine VO.vv (OpV.add rfl rfl rfl (by unfold fits; omega)) ?_
      refine VO.mw ?_
      refine VO.nil ?_
      exact Exists.intro (⟨((b2, c2), (l ++ [prNew L ww hg0 q j], j + 5), q + 1), by show q + 1 ≤ 5; omega, by show _ = prStep L ww hg0 q (prL L ww hg0 (k + 2) q); rw [← hlj]; exact (prStep_y h1).symm, by show (l ++ [_]).length ≤ q + 1; simp; omega, by show j + 5 ≤ k + 2 + 5 * (q + 1); omega, hok.snoc prNew_sm⟩) (And.intro (Le.mk hB [0, 1, 2, 3] ⟨rfl, rfl, rfl, rfl, rfl, rfl, trivial⟩ rfl (by first | rfl | (dsimp only; rw [List.length_append]; rfl)) (Nat.le_refl _)) (by first | omega | (show _ < _; omega) | (simp only []; omega)))
  · have aH1 := aH1b
    try simp only [qq] at aH1
    obtain rfl : q = 5 := by omega
    have hV : apV L k = prTail L ww hg0 l j := by unfold apV; rw [hww, hhh, ← hlj]
    have hlj2 := hlj
    refine VC.exit ?_
    refine VC.seq ?_
    refine VC.sr ?_
    refine VO.mw ?_
    refine VO.op rfl (OpE.callHX (rest := [_, _, _]) txi_stab hGX rfl hB rfl Tryz.call76 rfl rfl (flip_X (by omega) (by omega) hp0) (List.Perm.refl _) (fun _ _ => trivial) ?_)
    rintro _ _ ⟨rfl, rfl⟩
    refine VO.nil ?_
    refine VC.cond rfl (fun h2b => ?_) (fun h2b => ?_)
    · have h2 := h2b
      try simp only [qq] at h2
      refine VC.sr ?_
      refine VO.mw ?_
      refine VO.op rfl (OpE.callHX (rest := [_, _, _]) txi_stab hGX rfl hB rfl Tryz.call78 rfl rfl (next_X hp0 (by omega) (by omega)) (List.Perm.refl _) (fun _ _ => trivial) ?_)
      rintro _ _ ⟨rfl, rfl⟩
      refine VO.nil ?_
      refine VC.block ?_
      refine VC.sr ?_
      refine VO.vv (OpV.eql rfl rfl rfl) ?_
      refine VO.mb ?_
      refine VO.nil ?_
      refine VC.cond rfl (fun h3b => ?_) (fun h3b => ?_)
      · have h3 := h3b
        try simp only [qq] at h3
        refine VC.hap (fun hap => ?_)
        have n3p := apart_ne hap (i := 2) (j := 0) rfl rfl (by decide)
        obtain ⟨r129, e129⟩ : ∃ r, someV L (j + 2) [⟨#[]⟩, ⟨#[65]⟩, ⟨#[112]⟩] = r := ⟨_, rfl⟩
        obtain ⟨r134, e134⟩ : ∃ r, pickV L (j + 3) [ww, 0, 500001] = r := ⟨_, rfl⟩
        obtain ⟨r139, e139⟩ : ∃ r, pickV L (j + 4) [hg0, -1, 500000] = r := ⟨_, rfl⟩
        refine VC.draw (fun j b => (j ∈ [14, 16, 18] ∧ b = g3) ∨ (j ∈ [2, 7, 12] ∧ b = p)) hB (by kernel_rfl) ?_
        refine VA.td (i := 0) rfl (OpV.move (.inl rfl) rfl) ?_
        refine VA.td (i := 3) rfl (OpV.move (.inl rfl) rfl) ?_
        refine VA.td (i := 4) rfl (OpV.fieldAddrO 1 rfl Tryz.underlying28 rfl rfl Tryz.sizeOf3 rfl) ?_
        refine VA.td (i := 5) rfl (OpV.load_own (i := 2) rfl hB Tryz.isAgg3 rfl rfl rfl (Wi.notSS (.inl (by decide +kernel)) n3p)) ?_
        refine VA.td (i := 8) rfl (OpV.move (.inl rfl) rfl) ?_
        refine VA.td (i := 9) rfl (OpV.fieldAddrO 2 rfl Tryz.underlying28 rfl rfl Tryz.sizeOf3 rfl) ?_
        refine VA.td (i := 10) rfl (OpV.load_own (i := 2) rfl hB Tryz.isAgg3 rfl rfl rfl (Wi.notSS (.inl (by decide +kernel)) n3p)) ?_
        refine VA.bind (fun F hF => ?_)
        have hS0 : F 5 (lsE 19 14 []) ⟨aProduct_EZ1 p g2 g3 ww hg0 ++ [(128, (avStrs [⟨#[]⟩, ⟨#[65]⟩, ⟨#[112]⟩])), (129, avS r129), (133, (avInts [ww, 0, 500001])), (134, avI r134), (138, (avInts [hg0, -1, 500000])), (139, avI r139), (140, (pA g3 (0)))], [bxStr p a0 cap L (j + 2 + 1 + 1 + 1), (bA g2), .box g3 ⟨[avS ⟨#[112]⟩, avI ww, avI hg0, .v (.slice b l.length c)], 28, 4⟩, .row (.slice b l.length c) l.length 5 (rowL l) 152], 0⟩ := by
          rw [hF]
          refine VA.all (rs := [14]) (by decide +kernel) (by decide) ?_
          refine ⟨⟨_, rfl, .inl rfl, ?_⟩, trivial⟩
          refine OpE.store (i := 2) rfl hB rfl Tryz.sizeOf9 rfl rfl rfl rfl rfl rfl (Nle rfl) (by first | exact .inl ⟨by decide, rfl⟩) ?_
          refine VA.td (i := 15) rfl (OpV.fieldAddrO 1 rfl Tryz.underlying28 rfl rfl Tryz.sizeOf3 rfl) ?_
          refine VA.all (rs := [16]) (by decide +kernel) (by decide) ?_
          refine ⟨⟨_, rfl, .inl rfl, ?_⟩, trivial⟩
          refine OpE.store (i := 2) rfl hB rfl Tryz.sizeOf3 rfl rfl rfl rfl rfl rfl (Nle rfl) (by first | exact .inl ⟨by decide, rfl⟩) ?_
          refine VA.td (i := 17) rfl (OpV.fieldAddrO 2 rfl Tryz.underlying28 rfl rfl Tryz.sizeOf3 rfl) ?_
          refine VA.all (rs := [18]) (by decide +kernel) (by decide) ?_
          refine ⟨⟨_, rfl, .inl rfl, ?_⟩, trivial⟩
          refine OpE.store (i := 2) rfl hB rfl Tryz.sizeOf3 rfl rfl rfl rfl rfl rfl (Nle rfl) (by first | exact .inl ⟨by decide, rfl⟩) ?_
          refine VA.done (by decide +kernel) ?_
          refine VC.seq ?_
          first | refine VC.le _ (Le.boxRow (i := 3) (n := l.length) (sz := 5) rfl (by simp only [rowL_len, List.length_set]; rfl) (by omega) (by omega)) ?_ | skip
          refine VC.region ?_
          refine VO.vv (OpV.loadK_own (i := 2) rfl hB Tryz.isAgg28 Tryz.sizeOf28 rfl rfl rfl (fun h => h)) ?_
          refine VO.le _ (Le.aggRow (t := 143) (j := 3) (i := 3) (y := avL l) hB hnew rfl rfl rfl (fun w Z u h => Rep.rowL rfl h)) ?_
          refine VO.op rfl (OpE.store (i := 1) rfl hB rfl Tryz.sizeOf28 rfl rfl rfl rfl rfl rfl (Nle rfl) trivial ?_)
          refine VO.nil ?_
          refine VC.le _ (Le.pickH [0, 1] rfl rfl) ?_
          refine VC.ret ?_
          exact Exists.intro _ (And.intro (RetV.one Tryz.results68 ((by first | exact ResV.cellK (i := 0) Tryz.isAgg28 Tryz.sizeOf28 rfl rfl rfl | exact ResV.cellK (i := 1) Tryz.isAgg28 Tryz.sizeOf28 rfl rfl rfl | exact ResV.cellK (i := 2) Tryz.isAgg28 Tryz.sizeOf28 rfl rfl rfl | exact ResV.cellK (i := 3) Tryz.isAgg28 Tryz.sizeOf28 rfl rfl rfl))) (by first | exact ⟨ap_o1 (hV.trans (prTail_0 (by omega))), _, ap_o2 (hV.trans (prTail_0 (by omega)))⟩ | exact ⟨ap_o1 (hV.trans (prTail_1 (by omega) (by omega) e129 e134 e139)), _, ap_o2 (hV.trans (prTail_1 (by omega) (by omega) e129 e134 e139))⟩ | exact ⟨ap_o1 (hV.trans (prTail_2 (by omega) (by omega) (by omega))), _, ap_o2 (hV.trans (prTail_2 (by omega) (by omega) (by omega)))⟩ | exact ⟨ap_o1 (hV.trans (prTail_3 (by omega) (by omega) (by omega) hm e75 e86 e96 e107 e114)), _, ap_o2 (hV.trans (prTail_3 (by omega) (by omega) (by omega) hm e75 e86 e96 e107 e114))⟩))
        have hS1 : F 6 (lsE 19 14 [12]) ⟨aProduct_EZ1 p g2 g3 ww hg0 ++ [(128, (avStrs [⟨#[]⟩, ⟨#[65]⟩, ⟨#[112]⟩])), (129, avS r129), (133, (avInts [ww, 0, 500001])), (134, avI r134), (138, (avInts [hg0, -1, 500000])), (140, (pA g3 (0)))], [bxStr p a0 cap L (j + 2 + 1 + 1), (bA g2), .box g3 ⟨[avS ⟨#[112]⟩, avI ww, avI hg0, .v (.slice b l.length c)], 28, 4⟩, .row (.slice b l.length c) l.length 5 (rowL l) 152], 0⟩ := by
          rw [hF]
          refine VA.all (rs := [12]) (by decide +kernel) (by decide) ?_
          refine ⟨⟨_, rfl, .inl rfl, ?_⟩, trivial⟩
          refine OpE.callHX (rest := [_, _, _]) txi_stab hGX rfl hB rfl Tryz.call77 rfl rfl (pick_E (xs := [hg0, -1, 500000]) (by omega) (by simp) hp0) (List.Perm.refl _) (fun b h => .inr ⟨by decide, blkStr h⟩) ?_
          rintro _ _ ⟨rfl, rfl⟩
          refine VA.le _ (Le.recast (t := 139) (y := avI r139) rfl (fun w Z u h => by rw [← e139]; exact h)) ?_
          have hh := hS0 
          rw [hF] at hh
          exact VA.to hh (by decide +kernel) (Le.mk hB [0, 1, 2, 3] (by repeat first | refine ⟨rfl, ?_⟩ | trivial) rfl rfl (Nat.le_refl _))
        have hS2 : F 7 (lsE 19 14 [11, 12]) ⟨aProduct_EZ1 p g2 g3 ww hg0 ++ [(128, (avStrs [⟨#[]⟩, ⟨#[65]⟩, ⟨#[112]⟩])), (129, avS r129), (133, (avInts [ww, 0, 500001])), (134, avI r134), (140, (pA g3 (0)))], [bxStr p a0 cap L (j + 2 + 1 + 1), (bA g2), .box g3 ⟨[avS ⟨#[112]⟩, avI ww, avI hg0, .v (.slice b l.length c)], 28, 4⟩, .row (.slice b l.length c) l.length 5 (rowL l) 152], 0⟩ := by
          rw [hF]
          refine VA.all (rs := [11]) (by decide +kernel) (by decide) ?_
          refine ⟨⟨_, rfl, .inl rfl, ?_⟩, trivial⟩
          refine bI rfl hB rfl (by decide) rfl rfl ?_
          refine VA.le _ (Le.lI (t := 138) (xs := [hg0, -1, 500000]) rfl rfl) ?_
          have hh := hS1 
          rw [hF] at hh
          exact VA.to hh (by decide +kernel) (Le.mk hB [0, 1, 2, 3] (by repeat first | refine ⟨rfl, ?_⟩ | trivial) rfl rfl (Nat.le_refl _))
        have hS3 : F 7 (lsE 19 14 [7, 12]) ⟨aProduct_EZ1 p g2 g3 ww hg0 ++ [(128, (avStrs [⟨#[]⟩, ⟨#[65]⟩, ⟨#[112]⟩])), (129, avS r129), (133, (avInts [ww, 0, 500001])), (138, (avInts [hg0, -1, 500000])), (140, (pA g3 (0)))], [bxStr p a0 cap L (j + 2 + 1), (bA g2), .box g3 ⟨[avS ⟨#[112]⟩, avI ww, avI hg0, .v (.slice b l.length c)], 28, 4⟩, .row (.slice b l.length c) l.length 5 (rowL l) 152], 0⟩ := by
          rw [hF]
          refine VA.all (rs := [7]) (by decide +kernel) (by decide) ?_
          refine ⟨⟨_, rfl, .inl rfl, ?_⟩, trivial⟩
          refine OpE.callHX (rest := [_, _, _]) txi_stab hGX rfl hB rfl Tryz.call77 rfl rfl (pick_E (xs := [ww, 0, 500001]) (by omega) (by simp) hp0) (List.Perm.refl _) (fun b h => .inr ⟨by decide, blkStr h⟩) ?_
          rintro _ _ ⟨rfl, rfl⟩
          refine VA.le _ (Le.recast (t := 134) (y := avI r134) rfl (fun w Z u h => by rw [← e134]; exact h)) ?_
          have hh := hS1 
          rw [hF] at hh
          exact VA.to hh (by decide +kernel) (Le.mk hB [0, 1, 2, 3] (by repeat first | refine ⟨rfl, ?_⟩ | trivial) rfl rfl (Nat.le_refl _))
        have hS4 : F 8 (lsE 19 14 [7, 11, 12]) ⟨aProduct_EZ1 p g2 g3 ww hg0 ++ [(128, (avStrs [⟨#[]⟩, ⟨#[65]⟩, ⟨#[112]⟩])), (129, avS r129), (133, (avInts [ww, 0, 500001])), (140, (pA g3 (0)))], [bxStr p a0 cap L (j + 2 + 1), (bA g2), .box g3 ⟨[avS ⟨#[112]⟩, avI ww, avI hg0, .v (.slice b l.length c)], 28, 4⟩, .row (.slice b l.length c) l.length 5 (rowL l) 152], 0⟩ := by
          rw [hF]
          refine VA.all (rs := [7, 11]) (by decide +kernel) (by decide) ?_
          refine ⟨⟨_, rfl, .inl rfl, ?_⟩, ⟨_, rfl, .inl rfl, ?_⟩, trivial⟩
          ·
            refine OpE.callHX (rest := [_, _, _]) txi_stab hGX rfl hB rfl Tryz.call77 rfl rfl (pick_E (xs := [ww, 0, 500001]) (by omega) (by simp) hp0) (List.Perm.refl _) (fun b h => .inr ⟨by decide, blkStr h⟩) ?_
            rintro _ _ ⟨rfl, rfl⟩
            refine VA.le _ (Le.recast (t := 134) (y := avI r134) rfl (fun w Z u h => by rw [← e134]; exact h)) ?_
            have hh := hS2 
            rw [hF] at hh
            exact VA.to hh (by decide +kernel) (Le.mk hB [0, 1, 2, 3] (by repeat first | refine ⟨rfl, ?_⟩ | trivial) rfl rfl (Nat.le_refl _))
          ·
            refine bI rfl hB rfl (by decide) rfl rfl ?_
            refine VA.le _ (Le.lI (t := 138) (xs := [hg0, -1, 500000]) rfl rfl) ?_
            have hh := hS3 
            rw [hF] at hh
            exact VA.to hh (by decide +kernel) (Le.mk hB [0, 1, 2, 3] (by repeat first | refine ⟨rfl, ?_⟩ | trivial) rfl rfl (Nat.le_refl _))
        have hS5 : F 8 (lsE 19 14 [6, 7, 12]) ⟨aProduct_EZ1 p g2 g3 ww hg0 ++ [(128, (avStrs [⟨#[]⟩, ⟨#[65]⟩, ⟨#[112]⟩])), (129, avS r129), (138, (avInts [hg0, -1, 500000])), (140, (pA g3 (0)))], [bxStr p a0 cap L (j + 2 + 1), (bA g2), .box g3 ⟨[avS ⟨#[112]⟩, avI ww, avI hg0, .v (.slice b l.length c)], 28, 4⟩, .row (.slice b l.length c) l.length 5 (rowL l) 152], 0⟩ := by
          rw [hF]
          refine VA.all (rs := [6]) (by decide +kernel) (by decide) ?_
          refine ⟨⟨_, rfl, .inl rfl, ?_⟩, trivial⟩
          refine bI rfl hB rfl (by decide) rfl rfl ?_
          refine VA.le _ (Le.lI (t := 133) (xs := [ww, 0, 500001]) rfl rfl) ?_
          have hh := hS3 
          rw [hF] at hh
          exact VA.to hh (by decide +kernel) (Le.mk hB [0, 1, 2, 3] (by repeat first | refine ⟨rfl, ?_⟩ | trivial) rfl rfl (Nat.le_refl _))
        have hS6 : F 9 (lsE 19 12 [2, 7]) ⟨aProduct_EZ1 p g2 g3 ww hg0 ++ [(128, (avStrs [⟨#[]⟩, ⟨#[65]⟩, ⟨#[112]⟩])), (133, (avInts [ww, 0, 500001])), (138, (avInts [hg0, -1, 500000]))], [bxStr p a0 cap L (j + 2), (bA g2), .box g3 ⟨[avS ⟨#[112]⟩, avI ww, avI hg0, .v (.slice b l.length c)], 28, 4⟩, .row (.slice b l.length c) l.length 5 (rowL l) 152], 0⟩ := by
          rw [hF]
          refine VA.all (rs := [2]) (by decide +kernel) (by decide) ?_
          refine ⟨⟨_, rfl, .inl rfl, ?_⟩, trivial⟩
          refine OpE.callHX (rest := [_, _, _]) txi_stab hGX rfl hB rfl Tryz.call79 rfl rfl (some_X (xs := [⟨#[]⟩, ⟨#[65]⟩, ⟨#[112]⟩]) (by omega) (by decide) hp0) (List.Perm.refl _) (fun b h => .inr ⟨by decide, blkStr h⟩) ?_
          rintro _ _ ⟨rfl, rfl⟩
          refine VA.le _ (Le.recast (t := 129) (y := avS r129) rfl (fun w Z u h => by rw [← e129]; exact h)) ?_
          refine VA.td (i := 13) rfl (OpV.fieldAddrO 0 rfl Tryz.underlying28 rfl rfl Tryz.sizeOf9 rfl) ?_
          have hh := hS3 
          rw [hF] at hh
          exact VA.to hh (by decide +kernel) (Le.mk hB [0, 1, 2, 3] (by repeat first | refine ⟨rfl, ?_⟩ | trivial) rfl rfl (Nat.le_refl _))
        have hS7 : F 9 (lsE 19 14 [6, 7, 11, 12]) ⟨aProduct_EZ1 p g2 g3 ww hg0 ++ [(128, (avStrs [⟨#[]⟩, ⟨#[65]⟩, ⟨#[112]⟩])), (129, avS r129), (140, (pA g3 (0)))], [bxStr p a0 cap L (j + 2 + 1), (bA g2), .box g3 ⟨[avS ⟨#[112]⟩, avI ww, avI hg0, .v (.slice b l.length c)], 28, 4⟩, .row (.slice b l.length c) l.length 5 (rowL l) 152], 0⟩ := by
          rw [hF]
          refine VA.all (rs := [6, 11]) (by decide +kernel) (by decide) ?_
          refine ⟨⟨_, rfl, .inl rfl, ?_⟩, ⟨_, rfl, .inl rfl, ?_⟩, trivial⟩
          ·
            refine bI rfl hB rfl (by decide) rfl rfl ?_
            refine VA.le _ (Le.lI (t := 133) (xs := [ww, 0, 500001]) rfl rfl) ?_
            have hh := hS4 
            rw [hF] at hh
            exact VA.to hh (by decide +kernel) (Le.mk hB [0, 1, 2, 3] (by repeat first | refine ⟨rfl, ?_⟩ | trivial) rfl rfl (Nat.le_refl _))
          ·
            refine bI rfl hB rfl (by decide) rfl rfl ?_
            refine VA.le _ (Le.lI (t := 138) (xs := [hg0, -1, 500000]) rfl rfl) ?_
            have hh := hS5 
            rw [hF] at hh
            exact VA.to hh (by decide +kernel) (Le.mk hB [0, 1, 2, 3] (by repeat first | refine ⟨rfl, ?_⟩ | trivial) rfl rfl (Nat.le_refl _))
        have hS8 : F 10 (lsE 19 11 [2, 7]) ⟨aProduct_EZ1 p g2 g3 ww hg0 ++ [(128, (avStrs [⟨#[]⟩, ⟨#[65]⟩, ⟨#[112]⟩])), (133, (avInts [ww, 0, 500001]))], [bxStr p a0 cap L (j + 2), (bA g2), .box g3 ⟨[avS ⟨#[112]⟩, avI ww, avI hg0, .v (.slice b l.length c)], 28, 4⟩, .row (.slice b l.length c) l.length 5 (rowL l) 152], 0⟩ := by
          rw [hF]
          refine VA.all (rs := [2, 11]) (by decide +kernel) (by decide) ?_
          refine ⟨⟨_, rfl, .inl rfl, ?_⟩, ⟨_, rfl, .inl rfl, ?_⟩, trivial⟩
          ·
            refine OpE.callHX (rest := [_, _, _]) txi_stab hGX rfl hB rfl Tryz.call79 rfl rfl (some_X (xs := [⟨#[]⟩, ⟨#[65]⟩, ⟨#[112]⟩]) (by omega) (by decide) hp0) (List.Perm.refl _) (fun b h => .inr ⟨by decide, blkStr h⟩) ?_
            rintro _ _ ⟨rfl, rfl⟩
            refine VA.le _ (Le.recast (t := 129) (y := avS r129) rfl (fun w Z u h => by rw [← e129]; exact h)) ?_
            refine VA.td (i := 13) rfl (OpV.fieldAddrO 0 rfl Tryz.underlying28 rfl rfl Tryz.sizeOf9 rfl) ?_
            have hh := hS4 
            rw [hF] at hh
            exact VA.to hh (by decide +kernel) (Le.mk hB [0, 1, 2, 3] (by repeat first | refine ⟨rfl, ?_⟩ | trivial) rfl rfl (Nat.le_refl _))
          ·
            refine bI rfl hB rfl (by decide) rfl rfl ?_
            refine VA.le _ (Le.lI (t := 138) (xs := [hg0, -1, 500000]) rfl rfl) ?_
            have hh := hS6 
            rw [hF] at hh
            exact VA.to hh (by decide +kernel) (Le.mk hB [0, 1, 2, 3] (by repeat first | refine ⟨rfl, ?_⟩ | trivial) rfl rfl (Nat.le_refl _))
        have hS9 : F 10 (lsE 19 12 [2, 6, 7]) ⟨aProduct_EZ1 p g2 g3 ww hg0 ++ [(128, (avStrs [⟨#[]⟩, ⟨#[65]⟩, ⟨#[112]⟩])), (138, (avInts [hg0, -1, 500000]))], [bxStr p a0 cap L (j + 2), (bA g2), .box g3 ⟨[avS ⟨#[112]⟩, avI ww, avI hg0, .v (.slice b l.length c)], 28, 4⟩, .row (.slice b l.length c) l.length 5 (rowL l) 152], 0⟩ := by
          rw [hF]
          refine VA.all (rs := [2, 6]) (by decide +kernel) (by decide) ?_
          refine ⟨⟨_, rfl, .inl rfl, ?_⟩, ⟨_, rfl, .inl rfl, ?_⟩, trivial⟩
          ·
            refine OpE.callHX (rest := [_, _, _]) txi_stab hGX rfl hB rfl Tryz.call79 rfl rfl (some_X (xs := [⟨#[]⟩, ⟨#[65]⟩, ⟨#[112]⟩]) (by omega) (by decide) hp0) (List.Perm.refl _) (fun b h => .inr ⟨by decide, blkStr h⟩) ?_
            rintro _ _ ⟨rfl, rfl⟩
            refine VA.le _ (Le.recast (t := 129) (y := avS r129) rfl (fun w Z u h => by rw [← e129]; exact h)) ?_
            refine VA.td (i := 13) rfl (OpV.fieldAddrO 0 rfl Tryz.underlying28 rfl rfl Tryz.sizeOf9 rfl) ?_
            have hh := hS5 
            rw [hF] at hh
            exact VA.to hh (by decide +kernel) (Le.mk hB [0, 1, 2, 3] (by repeat first | refine ⟨rfl, ?_⟩ | trivial) rfl rfl (Nat.le_refl _))
          ·
            refine bI rfl hB rfl (by decide) rfl rfl ?_
            refine VA.le _ (Le.lI (t := 133) (xs := [ww, 0, 500001]) rfl rfl) ?_
            have hh := hS6 
            rw [hF] at hh
            exact VA.to hh (by decide +kernel) (Le.mk hB [0, 1, 2, 3] (by repeat first | refine ⟨rfl, ?_⟩ | trivial) rfl rfl (Nat.le_refl _))
        have hS10 : F 10 (lsE 19 12 [1, 2, 7]) ⟨aProduct_EZ1 p g2 g3 ww hg0 ++ [(133, (avInts [ww, 0, 500001])), (138, (avInts [hg0, -1, 500000]))], [bxStr p a0 cap L (j + 2), (bA g2), .box g3 ⟨[avS ⟨#[112]⟩, avI ww, avI hg0, .v (.slice b l.length c)], 28, 4⟩, .row (.slice b l.length c) l.length 5 (rowL l) 152], 0⟩ := by
          rw [hF]
          refine VA.all (rs := [1]) (by decide +kernel) (by decide) ?_
          refine ⟨⟨_, rfl, .inl rfl, ?_⟩, trivial⟩
          refine bS rfl hB rfl (by decide) rfl rfl ?_
          refine VA.le _ (Le.lS (t := 128) (xs := [⟨#[]⟩, ⟨#[65]⟩, ⟨#[112]⟩]) rfl rfl) ?_
          have hh := hS6 
          rw [hF] at hh
          exact VA.to hh (by decide +kernel) (Le.mk hB [0, 1, 2, 3] (by repeat first | refine ⟨rfl, ?_⟩ | trivial) rfl rfl (Nat.le_refl _))
        have hS11 : F 11 (lsE 19 11 [2, 6, 7]) ⟨aProduct_EZ1 p g2 g3 ww hg0 ++ [(128, (avStrs [⟨#[]⟩, ⟨#[65]⟩, ⟨#[112]⟩]))], [bxStr p a0 cap L (j + 2), (bA g2), .box g3 ⟨[avS ⟨#[112]⟩, avI ww, avI hg0, .v (.slice b l.length c)], 28, 4⟩, .row (.slice b l.length c) l.length 5 (rowL l) 152], 0⟩ := by
          rw [hF]
          refine VA.all (rs := [2, 6, 11]) (by decide +kernel) (by decide) ?_
          refine ⟨⟨_, rfl, .inl rfl, ?_⟩, ⟨_, rfl, .inl rfl, ?_⟩, ⟨_, rfl, .inl rfl, ?_⟩, trivial⟩
          ·
            refine OpE.callHX (rest := [_, _, _]) txi_stab hGX rfl hB rfl Tryz.call79 rfl rfl (some_X (xs := [⟨#[]⟩, ⟨#[65]⟩, ⟨#[112]⟩]) (by omega) (by decide) hp0) (List.Perm.refl _) (fun b h => .inr ⟨by decide, blkStr h⟩) ?_
            rintro _ _ ⟨rfl, rfl⟩
            refine VA.le _ (Le.recast (t := 129) (y := avS r129) rfl (fun w Z u h => by rw [← e129]; exact h)) ?_
            refine VA.td (i := 13) rfl (OpV.fieldAddrO 0 rfl Tryz.underlying28 rfl rfl Tryz.sizeOf9 rfl) ?_
            have hh := hS7 
            rw [hF] at hh
            exact VA.to hh (by decide +kernel) (Le.mk hB [0, 1, 2, 3] (by repeat first | refine ⟨rfl, ?_⟩ | trivial) rfl rfl (Nat.le_refl _))
          ·
            refine bI rfl hB rfl (by decide) rfl rfl ?_
            refine VA.le _ (Le.lI (t := 133) (xs := [ww, 0, 500001]) rfl rfl) ?_
            have hh := hS8 
            rw [hF] at hh
            exact VA.to hh (by decide +kernel) (Le.mk hB [0, 1, 2, 3] (by repeat first | refine ⟨rfl, ?_⟩ | trivial) rfl rfl (Nat.le_refl _))
          ·
            refine bI rfl hB rfl (by decide) rfl rfl ?_
            refine VA.le _ (Le.lI (t := 138) (xs := [hg0, -1, 500000]) rfl rfl) ?_
            have hh := hS9 
            rw [hF] at hh
            exact VA.to hh (by decide +kernel) (Le.mk hB [0, 1, 2, 3] (by repeat first | refine ⟨rfl, ?_⟩ | trivial) rfl rfl (Nat.le_refl _))
        have hS12 : F 11 (lsE 19 11 [1, 2, 7]) ⟨aProduct_EZ1 p g2 g3 ww hg0 ++ [(133, (avInts [ww, 0, 500001]))], [bxStr p a0 cap L (j + 2), (bA g2), .box g3 ⟨[avS ⟨#[112]⟩, avI ww, avI hg0, .v (.slice b l.length c)], 28, 4⟩, .row (.slice b l.length c) l.length 5 (rowL l) 152], 0⟩ := by
          rw [hF]
          refine VA.all (rs := [1, 11]) (by decide +kernel) (by decide) ?_
          refine ⟨⟨_, rfl, .inl rfl, ?_⟩, ⟨_, rfl, .inl rfl, ?_⟩, trivial⟩
          ·
            refine bS rfl hB rfl (by decide) rfl rfl ?_
            refine VA.le _ (Le.lS (t := 128) (xs := [⟨#[]⟩, ⟨#[65]⟩, ⟨#[112]⟩]) rfl rfl) ?_
            have hh := hS8 
            rw [hF] at hh
            exact VA.to hh (by decide +kernel) (Le.mk hB [0, 1, 2, 3] (by repeat first | refine ⟨rfl, ?_⟩ | trivial) rfl rfl (Nat.le_refl _))
          ·
            refine bI rfl hB rfl (by decide) rfl rfl ?_
            refine VA.le _ (Le.lI (t := 138) (xs := [hg0, -1, 500000]) rfl rfl) ?_
            have hh := hS10 
            rw [hF] at hh
            exact VA.to hh (by decide +kernel) (Le.mk hB [0, 1, 2, 3] (by repeat first | refine ⟨rfl, ?_⟩ | trivial) rfl rfl (Nat.le_refl _))
        have hS13 : F 11 (lstB 19 [0, 3, 4, 5, 8, 9, 10, 11]) ⟨aProduct_EZ1 p g2 g3 ww hg0 ++ [(138, (avInts [hg0, -1, 500000]))], [bxStr p a0 cap L (j + 2), (bA g2), .box g3 ⟨[avS ⟨#[112]⟩, avI ww, avI hg0, .v (.slice b l.length c)], 28, 4⟩, .row (.slice b l.length c) l.length 5 (rowL l) 152], 0⟩ := by
          rw [hF]
          refine VA.all (rs := [1, 6]) (by decide +kernel) (by decide) ?_
          refine ⟨⟨_, rfl, .inl rfl, ?_⟩, ⟨_, rfl, .inl rfl, ?_⟩, trivial⟩
          ·
            refine bS rfl hB rfl (by decide) rfl rfl ?_
            refine VA.le _ (Le.lS (t := 128) (xs := [⟨#[]⟩, ⟨#[65]⟩, ⟨#[112]⟩]) rfl rfl) ?_
            have hh := hS9 
            rw [hF] at hh
            exact VA.to hh (by decide +kernel) (Le.mk hB [0, 1, 2, 3] (by repeat first | refine ⟨rfl, ?_⟩ | trivial) rfl rfl (Nat.le_refl _))
          ·
            refine bI rfl hB rfl (by decide) rfl rfl ?_
            refine VA.le _ (Le.lI (t := 133) (xs := [ww, 0, 500001]) rfl rfl) ?_
            have hh := hS10 
            rw [hF] at hh
            exact VA.to hh (by decide +kernel) (Le.mk hB [0, 1, 2, 3] (by repeat first | refine ⟨rfl, ?_⟩ | trivial) rfl rfl (Nat.le_refl _))
        have hS14 : F 12 (lstB 19 [0, 3, 4, 5, 8, 9, 10]) ⟨aProduct_EZ1 p g2 g3 ww hg0, [bxStr p a0 cap L (j + 2), (bA g2), .box g3 ⟨[avS ⟨#[112]⟩, avI ww, avI hg0, .v (.slice b l.length c)], 28, 4⟩, .row (.slice b l.length c) l.length 5 (rowL l) 152], 0⟩ := by
          rw [hF]
          refine VA.all (rs := [1, 6, 11]) (by decide +kernel) (by decide) ?_
          refine ⟨⟨_, rfl, .inl rfl, ?_⟩, ⟨_, rfl, .inl rfl, ?_⟩, ⟨_, rfl, .inl rfl, ?_⟩, trivial⟩
          ·
            refine bS rfl hB rfl (by decide) rfl rfl ?_
            refine VA.le _ (Le.lS (t := 128) (xs := [⟨#[]⟩, ⟨#[65]⟩, ⟨#[112]⟩]) rfl rfl) ?_
            have hh := hS11 
            rw [hF] at hh
            exact VA.to hh (by decide +kernel) (Le.mk hB [0, 1, 2, 3] (by repeat first | refine ⟨rfl, ?_⟩ | trivial) rfl rfl (Nat.le_refl _))
          ·
            refine bI rfl hB rfl (by decide) rfl rfl ?_
            refine VA.le _ (Le.lI (t := 133) (xs := [ww, 0, 500001]) rfl rfl) ?_
            have hh := hS12 
            rw [hF] at hh
            exact VA.to hh (by decide +kernel) (Le.mk hB [0, 1, 2, 3] (by repeat first | refine ⟨rfl, ?_⟩ | trivial) rfl rfl (Nat.le_refl _))
          ·
            refine bI rfl hB rfl (by decide) rfl rfl ?_
            refine VA.le _ (Le.lI (t := 138) (xs := [hg0, -1, 500000]) rfl rfl) ?_
            have hh := hS13 
            rw [hF] at hh
            exact VA.to hh (by decide +kernel) (Le.mk hB [0, 1, 2, 3] (by repeat first | refine ⟨rfl, ?_⟩ | trivial) rfl rfl (Nat.le_refl _))
        rw [hF]
        have hh := hS14 
        rw [hF] at hh
        exact VA.to hh (by decide +kernel) (Le.mk hB [0, 1, 2, 3] ⟨rfl, rfl, rfl, rfl, rfl, rfl, rfl, rfl, trivial⟩ rfl rfl (Nat.le_refl _))
      · have h3 := h3b
        try simp only [qq] at h3
        refine VC.sr ?_
        refine VO.vv (OpV.fieldAddrO 3 rfl Tryz.underlying28 rfl rfl Tryz.sizeOf26 rfl) ?_
        refine VO.vv (OpV.load_own (i := 2) rfl hB Tryz.isAgg26 rfl rfl rfl (fun h => h)) ?_
        refine VO.vv (OpV.len_v rfl Tryz.underlying26 rfl) ?_
        refine VO.vv (OpV.gtr rfl rfl rfl) ?_
        refine VO.nil ?_
        refine VC.cond rfl (fun h4b => ?_) (fun h4b => ?_)
        · have h4 := h4b
          try simp only [qq] at h4
          refine VC.seq ?_
          refine VC.asBox (i := 3) rfl (by omega) (fun gr capL hu hcap hmx => ?_)
          obtain ⟨hb, hc⟩ : b = some ⟨gr, 0, none⟩ ∧ c = capL := by injection hu with h1 h2 h3; exact ⟨h1, h3⟩
          subst hb
          subst hc
          refine VC.hap (fun hap => ?_)
          have n3p := apart_ne hap (i := 2) (j := 0) rfl rfl (by decide)
          have hx1 := nxt_lo L (j + 2) l.length
          have hx2 := nxt_lt L (j + 2) l.length (by omega)
          obtain ⟨m, hm⟩ : ∃ m : Nat, nxt L (j + 2) l.length = m := ⟨(nxt L (j + 2) l.length).toNat, by omega⟩
          have hml : m < l.length := by omega
          refine VC.draw (fun j b => j = 6 ∧ b = p) hB (by kernel_rfl) ?_
          refine VA.td (i := 0) rfl (OpV.fieldAddrO 3 rfl Tryz.underlying28 rfl rfl Tryz.sizeOf26 rfl) ?_
          refine VA.td (i := 1) rfl (OpV.load_own (i := 2) rfl hB Tryz.isAgg26 rfl rfl rfl (fun ⟨_, _, _, h⟩ => n3p h)) ?_
          refine VA.td (i := 2) rfl (OpV.move (.inl rfl) rfl) ?_
          refine VA.td (i := 3) rfl (OpV.fieldAddrO 3 rfl Tryz.underlying28 rfl rfl Tryz.sizeOf26 rfl) ?_
          refine VA.td (i := 4) rfl (OpV.load_own (i := 2) rfl hB Tryz.isAgg26 rfl rfl rfl (fun ⟨_, _, _, h⟩ => n3p h)) ?_
          refine VA.td (i := 5) rfl (OpV.len_v rfl Tryz.underlying26 rfl) ?_
          refine VA.all (rs := [6]) (by decide +kernel) (by decide) ?_
          refine ⟨⟨_, rfl, .inl rfl, ?_⟩, trivial⟩
          refine OpE.callHX (rest := [_, _, _]) txi_stab hGX rfl hB rfl Tryz.call78 rfl rfl (next_X hp0 (by omega) (by omega)) (List.Perm.refl _) (fun b h => ⟨rfl, blkStr h⟩) ?_
          rintro _ _ ⟨rfl, rfl⟩
          refine VA.le _ (Le.recast (t := 58) (y := avI (m : Int)) rfl (fun w Z u h => by rw [← hm]; exact h)) ?_
          refine VA.td (i := 7) rfl (OpV.indexAddr_q rfl Tryz.underlying26 Tryz.sizeOf152 rfl rfl rfl (by omega)) ?_
          refine VA.td (i := 8) rfl (OpV.move (.inr rfl) rfl) ?_
          refine VA.done (by decide +kernel) ?_
          refine VC.hap (fun hap => ?_)
          have n3p := apart_ne hap (i := 2) (j := 0) rfl rfl (by decide)
          have ne3r := apart_ne hap (i := 2) (j := 3) rfl rfl (by decide)
          have nrp := apart_ne hap (i := 3) (j := 0) rfl rfl (by decide)
          obtain ⟨r75, e75⟩ : ∃ r, someV L (j + 3) [(xA l m).name, (xA l m).name, ⟨#[]⟩, ⟨#[99, 49]⟩] = r := ⟨_, rfl⟩
          obtain ⟨r86, e86⟩ : ∃ r, someV L (j + 4) [(xA l m).part, (xA l m).part, ⟨#[]⟩] = r := ⟨_, rfl⟩
          obtain ⟨r96, e96⟩ : ∃ r, pickV L (j + 5) [(xA l m).x, -1, ww + 1] = r := ⟨_, rfl⟩
          obtain ⟨r107, e107⟩ : ∃ r, pickV L (j + 6) [(xA l m).y, (xA l m).y, -1, 4611686018427387904] = r := ⟨_, rfl⟩
          obtain ⟨r114, e114⟩ : ∃ r, pickV L (j + 7) [(xA l m).quarter, 4, -1] = r := ⟨_, rfl⟩
          refine VC.draw (fun j b => (j ∈ [57, 60, 63, 66, 69] ∧ b = gr) ∨ (j ∈ [15, 26, 36, 47, 54] ∧ b = p)) hB (by kernel_rfl) ?_
          refine VA.td (i := 0) rfl (OpV.move (.inl rfl) rfl) ?_
          refine VA.td (i := 1) rfl (OpV.move (.inl rfl) rfl) ?_
          refine VA.td (i := 2) rfl (OpV.move (.inl rfl) rfl) ?_
          refine VA.td (i := 3) rfl (OpV.move (.inl rfl) rfl) ?_
          refine VA.td (i := 4) rfl (OpV.move (.inl rfl) rfl) ?_
          refine VA.td (i := 5) rfl (OpV.move (.inl rfl) rfl) ?_
          refine VA.td (i := 6) rfl (OpV.move (.inl rfl) rfl) ?_
          refine VA.td (i := 7) rfl (OpV.nilCheck rfl rfl) ?_
          refine VA.td (i := 8) rfl (OpV.fieldAddrO 0 rfl Tryz.underlying152 rfl rfl Tryz.sizeOf9 rfl) ?_
          refine VA.td (i := 9) rfl (OpV.load_own (i := 3) rfl hB Tryz.isAgg9 rfl rfl (rowL_at rfl (by omega) (by decide)) (Wi.notSS (.inl (by decide +kernel)) nrp)) ?_
          refine VA.td (i := 10) rfl (OpV.move (.inl rfl) rfl) ?_
          refine VA.td (i := 11) rfl (OpV.nilCheck rfl rfl) ?_
          refine VA.td (i := 12) rfl (OpV.fieldAddrO 0 rfl Tryz.underlying152 rfl rfl Tryz.sizeOf9 rfl) ?_
          refine VA.td (i := 13) rfl (OpV.load_own (i := 3) rfl hB Tryz.isAgg9 rfl rfl (rowL_at rfl (by omega) (by decide)) (Wi.notSS (.inl (by decide +kernel)) nrp)) ?_
          refine VA.td (i := 16) rfl (OpV.move (.inl rfl) rfl) ?_
          refine VA.td (i := 17) rfl (OpV.move (.inl rfl) rfl) ?_
          refine VA.td (i := 18) rfl (OpV.nilCheck rfl rfl) ?_
          refine VA.td (i := 19) rfl (OpV.fieldAddrO 1 rfl Tryz.underlying152 rfl rfl Tryz.sizeOf9 rfl) ?_
          refine VA.td (i := 20) rfl (OpV.load_own (i := 3) rfl hB Tryz.isAgg9 rfl rfl (rowL_at rfl (by omega) (by decide)) (Wi.notSS (.inl (by decide +kernel)) nrp)) ?_
          refine VA.td (i := 21) rfl (OpV.move (.inl rfl) rfl) ?_
          refine VA.td (i := 22) rfl (OpV.nilCheck rfl rfl) ?_
          refine VA.td (i := 23) rfl (OpV.fieldAddrO 1 rfl Tryz.underlying152 rfl rfl Tryz.sizeOf9 rfl) ?_
          refine VA.td (i := 24) rfl (OpV.load_own (i := 3) rfl hB Tryz.isAgg9 rfl rfl (rowL_at rfl (by omega) (by decide)) (Wi.notSS (.inl (by decide +kernel)) nrp)) ?_
          refine VA.td (i := 27) rfl (OpV.move (.inl rfl) rfl) ?_
          refine VA.td (i := 28) rfl (OpV.move (.inl rfl) rfl) ?_
          refine VA.td (i := 29) rfl (OpV.nilCheck rfl rfl) ?_
          refine VA.td (i := 30) rfl (OpV.fieldAddrO 2 rfl Tryz.underlying152 rfl rfl Tryz.sizeOf3 rfl) ?_
          refine VA.td (i := 31) rfl (OpV.load_own (i := 3) rfl hB Tryz.isAgg3 rfl rfl (rowL_at rfl (by omega) (by decide)) (Wi.notSS (.inl (by decide +kernel)) nrp)) ?_
          refine VA.td (i := 32) rfl (OpV.fieldAddrO 1 rfl Tryz.underlying28 rfl rfl Tryz.sizeOf3 rfl) ?_
          refine VA.td (i := 33) rfl (OpV.load_own (i := 2) rfl hB Tryz.isAgg3 rfl rfl rfl (Wi.notSS (.inr ne3r) n3p)) ?_
          refine VA.td (i := 34) rfl (OpV.add rfl rfl rfl (by unfold fits; omega)) ?_
          refine VA.td (i := 37) rfl (OpV.move (.inl rfl) rfl) ?_
          refine VA.td (i := 38) rfl (OpV.move (.inl rfl) rfl) ?_
          refine VA.td (i := 39) rfl (OpV.nilCheck rfl rfl) ?_
          refine VA.td (i := 40) rfl (OpV.fieldAddrO 3 rfl Tryz.underlying152 rfl rfl Tryz.sizeOf3 rfl) ?_
          refine VA.td (i := 41) rfl (OpV.load_own (i := 3) rfl hB Tryz.isAgg3 rfl rfl (rowL_at rfl (by omega) (by decide)) (Wi.notSS (.inl (by decide +kernel)) nrp)) ?_
          refine VA.td (i := 42) rfl (OpV.move (.inl rfl) rfl) ?_
          refine VA.td (i := 43) rfl (OpV.nilCheck rfl rfl) ?_
          refine VA.td (i := 44) rfl (OpV.fieldAddrO 3 rfl Tryz.underlying152 rfl rfl Tryz.sizeOf3 rfl) ?_
          refine VA.td (i := 45) rfl (OpV.load_own (i := 3) rfl hB Tryz.isAgg3 rfl rfl (rowL_at rfl (by omega) (by decide)) (Wi.notSS (.inl (by decide +kernel)) nrp)) ?_
          refine VA.td (i := 48) rfl (OpV.move (.inl rfl) rfl) ?_
          refine VA.td (i := 49) rfl (OpV.move (.inl rfl) rfl) ?_
          refine VA.td (i := 50) rfl (OpV.nilCheck rfl rfl) ?_
          refine VA.td (i := 51) rfl (OpV.fieldAddrO 4 rfl Tryz.underlying152 rfl rfl Tryz.sizeOf3 rfl) ?_
          refine VA.td (i := 52) rfl (OpV.load_own (i := 3) rfl hB Tryz.isAgg3 rfl rfl (rowL_at rfl (by omega) (by decide)) (Wi.notSS (.inl (by decide +kernel)) nrp)) ?_
          refine VA.bind (fun F hF => ?_)
          have hS0 : F 13 (lsE 70 57 []) ⟨aProduct_EZ2 p g2 g3 gr m l ww ++ [(74, (avStrs [(xA l m).name, (xA l m).name, ⟨#[]⟩, ⟨#[99, 49]⟩])), (75, avS r75), (85, (avStrs [(xA l m).part, (xA l m).part, ⟨#[]⟩])), (86, avS r86), (95, (avInts [(xA l m).x, -1, ww + 1])), (96, avI r96), (106, (avInts [(xA l m).y, (xA l m).y, -1, 4611686018427387904])), (107, avI r107), (113, (avInts [(xA l m).quarter, 4, -1])), (114, avI r114), (116, (pA gr (0 + m * 5 + 0)))], [bxStr p a0 cap L (j + 3 + 1 + 1 + 1 + 1 + 1), (bA g2), .box g3 ⟨[avS ⟨#[112]⟩, avI ww, avI hg0, .v (.slice (some ⟨gr, 0, none⟩) l.length c)], 28, 4⟩, .box gr ⟨rowL l, 152, c * 5⟩], 0⟩ := by
            rw [hF]
            refine VA.all (rs := [57]) (by decide +kernel) (by decide) ?_
            refine ⟨⟨_, rfl, .inl rfl, ?_⟩, trivial⟩
            refine OpE.store1 (i := 3) rfl hB rfl Tryz.sizeOf9 rfl rfl rfl rfl rfl rfl (rowL_in rfl (by omega) (by decide)) (rowL_set (x := ({l.getD m default with name := r75} : PlaceS)) rfl (by omega) (by decide) rfl (fun i hi hn => pl_upd (by simp) (by simp) (by simp) (by simp) (by simp) i hi hn)) (by first | exact .inl ⟨by decide, rfl⟩) ?_
            refine VA.td (i := 58) rfl (OpV.nilCheck rfl rfl) ?_
            refine VA.td (i := 59) rfl (OpV.fieldAddrO 1 rfl Tryz.underlying152 rfl rfl Tryz.sizeOf9 rfl) ?_
            refine VA.all (rs := [60]) (by decide +kernel) (by decide) ?_
            refine ⟨⟨_, rfl, .inl rfl, ?_⟩, trivial⟩
            refine OpE.store1 (i := 3) rfl hB rfl Tryz.sizeOf9 rfl rfl rfl rfl rfl rfl (rowL_in rfl (by first | omega | (simp only [List.length_set]; omega) | (simp; omega)) (by decide)) (rowL_set (x := ({l.getD m default with name := r75, part := r86} : PlaceS)) rfl (by first | omega | (simp only [List.length_set]; omega) | (simp; omega)) (by decide) rfl (fun i hi hn => by rw [getD_set_self (by first | omega | (simp only [List.length_set]; omega) | (simp; omega))]; exact pl_upd (by simp) (by simp) (by simp) (by simp) (by simp) i hi hn)) (by first | exact .inl ⟨by decide, rfl⟩) ?_
            refine VA.td (i := 61) rfl (OpV.nilCheck rfl rfl) ?_
            refine VA.td (i := 62) rfl (OpV.fieldAddrO 2 rfl Tryz.underlying152 rfl rfl Tryz.sizeOf3 rfl) ?_
            refine VA.all (rs := [63]) (by decide +kernel) (by decide) ?_
            refine ⟨⟨_, rfl, .inl rfl, ?_⟩, trivial⟩
            refine OpE.store1 (i := 3) rfl hB rfl Tryz.sizeOf3 rfl rfl rfl rfl rfl rfl (rowL_in rfl (by first | omega | (simp only [List.length_set]; omega) | (simp; omega)) (by decide)) (rowL_set (x := ({l.getD m default with name := r75, part := r86, x := r96} : PlaceS)) rfl (by first | omega | (simp only [List.length_set]; omega) | (simp; omega)) (by decide) rfl (fun i hi hn => by rw [getD_set_self (by first | omega | (simp only [List.length_set]; omega) | (simp; omega))]; exact pl_upd (by simp) (by simp) (by simp) (by simp) (by simp) i hi hn)) (by first | exact .inl ⟨by decide, rfl⟩) ?_
            refine VA.td (i := 64) rfl (OpV.nilCheck rfl rfl) ?_
            refine VA.td (i := 65) rfl (OpV.fieldAddrO 3 rfl Tryz.underlying152 rfl rfl Tryz.sizeOf3 rfl) ?_
            refine VA.all (rs := [66]) (by decide +kernel) (by decide) ?_
            refine ⟨⟨_, rfl, .inl rfl, ?_⟩, trivial⟩
            refine OpE.store1 (i := 3) rfl hB rfl Tryz.sizeOf3 rfl rfl rfl rfl rfl rfl (rowL_in rfl (by first | omega | (simp only [List.length_set]; omega) | (simp; omega)) (by decide)) (rowL_set (x := ({l.getD m default with name := r75, part := r86, x := r96, y := r107} : PlaceS)) rfl (by first | omega | (simp only [List.length_set]; omega) | (simp; omega)) (by decide) rfl (fun i hi hn => by rw [getD_set_self (by first | omega | (simp only [List.length_set]; omega) | (simp; omega))]; exact pl_upd (by simp) (by simp) (by simp) (by simp) (by simp) i hi hn)) (by first | exact .inl ⟨by decide, rfl⟩) ?_
            refine VA.td (i := 67) rfl (OpV.nilCheck rfl rfl) ?_
            refine VA.td (i := 68) rfl (OpV.fieldAddrO 4 rfl Tryz.underlying152 rfl rfl Tryz.sizeOf3 rfl) ?_
            refine VA.all (rs := [69]) (by decide +kernel) (by decide) ?_
            refine ⟨⟨_, rfl, .inl rfl, ?_⟩, trivial⟩
            refine OpE.store1 (i := 3) rfl hB rfl Tryz.sizeOf3 rfl rfl rfl rfl rfl rfl (rowL_in rfl (by first | omega | (simp only [List.length_set]; omega) | (simp; omega)) (by decide)) (rowL_set (x := ({l.getD m default with name := r75, part := r86, x := r96, y := r107, quarter := r114} : PlaceS)) rfl (by first | omega | (simp only [List.length_set]; omega) | (simp; omega)) (by decide) rfl (fun i hi hn => by rw [getD_set_self (by first | omega | (simp only [List.length_set]; omega) | (simp; omega))]; exact pl_upd (by simp) (by simp) (by simp) (by simp) (by simp) i hi hn)) (by first | exact .inl ⟨by decide, rfl⟩) ?_
            refine VA.done (by decide +kernel) ?_
            refine VC.seq ?_
            first | refine VC.le _ (Le.boxRow (i := 3) (n := l.length) (sz := 5) rfl (by simp only [rowL_len, List.length_set]; rfl) (by omega) (by omega)) ?_ | skip
            refine VC.region ?_
            refine VO.vv (OpV.loadK_own (i := 2) rfl hB Tryz.isAgg28 Tryz.sizeOf28 rfl rfl rfl (fun h => h)) ?_
            refine VO.le _ (Le.aggRow (t := 143) (j := 3) (i := 3) (y := avL (((((l.set m ({l.getD m default with name := r75} : PlaceS)).set m ({l.getD m default with name := r75, part := r86} : PlaceS)).set m ({l.getD m default with name := r75, part := r86, x := r96} : PlaceS)).set m ({l.getD m default with name := r75, part := r86, x := r96, y := r107} : PlaceS)).set m ({l.getD m default with name := r75, part := r86, x := r96, y := r107, quarter := r114} : PlaceS))) hB hnew rfl rfl rfl (fun w Z u h => Rep.rowL (by simp) h)) ?_
            refine VO.op rfl (OpE.store (i := 1) rfl hB rfl Tryz.sizeOf28 rfl rfl rfl rfl rfl rfl (Nle rfl) trivial ?_)
            refine VO.nil ?_
            refine VC.le _ (Le.pickH [0, 1] rfl rfl) ?_
            refine VC.ret ?_
            exact Exists.intro _ (And.intro (RetV.one Tryz.results68 ((by first | exact ResV.cellK (i := 0) Tryz.isAgg28 Tryz.sizeOf28 rfl rfl rfl | exact ResV.cellK (i := 1) Tryz.isAgg28 Tryz.sizeOf28 rfl rfl rfl | exact ResV.cellK (i := 2) Tryz.isAgg28 Tryz.sizeOf28 rfl rfl rfl | exact ResV.cellK (i := 3) Tryz.isAgg28 Tryz.sizeOf28 rfl rfl rfl))) (by first | exact ⟨ap_o1 (hV.trans (prTail_0 (by omega))), _, ap_o2 (hV.trans (prTail_0 (by omega)))⟩ | exact ⟨ap_o1 (hV.trans (prTail_1 (by omega) (by omega) e129 e134 e139)), _, ap_o2 (hV.trans (prTail_1 (by omega) (by omega) e129 e134 e139))⟩ | exact ⟨ap_o1 (hV.trans (prTail_2 (by omega) (by omega) (by omega))), _, ap_o2 (hV.trans (prTail_2 (by omega) (by omega) (by omega)))⟩ | exact ⟨ap_o1 (hV.trans (prTail_3 (by omega) (by omega) (by omega) hm e75 e86 e96 e107 e114)), _, ap_o2 (hV.trans (prTail_3 (by omega) (by omega) (by omega) hm e75 e86 e96 e107 e114))⟩))
          have hS1 : F 16 (lsE 70 54 []) ⟨aProduct_EZ2 p g2 g3 gr m l ww ++ [(74, (avStrs [(xA l m).name, (xA l m).name, ⟨#[]⟩, ⟨#[99, 49]⟩])), (75, avS r75), (85, (avStrs [(xA l m).part, (xA l m).part, ⟨#[]⟩])), (86, avS r86), (95, (avInts [(xA l m).x, -1, ww + 1])), (96, avI r96), (106, (avInts [(xA l m).y, (xA l m).y, -1, 4611686018427387904])), (107, avI r107), (113, (avInts [(xA l m).quarter, 4, -1]))], [bxStr p a0 cap L (j + 3 + 1 + 1 + 1 + 1), (bA g2), .box g3 ⟨[avS ⟨#[112]⟩, avI ww, avI hg0, .v (.slice (some ⟨gr, 0, none⟩) l.length c)], 28, 4⟩, .box gr ⟨rowL l, 152, c * 5⟩], 0⟩ := by
            rw [hF]
            refine VA.all (rs := [54]) (by decide +kernel) (by decide) ?_
            refine ⟨⟨_, rfl, .inl rfl, ?_⟩, trivial⟩
            refine OpE.callHX (rest := [_, _, _]) txi_stab hGX rfl hB rfl Tryz.call77 rfl rfl (pick_E (xs := [(xA l m).quarter, 4, -1]) (by omega) (by simp) hp0) (List.Perm.refl _) (fun b h => .inr ⟨by decide, blkStr h⟩) ?_
            rintro _ _ ⟨rfl, rfl⟩
            refine VA.le _ (Le.recast (t := 114) (y := avI r114) rfl (fun w Z u h => by rw [← e114]; exact h)) ?_
            refine VA.td (i := 55) rfl (OpV.nilCheck rfl rfl) ?_
            refine VA.td (i := 56) rfl (OpV.fieldAddrO 0 rfl Tryz.underlying152 rfl rfl Tryz.sizeOf9 rfl) ?_
            have hh := hS0 
            rw [hF] at hh
            exact VA.to hh (by decide +kernel) (Le.mk hB [0, 1, 2, 3] (by repeat first | refine ⟨rfl, ?_⟩ | trivial) rfl rfl (Nat.le_refl _))
          have hS2 : F 17 (lsE 70 53 []) ⟨aProduct_EZ2 p g2 g3 gr m l ww ++ [(74, (avStrs [(xA l m).name, (xA l m).name, ⟨#[]⟩, ⟨#[99, 49]⟩])), (75, avS r75), (85, (avStrs [(xA l m).part, (xA l m).part, ⟨#[]⟩])), (86, avS r86), (95, (avInts [(xA l m).x, -1, ww + 1])), (96, avI r96), (106, (avInts [(xA l m).y, (xA l m).y, -1, 4611686018427387904])), (107, avI r107)], [bxStr p a0 cap L (j + 3 + 1 + 1 + 1 + 1), (bA g2), .box g3 ⟨[avS ⟨#[112]⟩, avI ww, avI hg0, .v (.slice (some ⟨gr, 0, none⟩) l.length c)], 28, 4⟩, .box gr ⟨rowL l, 152, c * 5⟩], 0⟩ := by
            rw [hF]
            refine VA.all (rs := [53]) (by decide +kernel) (by decide) ?_
            refine ⟨⟨_, rfl, .inl rfl, ?_⟩, trivial⟩
            refine bI rfl hB rfl (by decide) rfl rfl ?_
            refine VA.le _ (Le.lI (t := 113) (xs := [(xA l m).quarter, 4, -1]) rfl rfl) ?_
            have hh := hS1 
            rw [hF] at hh
            exact VA.to hh (by decide +kernel) (Le.mk hB [0, 1, 2, 3] (by repeat first | refine ⟨rfl, ?_⟩ | trivial) rfl rfl (Nat.le_refl _))
          have hS3 : F 17 (lsE 70 54 [47]) ⟨aProduct_EZ2 p g2 g3 gr m l ww ++ [(74, (avStrs [(xA l m).name, (xA l m).name, ⟨#[]⟩, ⟨#[99, 49]⟩])), (75, avS r75), (85, (avStrs [(xA l m).part, (xA l m).part, ⟨#[]⟩])), (86, avS r86), (95, (avInts [(xA l m).x, -1, ww + 1])), (96, avI r96), (106, (avInts [(xA l m).y, (xA l m).y, -1, 4611686018427387904])), (113, (avInts [(xA l m).quarter, 4, -1]))], [bxStr p a0 cap L (j + 3 + 1 + 1 + 1), (bA g2), .box g3 ⟨[avS ⟨#[112]⟩, avI ww, avI hg0, .v (.slice (some ⟨gr, 0, none⟩) l.length c)], 28, 4⟩, .box gr ⟨rowL l, 152, c * 5⟩], 0⟩ := by
            rw [hF]
            refine VA.all (rs := [47]) (by decide +kernel) (by decide) ?_
            refine ⟨⟨_, rfl, .inl rfl, ?_⟩, trivial⟩
            refine OpE.callHX (rest := [_, _, _]) txi_stab hGX rfl hB rfl Tryz.call77 rfl rfl (pick_E (xs := [(xA l m).y, (xA l m).y, -1, 4611686018427387904]) (by omega) (by simp) hp0) (List.Perm.refl _) (fun b h => .inr ⟨by decide, blkStr h⟩) ?_
            rintro _ _ ⟨rfl, rfl⟩
            refine VA.le _ (Le.recast (t := 107) (y := avI r107) rfl (fun w Z u h => by rw [← e107]; exact h)) ?_
            have hh := hS1 
            rw [hF] at hh
            exact VA.to hh (by decide +kernel) (Le.mk hB [0, 1, 2, 3] (by repeat first | refine ⟨rfl, ?_⟩ | trivial) rfl rfl (Nat.le_refl _))
          have hS4 : F 18 (lsE 70 53 [47]) ⟨aProduct_EZ2 p g2 g3 gr m l ww ++ [(74, (avStrs [(xA l m).name, (xA l m).name, ⟨#[]⟩, ⟨#[99, 49]⟩])), (75, avS r75), (85, (avStrs [(xA l m).part, (xA l m).part, ⟨#[]⟩])), (86, avS r86), (95, (avInts [(xA l m).x, -1, ww + 1])), (96, avI r96), (106, (avInts [(xA l m).y, (xA l m).y, -1, 4611686018427387904]))], [bxStr p a0 cap L (j + 3 + 1 + 1 + 1), (bA g2), .box g3 ⟨[avS ⟨#[112]⟩, avI ww, avI hg0, .v (.slice (some ⟨gr, 0, none⟩) l.length c)], 28, 4⟩, .box gr ⟨rowL l, 152, c * 5⟩], 0⟩ := by
            rw [hF]
            refine VA.all (rs := [47, 53]) (by decide +kernel) (by decide) ?_
            refine ⟨⟨_, rfl, .inl rfl, ?_⟩, ⟨_, rfl, .inl rfl, ?_⟩, trivial⟩
            ·
              refine OpE.callHX (rest := [_, _, _]) txi_stab hGX rfl hB rfl Tryz.call77 rfl rfl (pick_E (xs := [(xA l m).y, (xA l m).y, -1, 4611686018427387904]) (by omega) (by simp) hp0) (List.Perm.refl _) (fun b h => .inr ⟨by decide, blkStr h⟩) ?_
              rintro _ _ ⟨rfl, rfl⟩
              refine VA.le _ (Le.recast (t := 107) (y := avI r107) rfl (fun w Z u h => by rw [← e107]; exact h)) ?_
              have hh := hS2 
              rw [hF] at hh
              exact VA.to hh (by decide +kernel) (Le.mk hB [0, 1, 2, 3] (by repeat first | refine ⟨rfl, ?_⟩ | trivial) rfl rfl (Nat.le_refl _))
            ·
              refine bI rfl hB rfl (by decide) rfl rfl ?_
              refine VA.le _ (Le.lI (t := 113) (xs := [(xA l m).quarter, 4, -1]) rfl rfl) ?_
              have hh := hS3 
              rw [hF] at hh
              exact VA.to hh (by decide +kernel) (Le.mk hB [0, 1, 2, 3] (by repeat first | refine ⟨rfl, ?_⟩ | trivial) rfl rfl (Nat.le_refl _))
          have hS5 : F 18 (lsE 70 54 [46, 47]) ⟨aProduct_EZ2 p g2 g3 gr m l ww ++ [(74, (avStrs [(xA l m).name, (xA l m).name, ⟨#[]⟩, ⟨#[99, 49]⟩])), (75, avS r75), (85, (avStrs [(xA l m).part, (xA l m).part, ⟨#[]⟩])), (86, avS r86), (95, (avInts [(xA l m).x, -1, ww + 1])), (96, avI r96), (113, (avInts [(xA l m).quarter, 4, -1]))], [bxStr p a0 cap L (j + 3 + 1 + 1 + 1), (bA g2), .box g3 ⟨[avS ⟨#[112]⟩, avI ww, avI hg0, .v (.slice (some ⟨gr, 0, none⟩) l.length c)], 28, 4⟩, .box gr ⟨rowL l, 152, c * 5⟩], 0⟩ := by
            rw [hF]
            refine VA.all (rs := [46]) (by decide +kernel) (by decide) ?_
            refine ⟨⟨_, rfl, .inl rfl, ?_⟩, trivial⟩
            refine bI rfl hB rfl (by decide) rfl rfl ?_
            refine VA.le _ (Le.lI (t := 106) (xs := [(xA l m).y, (xA l m).y, -1, 4611686018427387904]) rfl rfl) ?_
            have hh := hS3 
            rw [hF] at hh
            exact VA.to hh (by decide +kernel) (Le.mk hB [0, 1, 2, 3] (by repeat first | refine ⟨rfl, ?_⟩ | trivial) rfl rfl (Nat.le_refl _))
          have hS6 : F 18 (lsE 70 54 [36, 47]) ⟨aProduct_EZ2 p g2 g3 gr m l ww ++ [(74, (avStrs [(xA l m).name, (xA l m).name, ⟨#[]⟩, ⟨#[99, 49]⟩])), (75, avS r75), (85, (avStrs [(xA l m).part, (xA l m).part, ⟨#[]⟩])), (86, avS r86), (95, (avInts [(xA l m).x, -1, ww + 1])), (106, (avInts [(xA l m).y, (xA l m).y, -1, 4611686018427387904])), (113, (avInts [(xA l m).quarter, 4, -1]))], [bxStr p a0 cap L (j + 3 + 1 + 1), (bA g2), .box g3 ⟨[avS ⟨#[112]⟩, avI ww, avI hg0, .v (.slice (some ⟨gr, 0, none⟩) l.length c)], 28, 4⟩, .box gr ⟨rowL l, 152, c * 5⟩], 0⟩ := by
            rw [hF]
            refine VA.all (rs := [36]) (by decide +kernel) (by decide) ?_
            refine ⟨⟨_, rfl, .inl rfl, ?_⟩, trivial⟩
            refine OpE.callHX (rest := [_, _, _]) txi_stab hGX rfl hB rfl Tryz.call77 rfl rfl (pick_E (xs := [(xA l m).x, -1, ww + 1]) (by omega) (by simp) hp0) (List.Perm.refl _) (fun b h => .inr ⟨by decide, blkStr h⟩) ?_
            rintro _ _ ⟨rfl, rfl⟩
            refine VA.le _ (Le.recast (t := 96) (y := avI r96) rfl (fun w Z u h => by rw [← e96]; exact h)) ?_
            have hh := hS3 
            rw [hF] at hh
            exact VA.to hh (by decide +kernel) (Le.mk hB [0, 1, 2, 3] (by repeat first | refine ⟨rfl, ?_⟩ | trivial) rfl rfl (Nat.le_refl _))
          have hS7 : F 19 (lsE 70 53 [46, 47]) ⟨aProduct_EZ2 p g2 g3 gr m l ww ++ [(74, (avStrs [(xA l m).name, (xA l m).name, ⟨#[]⟩, ⟨#[99, 49]⟩])), (75, avS r75), (85, (avStrs [(xA l m).part, (xA l m).part, ⟨#[]⟩])), (86, avS r86), (95, (avInts [(xA l m).x, -1, ww + 1])), (96, avI r96)], [bxStr p a0 cap L (j + 3 + 1 + 1 + 1), (bA g2), .box g3 ⟨[avS ⟨#[112]⟩, avI ww, avI hg0, .v (.slice (some ⟨gr, 0, none⟩) l.length c)], 28, 4⟩, .box gr ⟨rowL l, 152, c * 5⟩], 0⟩ := by
            rw [hF]
            refine VA.all (rs := [46, 53]) (by decide +kernel) (by decide) ?_
            refine ⟨⟨_, rfl, .inl rfl, ?_⟩, ⟨_, rfl, .inl rfl, ?_⟩, trivial⟩
            ·
              refine bI rfl hB rfl (by decide) rfl rfl ?_
              refine VA.le _ (Le.lI (t := 106) (xs := [(xA l m).y, (xA l m).y, -1, 4611686018427387904]) rfl rfl) ?_
              have hh := hS4 
              rw [hF] at hh
              exact VA.to hh (by decide +kernel) (Le.mk hB [0, 1, 2, 3] (by repeat first | refine ⟨rfl, ?_⟩ | trivial) rfl rfl (Nat.le_refl _))
            ·
              refine bI rfl hB rfl (by decide) rfl rfl ?_
              refine VA.le _ (Le.lI (t := 113) (xs := [(xA l m).quarter, 4, -1]) rfl rfl) ?_
              have hh := hS5 
              rw [hF] at hh
              exact VA.to hh (by decide +kernel) (Le.mk hB [0, 1, 2, 3] (by repeat first | refine ⟨rfl, ?_⟩ | trivial) rfl rfl (Nat.le_refl _))
          have hS8 : F 19 (lsE 70 53 [36, 47]) ⟨aProduct_EZ2 p g2 g3 gr m l ww ++ [(74, (avStrs [(xA l m).name, (xA l m).name, ⟨#[]⟩, ⟨#[99, 49]⟩])), (75, avS r75), (85, (avStrs [(xA l m).part, (xA l m).part, ⟨#[]⟩])), (86, avS r86), (95, (avInts [(xA l m).x, -1, ww + 1])), (106, (avInts [(xA l m).y, (xA l m).y, -1, 4611686018427387904]))], [bxStr p a0 cap L (j + 3 + 1 + 1), (bA g2), .box g3 ⟨[avS ⟨#[112]⟩, avI ww, avI hg0, .v (.slice (some ⟨gr, 0, none⟩) l.length c)], 28, 4⟩, .box gr ⟨rowL l, 152, c * 5⟩], 0⟩ := by
            rw [hF]
            refine VA.all (rs := [36, 53]) (by decide +kernel) (by decide) ?_
            refine ⟨⟨_, rfl, .inl rfl, ?_⟩, ⟨_, rfl, .inl rfl, ?_⟩, trivial⟩
            ·
              refine OpE.callHX (rest := [_, _, _]) txi_stab hGX rfl hB rfl Tryz.call77 rfl rfl (pick_E (xs := [(xA l m).x, -1, ww + 1]) (by omega) (by simp) hp0) (List.Perm.refl _) (fun b h => .inr ⟨by decide, blkStr h⟩) ?_
              rintro _ _ ⟨rfl, rfl⟩
              refine VA.le _ (Le.recast (t := 96) (y := avI r96) rfl (fun w Z u h => by rw [← e96]; exact h)) ?_
              have hh := hS4 
              rw [hF] at hh
              exact VA.to hh (by decide +kernel) (Le.mk hB [0, 1, 2, 3] (by repeat first | refine ⟨rfl, ?_⟩ | trivial) rfl rfl (Nat.le_refl _))
            ·
              refine bI rfl hB rfl (by decide) rfl rfl ?_
              refine VA.le _ (Le.lI (t := 113) (xs := [(xA l m).quarter, 4, -1]) rfl rfl) ?_
              have hh := hS6 
              rw [hF] at hh
              exact VA.to hh (by decide +kernel) (Le.mk hB [0, 1, 2, 3] (by repeat first | refine ⟨rfl, ?_⟩ | trivial) rfl rfl (Nat.le_refl _))
          have hS9 : F 19 (lsE 70 54 [36, 46, 47]) ⟨aProduct_EZ2 p g2 g3 gr m l ww ++ [(74, (avStrs [(xA l m).name, (xA l m).name, ⟨#[]⟩, ⟨#[99, 49]⟩])), (75, avS r75), (85, (avStrs [(xA l m).part, (xA l m).part, ⟨#[]⟩])), (86, avS r86), (95, (avInts [(xA l m).x, -1, ww + 1])), (113, (avInts [(xA l m).quarter, 4, -1]))], [bxStr p a0 cap L (j + 3 + 1 + 1), (bA g2), .box g3 ⟨[avS ⟨#[112]⟩, avI ww, avI hg0, .v (.slice (some ⟨gr, 0, none⟩) l.length c)], 28, 4⟩, .box gr ⟨rowL l, 152, c * 5⟩], 0⟩ := by
            rw [hF]
            refine VA.all (rs := [36, 46]) (by decide +kernel) (by decide) ?_
            refine ⟨⟨_, rfl, .inl rfl, ?_⟩, ⟨_, rfl, .inl rfl, ?_⟩, trivial⟩
            ·
              refine OpE.callHX (rest := [_, _, _]) txi_stab hGX rfl hB rfl Tryz.call77 rfl rfl (pick_E (xs := [(xA l m).x, -1, ww + 1]) (by omega) (by simp) hp0) (List.Perm.refl _) (fun b h => .inr ⟨by decide, blkStr h⟩) ?_
              rintro _ _ ⟨rfl, rfl⟩
              refine VA.le _ (Le.recast (t := 96) (y := avI r96) rfl (fun w Z u h => by rw [← e96]; exact h)) ?_
              have hh := hS5 
              rw [hF] at hh
              exact VA.to hh (by decide +kernel) (Le.mk hB [0, 1, 2, 3] (by repeat first | refine ⟨rfl, ?_⟩ | trivial) rfl rfl (Nat.le_refl _))
            ·
              refine bI rfl hB rfl (by decide) rfl rfl ?_
              refine VA.le _ (Le.lI (t := 106) (xs := [(xA l m).y, (xA l m).y, -1, 4611686018427387904]) rfl rfl) ?_
              have hh := hS6 
              rw [hF] at hh
              exact VA.to hh (by decide +kernel) (Le.mk hB [0, 1, 2, 3] (by repeat first | refine ⟨rfl, ?_⟩ | trivial) rfl rfl (Nat.le_refl _))
          have hS10 : F 19 (lsE 70 54 [35, 36, 47]) ⟨aProduct_EZ2 p g2 g3 gr m l ww ++ [(74, (avStrs [(xA l m).name, (xA l m).name, ⟨#[]⟩, ⟨#[99, 49]⟩])), (75, avS r75), (85, (avStrs [(xA l m).part, (xA l m).part, ⟨#[]⟩])), (86, avS r86), (106, (avInts [(xA l m).y, (xA l m).y, -1, 4611686018427387904])), (113, (avInts [(xA l m).quarter, 4, -1]))], [bxStr p a0 cap L (j + 3 + 1 + 1), (bA g2), .box g3 ⟨[avS ⟨#[112]⟩, avI ww, avI hg0, .v (.slice (some ⟨gr, 0, none⟩) l.length c)], 28, 4⟩, .box gr ⟨rowL l, 152, c * 5⟩], 0⟩ := by
            rw [hF]
            refine VA.all (rs := [35]) (by decide +kernel) (by decide) ?_
            refine ⟨⟨_, rfl, .inl rfl, ?_⟩, trivial⟩
            refine bI rfl hB rfl (by decide) rfl rfl ?_
            refine VA.le _ (Le.lI (t := 95) (xs := [(xA l m).x, -1, ww + 1]) rfl rfl) ?_
            have hh := hS6 
            rw [hF] at hh
            exact VA.to hh (by decide +kernel) (Le.mk hB [0, 1, 2, 3] (by repeat first | refine ⟨rfl, ?_⟩ | trivial) rfl rfl (Nat.le_refl _))
          have hS11 : F 19 (lsE 70 54 [26, 36, 47]) ⟨aProduct_EZ2 p g2 g3 gr m l ww ++ [(74, (avStrs [(xA l m).name, (xA l m).name, ⟨#[]⟩, ⟨#[99, 49]⟩])), (75, avS r75), (85, (avStrs [(xA l m).part, (xA l m).part, ⟨#[]⟩])), (95, (avInts [(xA l m).x, -1, ww + 1])), (106, (avInts [(xA l m).y, (xA l m).y, -1, 4611686018427387904])), (113, (avInts [(xA l m).quarter, 4, -1]))], [bxStr p a0 cap L (j + 3 + 1), (bA g2), .box g3 ⟨[avS ⟨#[112]⟩, avI ww, avI hg0, .v (.slice (some ⟨gr, 0, none⟩) l.length c)], 28, 4⟩, .box gr ⟨rowL l, 152, c * 5⟩], 0⟩ := by
            rw [hF]
            refine VA.all (rs := [26]) (by decide +kernel) (by decide) ?_
            refine ⟨⟨_, rfl, .inl rfl, ?_⟩, trivial⟩
            refine OpE.callHX (rest := [_, _, _]) txi_stab hGX rfl hB rfl Tryz.call79 rfl rfl (some_X (xs := [(xA l m).part, (xA l m).part, ⟨#[]⟩]) (by omega) (by simp) hp0) (List.Perm.refl _) (fun b h => .inr ⟨by decide, blkStr h⟩) ?_
            rintro _ _ ⟨rfl, rfl⟩
            refine VA.le _ (Le.recast (t := 86) (y := avS r86) rfl (fun w Z u h => by rw [← e86]; exact h)) ?_
            have hh := hS6 
            rw [hF] at hh
            exact VA.to hh (by decide +kernel) (Le.mk hB [0, 1, 2, 3] (by repeat first | refine ⟨rfl, ?_⟩ | trivial) rfl rfl (Nat.le_refl _))
          have hS12 : F 20 (lsE 70 53 [36, 46, 47]) ⟨aProduct_EZ2 p g2 g3 gr m l ww ++ [(74, (avStrs [(xA l m).name, (xA l m).name, ⟨#[]⟩, ⟨#[99, 49]⟩])), (75, avS r75), (85, (avStrs [(xA l m).part, (xA l m).part, ⟨#[]⟩])), (86, avS r86), (95, (avInts [(xA l m).x, -1, ww + 1]))], [bxStr p a0 cap L (j + 3 + 1 + 1), (bA g2), .box g3 ⟨[avS ⟨#[112]⟩, avI ww, avI hg0, .v (.slice (some ⟨gr, 0, none⟩) l.length c)], 28, 4⟩, .box gr ⟨rowL l, 152, c * 5⟩], 0⟩ := by
            rw [hF]
            refine VA.all (rs := [36, 46, 53]) (by decide +kernel) (by decide) ?_
            refine ⟨⟨_, rfl, .inl rfl, ?_⟩, ⟨_, rfl, .inl rfl, ?_⟩, ⟨_, rfl, .inl rfl, ?_⟩, trivial⟩
            ·
              refine OpE.callHX (rest := [_, _, _]) txi_stab hGX rfl hB rfl Tryz.call77 rfl rfl (pick_E (xs := [(xA l m).x, -1, ww + 1]) (by omega) (by simp) hp0) (List.Perm.refl _) (fun b h => .inr ⟨by decide, blkStr h⟩) ?_
              rintro _ _ ⟨rfl, rfl⟩
              refine VA.le _ (Le.recast (t := 96) (y := avI r96) rfl (fun w Z u h => by rw [← e96]; exact h)) ?_
              have hh := hS7 
              rw [hF] at hh
              exact VA.to hh (by decide +kernel) (Le.mk hB [0, 1, 2, 3] (by repeat first | refine ⟨rfl, ?_⟩ | trivial) rfl rfl (Nat.le_refl _))
            ·
              refine bI rfl hB rfl (by decide) rfl rfl ?_
              refine VA.le _ (Le.lI (t := 106) (xs := [(xA l m).y, (xA l m).y, -1, 4611686018427387904]) rfl rfl) ?_
              have hh := hS8 
              rw [hF] at hh
              exact VA.to hh (by decide +kernel) (Le.mk hB [0, 1, 2, 3] (by repeat first | refine ⟨rfl, ?_⟩ | trivial) rfl rfl (Nat.le_refl _))
            ·
              refine bI rfl hB rfl (by decide) rfl rfl ?_
              refine VA.le _ (Le.lI (t := 113) (xs := [(xA l m).quarter, 4, -1]) rfl rfl) ?_
              have hh := hS9 
              rw [hF] at hh
              exact VA.to hh (by decide +kernel) (Le.mk hB [0, 1, 2, 3] (by repeat first | refine ⟨rfl, ?_⟩ | trivial) rfl rfl (Nat.le_refl _))
          have hS13 : F 20 (lsE 70 53 [35, 36, 47]) ⟨aProduct_EZ2 p g2 g3 gr m l ww ++ [(74, (avStrs [(xA l m).name, (xA l m).name, ⟨#[]⟩, ⟨#[99, 49]⟩])), (75, avS r75), (85, (avStrs [(xA l m).part, (xA l m).part, ⟨#[]⟩])), (86, avS r86), (106, (avInts [(xA l m).y, (xA l m).y, -1, 4611686018427387904]))], [bxStr p a0 cap L (j + 3 + 1 + 1), (bA g2), .box g3 ⟨[avS ⟨#[112]⟩, avI ww, avI hg0, .v (.slice (some ⟨gr, 0, none⟩) l.length c)], 28, 4⟩, .box gr ⟨rowL l, 152, c * 5⟩], 0⟩ := by
            rw [hF]
            refine VA.all (rs := [35, 53]) (by decide +kernel) (by decide) ?_
            refine ⟨⟨_, rfl, .inl rfl, ?_⟩, ⟨_, rfl, .inl rfl, ?_⟩, trivial⟩
            ·
              refine bI rfl hB rfl (by decide) rfl rfl ?_
              refine VA.le _ (Le.lI (t := 95) (xs := [(xA l m).x, -1, ww + 1]) rfl rfl) ?_
              have hh := hS8 
              rw [hF] at hh
              exact VA.to hh (by decide +kernel) (Le.mk hB [0, 1, 2, 3] (by repeat first | refine ⟨rfl, ?_⟩ | trivial) rfl rfl (Nat.le_refl _))
            ·
              refine bI rfl hB rfl (by decide) rfl rfl ?_
              refine VA.le _ (Le.lI (t := 113) (xs := [(xA l m).quarter, 4, -1]) rfl rfl) ?_
              have hh := hS10 
              rw [hF] at hh
              exact VA.to hh (by decide +kernel) (Le.mk hB [0, 1, 2, 3] (by repeat first | refine ⟨rfl, ?_⟩ | trivial) rfl rfl (Nat.le_refl _))
          have hS14 : F 20 (lsE 70 54 [35, 36, 46, 47]) ⟨aProduct_EZ2 p g2 g3 gr m l ww ++ [(74, (avStrs [(xA l m).name, (xA l m).name, ⟨#[]⟩, ⟨#[99, 49]⟩])), (75, avS r75), (85, (avStrs [(xA l m).part, (xA l m).part, ⟨#[]⟩])), (86, avS r86), (113, (avInts [(xA l m).quarter, 4, -1]))], [bxStr p a0 cap L (j + 3 + 1 + 1), (bA g2), .box g3 ⟨[avS ⟨#[112]⟩, avI ww, avI hg0, .v (.slice (some ⟨gr, 0, none⟩) l.length c)], 28, 4⟩, .box gr ⟨rowL l, 152, c * 5⟩], 0⟩ := by
            rw [hF]
            refine VA.all (rs := [35, 46]) (by decide +kernel) (by decide) ?_
            refine ⟨⟨_, rfl, .inl rfl, ?_⟩, ⟨_, rfl, .inl rfl, ?_⟩, trivial⟩
            ·
              refine bI rfl hB rfl (by decide) rfl rfl ?_
              refine VA.le _ (Le.lI (t := 95) (xs := [(xA l m).x, -1, ww + 1]) rfl rfl) ?_
              have hh := hS9 
              rw [hF] at hh
              exact VA.to hh (by decide +kernel) (Le.mk hB [0, 1, 2, 3] (by repeat first | refine ⟨rfl, ?_⟩ | trivial) rfl rfl (Nat.le_refl _))
            ·
              refine bI rfl hB rfl (by decide) rfl rfl ?_
              refine VA.le _ (Le.lI (t := 106) (xs := [(xA l m).y, (xA l m).y, -1, 4611686018427387904]) rfl rfl) ?_
              have hh := hS10 
              rw [hF] at hh
              exact VA.to hh (by decide +kernel) (Le.mk hB [0, 1, 2, 3] (by repeat first | refine ⟨rfl, ?_⟩ | trivial) rfl rfl (Nat.le_refl _))
          have hS15 : F 20 (lsE 70 53 [26, 36, 47]) ⟨aProduct_EZ2 p g2 g3 gr m l ww ++ [(74, (avStrs [(xA l m).name, (xA l m).name, ⟨#[]⟩, ⟨#[99, 49]⟩])), (75, avS r75), (85, (avStrs [(xA l m).part, (xA l m).part, ⟨#[]⟩])), (95, (avInts [(xA l m).x, -1, ww + 1])), (106, (avInts [(xA l m).y, (xA l m).y, -1, 4611686018427387904]))], [bxStr p a0 cap L (j + 3 + 1), (bA g2), .box g3 ⟨[avS ⟨#[112]⟩, avI ww, avI hg0, .v (.slice (some ⟨gr, 0, none⟩) l.length c)], 28, 4⟩, .box gr ⟨rowL l, 152, c * 5⟩], 0⟩ := by
            rw [hF]
            refine VA.all (rs := [26, 53]) (by decide +kernel) (by decide) ?_
            refine ⟨⟨_, rfl, .inl rfl, ?_⟩, ⟨_, rfl, .inl rfl, ?_⟩, trivial⟩
            ·
              refine OpE.callHX (rest := [_, _, _]) txi_stab hGX rfl hB rfl Tryz.call79 rfl rfl (some_X (xs := [(xA l m).part, (xA l m).part, ⟨#[]⟩]) (by omega) (by simp) hp0) (List.Perm.refl _) (fun b h => .inr ⟨by decide, blkStr h⟩) ?_
              rintro _ _ ⟨rfl, rfl⟩
              refine VA.le _ (Le.recast (t := 86) (y := avS r86) rfl (fun w Z u h => by rw [← e86]; exact h)) ?_
              have hh := hS8 
              rw [hF] at hh
              exact VA.to hh (by decide +kernel) (Le.mk hB [0, 1, 2, 3] (by repeat first | refine ⟨rfl, ?_⟩ | trivial) rfl rfl (Nat.le_refl _))
            ·
              refine bI rfl hB rfl (by decide) rfl rfl ?_
              refine VA.le _ (Le.lI (t := 113) (xs := [(xA l m).quarter, 4, -1]) rfl rfl) ?_
              have hh := hS11 
              rw [hF] at hh
              exact VA.to hh (by decide +kernel) (Le.mk hB [0, 1, 2, 3] (by repeat first | refine ⟨rfl, ?_⟩ | trivial) rfl rfl (Nat.le_refl _))
          have hS16 : F 20 (lsE 70 54 [26, 36, 46, 47]) ⟨aProduct_EZ2 p g2 g3 gr m l ww ++ [(74, (avStrs [(xA l m).name, (xA l m).name, ⟨#[]⟩, ⟨#[99, 49]⟩])), (75, avS r75), (85, (avStrs [(xA l m).part, (xA l m).part, ⟨#[]⟩])), (95, (avInts [(xA l m).x, -1, ww + 1])), (113, (avInts [(xA l m).quarter, 4, -1]))], [bxStr p a0 cap L (j + 3 + 1), (bA g2), .box g3 ⟨[avS ⟨#[112]⟩, avI ww, avI hg0, .v (.slice (some ⟨gr, 0, none⟩) l.length c)], 28, 4⟩, .box gr ⟨rowL l, 152, c * 5⟩], 0⟩ := by
            rw [hF]
            refine VA.all (rs := [26, 46]) (by decide +kernel) (by decide) ?_
            refine ⟨⟨_, rfl, .inl rfl, ?_⟩, ⟨_, rfl, .inl rfl, ?_⟩, trivial⟩
            ·
              refine OpE.callHX (rest := [_, _, _]) txi_stab hGX rfl hB rfl Tryz.call79 rfl rfl (some_X (xs := [(xA l m).part, (xA l m).part, ⟨#[]⟩]) (by omega) (by simp) hp0) (List.Perm.refl _) (fun b h => .inr ⟨by decide, blkStr h⟩) ?_
              rintro _ _ ⟨rfl, rfl⟩
              refine VA.le _ (Le.recast (t := 86) (y := avS r86) rfl (fun w Z u h => by rw [← e86]; exact h)) ?_
              have hh := hS9 
              rw [hF] at hh
              exact VA.to hh (by decide +kernel) (Le.mk hB [0, 1, 2, 3] (by repeat first | refine ⟨rfl, ?_⟩ | trivial) rfl rfl (Nat.le_refl _))
            ·
              refine bI rfl hB rfl (by decide) rfl rfl ?_
              refine VA.le _ (Le.lI (t := 106) (xs := [(xA l m).y, (xA l m).y, -1, 4611686018427387904]) rfl rfl) ?_
              have hh := hS11 
              rw [hF] at hh
              exact VA.to hh (by decide +kernel) (Le.mk hB [0, 1, 2, 3] (by repeat first | refine ⟨rfl, ?_⟩ | trivial) rfl rfl (Nat.le_refl _))
          have hS17 : F 20 (lsE 70 54 [26, 35, 36, 47]) ⟨aProduct_EZ2 p g2 g3 gr m l ww ++ [(74, (avStrs [(xA l m).name, (xA l m).name, ⟨#[]⟩, ⟨#[99, 49]⟩])), (75, avS r75), (85, (avStrs [(xA l m).part, (xA l m).part, ⟨#[]⟩])), (106, (avInts [(xA l m).y, (xA l m).y, -1, 4611686018427387904])), (113, (avInts [(xA l m).quarter, 4, -1]))], [bxStr p a0 cap L (j + 3 + 1), (bA g2), .box g3 ⟨[avS ⟨#[112]⟩, avI ww, avI hg0, .v (.slice (some ⟨gr, 0, none⟩) l.length c)], 28, 4⟩, .box gr ⟨rowL l, 152, c * 5⟩], 0⟩ := by
            rw [hF]
            refine VA.all (rs := [26, 35]) (by decide +kernel) (by decide) ?_
            refine ⟨⟨_, rfl, .inl rfl, ?_⟩, ⟨_, rfl, .inl rfl, ?_⟩, trivial⟩
            ·
              refine OpE.callHX (rest := [_, _, _]) txi_stab hGX rfl hB rfl Tryz.call79 rfl rfl (some_X (xs := [(xA l m).part, (xA l m).part, ⟨#[]⟩]) (by omega) (by simp) hp0) (List.Perm.refl _) (fun b h => .inr ⟨by decide, blkStr h⟩) ?_
              rintro _ _ ⟨rfl, rfl⟩
              refine VA.le _ (Le.recast (t := 86) (y := avS r86) rfl (fun w Z u h => by rw [← e86]; exact h)) ?_
              have hh := hS10 
              rw [hF] at hh
              exact VA.to hh (by decide +kernel) (Le.mk hB [0, 1, 2, 3] (by repeat first | refine ⟨rfl, ?_⟩ | trivial) rfl rfl (Nat.le_refl _))
            ·
              refine bI rfl hB rfl (by decide) rfl rfl ?_
              refine VA.le _ (Le.lI (t := 95) (xs := [(xA l m).x, -1, ww + 1]) rfl rfl) ?_
              have hh := hS11 
              rw [hF] at hh
              exact VA.to hh (by decide +kernel) (Le.mk hB [0, 1, 2, 3] (by repeat first | refine ⟨rfl, ?_⟩ | trivial) rfl rfl (Nat.le_refl _))
          have hS18 : F 20 (lsE 70 54 [25, 26, 36, 47]) ⟨aProduct_EZ2 p g2 g3 gr m l ww ++ [(74, (avStrs [(xA l m).name, (xA l m).name, ⟨#[]⟩, ⟨#[99, 49]⟩])), (75, avS r75), (95, (avInts [(xA l m).x, -1, ww + 1])), (106, (avInts [(xA l m).y, (xA l m).y, -1, 4611686018427387904])), (113, (avInts [(xA l m).quarter, 4, -1]))], [bxStr p a0 cap L (j + 3 + 1), (bA g2), .box g3 ⟨[avS ⟨#[112]⟩, avI ww, avI hg0, .v (.slice (some ⟨gr, 0, none⟩) l.length c)], 28, 4⟩, .box gr ⟨rowL l, 152, c * 5⟩], 0⟩ := by
            rw [hF]
            refine VA.all (rs := [25]) (by decide +kernel) (by decide) ?_
            refine ⟨⟨_, rfl, .inl rfl, ?_⟩, trivial⟩
            refine bS rfl hB rfl (by decide) rfl rfl ?_
            refine VA.le _ (Le.lS (t := 85) (xs := [(xA l m).part, (xA l m).part, ⟨#[]⟩]) rfl rfl) ?_
            have hh := hS11 
            rw [hF] at hh
            exact VA.to hh (by decide +kernel) (Le.mk hB [0, 1, 2, 3] (by repeat first | refine ⟨rfl, ?_⟩ | trivial) rfl rfl (Nat.le_refl _))
          have hS19 : F 20 (lsE 70 54 [15, 26, 36, 47]) ⟨aProduct_EZ2 p g2 g3 gr m l ww ++ [(74, (avStrs [(xA l m).name, (xA l m).name, ⟨#[]⟩, ⟨#[99, 49]⟩])), (85, (avStrs [(xA l m).part, (xA l m).part, ⟨#[]⟩])), (95, (avInts [(xA l m).x, -1, ww + 1])), (106, (avInts [(xA l m).y, (xA l m).y, -1, 4611686018427387904])), (113, (avInts [(xA l m).quarter, 4, -1]))], [bxStr p a0 cap L (j + 3), (bA g2), .box g3 ⟨[avS ⟨#[112]⟩, avI ww, avI hg0, .v (.slice (some ⟨gr, 0, none⟩) l.length c)], 28, 4⟩, .box gr ⟨rowL l, 152, c * 5⟩], 0⟩ := by
            rw [hF]
            refine VA.all (rs := [15]) (by decide +kernel) (by decide) ?_
            refine ⟨⟨_, rfl, .inl rfl, ?_⟩, trivial⟩
            refine OpE.callHX (rest := [_, _, _]) txi_stab hGX rfl hB rfl Tryz.call79 rfl rfl (some_X (xs := [(xA l m).name, (xA l m).name, ⟨#[]⟩, ⟨#[99, 49]⟩]) (by omega) (by simp) hp0) (List.Perm.refl _) (fun b h => .inr ⟨by decide, blkStr h⟩) ?_
            rintro _ _ ⟨rfl, rfl⟩
            refine VA.le _ (Le.recast (t := 75) (y := avS r75) rfl (fun w Z u h => by rw [← e75]; exact h)) ?_
            have hh := hS11 
            rw [hF] at hh
            exact VA.to hh (by decide +kernel) (Le.mk hB [0, 1, 2, 3] (by repeat first | refine ⟨rfl, ?_⟩ | trivial) rfl rfl (Nat.le_refl _))
          have hS20 : F 21 (lsE 70 53 [35, 36, 46, 47]) ⟨aProduct_EZ2 p g2 g3 gr m l ww ++ [(74, (avStrs [(xA l m).name, (xA l m).name, ⟨#[]⟩, ⟨#[99, 49]⟩])), (75, avS r75), (85, (avStrs [(xA l m).part, (xA l m).part, ⟨#[]⟩])), (86, avS r86)], [bxStr p a0 cap L (j + 3 + 1 + 1), (bA g2), .box g3 ⟨[avS ⟨#[112]⟩, avI ww, avI hg0, .v (.slice (some ⟨gr, 0, none⟩) l.length c)], 28, 4⟩, .box gr ⟨rowL l, 152, c * 5⟩], 0⟩ := by
            rw [hF]
            refine VA.all (rs := [35, 46, 53]) (by decide +kernel) (by decide) ?_
            refine ⟨⟨_, rfl, .inl rfl, ?_⟩, ⟨_, rfl, .inl rfl, ?_⟩, ⟨_, rfl, .inl rfl, ?_⟩, trivial⟩
            ·
              refine bI rfl hB rfl (by decide) rfl rfl ?_
              refine VA.le _ (Le.lI (t := 95) (xs := [(xA l m).x, -1, ww + 1]) rfl rfl) ?_
              have hh := hS12 
              rw [hF] at hh
              exact VA.to hh (by decide +kernel) (Le.mk hB [0, 1, 2, 3] (by repeat first | refine ⟨rfl, ?_⟩ | trivial) rfl rfl (Nat.le_refl _))
            ·
              refine bI rfl hB rfl (by decide) rfl rfl ?_
              refine VA.le _ (Le.lI (t := 106) (xs := [(xA l m).y, (xA l m).y, -1, 4611686018427387904]) rfl rfl) ?_
              have hh := hS13 
              rw [hF] at hh
              exact VA.to hh (by decide +kernel) (Le.mk hB [0, 1, 2, 3] (by repeat first | refine ⟨rfl, ?_⟩ | trivial) rfl rfl (Nat.le_refl _))
            ·
              refine bI rfl hB rfl (by decide) rfl rfl ?_
              refine VA.le _ (Le.lI (t := 113) (xs := [(xA l m).quarter, 4, -1]) rfl rfl) ?_
              have hh := hS14 
              rw [hF] at hh
              exact VA.to hh (by decide +kernel) (Le.mk hB [0, 1, 2, 3] (by repeat first | refine ⟨rfl, ?_⟩ | trivial) rfl rfl (Nat.le_refl _))
          have hS21 : F 21 (lsE 70 53 [26, 36, 46, 47]) ⟨aProduct_EZ2 p g2 g3 gr m l ww ++ [(74, (avStrs [(xA l m).name, (xA l m).name, ⟨#[]⟩, ⟨#[99, 49]⟩])), (75, avS r75), (85, (avStrs [(xA l m).part, (xA l m).part, ⟨#[]⟩])), (95, (avInts [(xA l m).x, -1, ww + 1]))], [bxStr p a0 cap L (j + 3 + 1), (bA g2), .box g3 ⟨[avS ⟨#[112]⟩, avI ww, avI hg0, .v (.slice (some ⟨gr, 0, none⟩) l.length c)], 28, 4⟩, .box gr ⟨rowL l, 152, c * 5⟩], 0⟩ := by
            rw [hF]
            refine VA.all (rs := [26, 46, 53]) (by decide +kernel) (by decide) ?_
            refine ⟨⟨_, rfl, .inl rfl, ?_⟩, ⟨_, rfl, .inl rfl, ?_⟩, ⟨_, rfl, .inl rfl, ?_⟩, trivial⟩
            ·
              refine OpE.callHX (rest := [_, _, _]) txi_stab hGX rfl hB rfl Tryz.call79 rfl rfl (some_X (xs := [(xA l m).part, (xA l m).part, ⟨#[]⟩]) (by omega) (by simp) hp0) (List.Perm.refl _) (fun b h => .inr ⟨by decide, blkStr h⟩) ?_
              rintro _ _ ⟨rfl, rfl⟩
              refine VA.le _ (Le.recast (t := 86) (y := avS r86) rfl (fun w Z u h => by rw [← e86]; exact h)) ?_
              have hh := hS12 
              rw [hF] at hh
              exact VA.to hh (by decide +kernel) (Le.mk hB [0, 1, 2, 3] (by repeat first | refine ⟨rfl, ?_⟩ | trivial) rfl rfl (Nat.le_refl _))
            ·
              refine bI rfl hB rfl (by decide) rfl rfl ?_
              refine VA.le _ (Le.lI (t := 106) (xs := [(xA l m).y, (xA l m).y, -1, 4611686018427387904]) rfl rfl) ?_
              have hh := hS15 
              rw [hF] at hh
              exact VA.to hh (by decide +kernel) (Le.mk hB [0, 1, 2, 3] (by repeat first | refine ⟨rfl, ?_⟩ | trivial) rfl rfl (Nat.le_refl _))
            ·
              refine bI rfl hB rfl (by decide) rfl rfl ?_
              refine VA.le _ (Le.lI (t := 113) (xs := [(xA l m).quarter, 4, -1]) rfl rfl) ?_
              have hh := hS16 
              rw [hF] at hh
              exact VA.to hh (by decide +kernel) (Le.mk hB [0, 1, 2, 3] (by repeat first | refine ⟨rfl, ?_⟩ | trivial) rfl rfl (Nat.le_refl _))
          have hS22 : F 21 (lsE 70 53 [26, 35, 36, 47]) ⟨aProduct_EZ2 p g2 g3 gr m l ww ++ [(74, (avStrs [(xA l m).name, (xA l m).name, ⟨#[]⟩, ⟨#[99, 49]⟩])), (75, avS r75), (85, (avStrs [(xA l m).part, (xA l m).part, ⟨#[]⟩])), (106, (avInts [(xA l m).y, (xA l m).y, -1, 4611686018427387904]))], [bxStr p a0 cap L (j + 3 + 1), (bA g2), .box g3 ⟨[avS ⟨#[112]⟩, avI ww, avI hg0, .v (.slice (some ⟨gr, 0, none⟩) l.length c)], 28, 4⟩, .box gr ⟨rowL l, 152, c * 5⟩], 0⟩ := by
            rw [hF]
            refine VA.all (rs := [26, 35, 53]) (by decide +kernel) (by decide) ?_
            refine ⟨⟨_, rfl, .inl rfl, ?_⟩, ⟨_, rfl, .inl rfl, ?_⟩, ⟨_, rfl, .inl rfl, ?_⟩, trivial⟩
            ·
              refine OpE.callHX (rest := [_, _, _]) txi_stab hGX rfl hB rfl Tryz.call79 rfl rfl (some_X (xs := [(xA l m).part, (xA l m).part, ⟨#[]⟩]) (by omega) (by simp) hp0) (List.Perm.refl _) (fun b h => .inr ⟨by decide, blkStr h⟩) ?_
              rintro _ _ ⟨rfl, rfl⟩
              refine VA.le _ (Le.recast (t := 86) (y := avS r86) rfl (fun w Z u h => by rw [← e86]; exact h)) ?_
              have hh := hS13 
              rw [hF] at hh
              exact VA.to hh (by decide +kernel) (Le.mk hB [0, 1, 2, 3] (by repeat first | refine ⟨rfl, ?_⟩ | trivial) rfl rfl (Nat.le_refl _))
            ·
              refine bI rfl hB rfl (by decide) rfl rfl ?_
              refine VA.le _ (Le.lI (t := 95) (xs := [(xA l m).x, -1, ww + 1]) rfl rfl) ?_
              have hh := hS15 
              rw [hF] at hh
              exact VA.to hh (by decide +kernel) (Le.mk hB [0, 1, 2, 3] (by repeat first | refine ⟨rfl, ?_⟩ | trivial) rfl rfl (Nat.le_refl _))
            ·
              refine bI rfl hB rfl (by decide) rfl rfl ?_
              refine VA.le _ (Le.lI (t := 113) (xs := [(xA l m).quarter, 4, -1]) rfl rfl) ?_
              have hh := hS17 
              rw [hF] at hh
              exact VA.to hh (by decide +kernel) (Le.mk hB [0, 1, 2, 3] (by repeat first | refine ⟨rfl, ?_⟩ | trivial) rfl rfl (Nat.le_refl _))
          have hS23 : F 21 (lsE 70 54 [26, 35, 36, 46, 47]) ⟨aProduct_EZ2 p g2 g3 gr m l ww ++ [(74, (avStrs [(xA l m).name, (xA l m).name, ⟨#[]⟩, ⟨#[99, 49]⟩])), (75, avS r75), (85, (avStrs [(xA l m).part, (xA l m).part, ⟨#[]⟩])), (113, (avInts [(xA l m).quarter, 4, -1]))], [bxStr p a0 cap L (j + 3 + 1), (bA g2), .box g3 ⟨[avS ⟨#[112]⟩, avI ww, avI hg0, .v (.slice (some ⟨gr, 0, none⟩) l.length c)], 28, 4⟩, .box gr ⟨rowL l, 152, c * 5⟩], 0⟩ := by
            rw [hF]
            refine VA.all (rs := [26, 35, 46]) (by decide +kernel) (by decide) ?_
            refine ⟨⟨_, rfl, .inl rfl, ?_⟩, ⟨_, rfl, .inl rfl, ?_⟩, ⟨_, rfl, .inl rfl, ?_⟩, trivial⟩
            ·
              refine OpE.callHX (rest := [_, _, _]) txi_stab hGX rfl hB rfl Tryz.call79 rfl rfl (some_X (xs := [(xA l m).part, (xA l m).part, ⟨#[]⟩]) (by omega) (by simp) hp0) (List.Perm.refl _) (fun b h => .inr ⟨by decide, blkStr h⟩) ?_
              rintro _ _ ⟨rfl, rfl⟩
              refine VA.le _ (Le.recast (t := 86) (y := avS r86) rfl (fun w Z u h => by rw [← e86]; exact h)) ?_
              have hh := hS14 
              rw [hF] at hh
              exact VA.to hh (by decide +kernel) (Le.mk hB [0, 1, 2, 3] (by repeat first | refine ⟨rfl, ?_⟩ | trivial) rfl rfl (Nat.le_refl _))
            ·
              refine bI rfl hB rfl (by decide) rfl rfl ?_
              refine VA.le _ (Le.lI (t := 95) (xs := [(xA l m).x, -1, ww + 1]) rfl rfl) ?_
              have hh := hS16 
              rw [hF] at hh
              exact VA.to hh (by decide +kernel) (Le.mk hB [0, 1, 2, 3] (by repeat first | refine ⟨rfl, ?_⟩ | trivial) rfl rfl (Nat.le_refl _))
            ·
              refine bI rfl hB rfl (by decide) rfl rfl ?_
              refine VA.le _ (Le.lI (t := 106) (xs := [(xA l m).y, (xA l m).y, -1, 4611686018427387904]) rfl rfl) ?_
              have hh := hS17 
              rw [hF] at hh
              exact VA.to hh (by decide +kernel) (Le.mk hB [0, 1, 2, 3] (by repeat first | refine ⟨rfl, ?_⟩ | trivial) rfl rfl (Nat.le_refl _))
          have hS24 : F 21 (lsE 70 53 [25, 26, 36, 47]) ⟨aProduct_EZ2 p g2 g3 gr m l ww ++ [(74, (avStrs [(xA l m).name, (xA l m).name, ⟨#[]⟩, ⟨#[99, 49]⟩])), (75, avS r75), (95, (avInts [(xA l m).x, -1, ww + 1])), (106, (avInts [(xA l m).y, (xA l m).y, -1, 4611686018427387904]))], [bxStr p a0 cap L (j + 3 + 1), (bA g2), .box g3 ⟨[avS ⟨#[112]⟩, avI ww, avI hg0, .v (.slice (some ⟨gr, 0, none⟩) l.length c)], 28, 4⟩, .box gr ⟨rowL l, 152, c * 5⟩], 0⟩ := by
            rw [hF]
            refine VA.all (rs := [25, 53]) (by decide +kernel) (by decide) ?_
            refine ⟨⟨_, rfl, .inl rfl, ?_⟩, ⟨_, rfl, .inl rfl, ?_⟩, trivial⟩
            ·
              refine bS rfl hB rfl (by decide) rfl rfl ?_
              refine VA.le _ (Le.lS (t := 85) (xs := [(xA l m).part, (xA l m).part, ⟨#[]⟩]) rfl rfl) ?_
              have hh := hS15 
              rw [hF] at hh
              exact VA.to hh (by decide +kernel) (Le.mk hB [0, 1, 2, 3] (by repeat first | refine ⟨rfl, ?_⟩ | trivial) rfl rfl (Nat.le_refl _))
            ·
              refine bI rfl hB rfl (by decide) rfl rfl ?_
              refine VA.le _ (Le.lI (t := 113) (xs := [(xA l m).quarter, 4, -1]) rfl rfl) ?_
              have hh := hS18 
              rw [hF] at hh
              exact VA.to hh (by decide +kernel) (Le.mk hB [0, 1, 2, 3] (by repeat first | refine ⟨rfl, ?_⟩ | trivial) rfl rfl (Nat.le_refl _))
          have hS25 : F 21 (lsE 70 54 [25, 26, 36, 46, 47]) ⟨aProduct_EZ2 p g2 g3 gr m l ww ++ [(74, (avStrs [(xA l m).name, (xA l m).name, ⟨#[]⟩, ⟨#[99, 49]⟩])), (75, avS r75), (95, (avInts [(xA l m).x, -1, ww + 1])), (113, (avInts [(xA l m).quarter, 4, -1]))], [bxStr p a0 cap L (j + 3 + 1), (bA g2), .box g3 ⟨[avS ⟨#[112]⟩, avI ww, avI hg0, .v (.slice (some ⟨gr, 0, none⟩) l.length c)], 28, 4⟩, .box gr ⟨rowL l, 152, c * 5⟩], 0⟩ := by
            rw [hF]
            refine VA.all (rs := [25, 46]) (by decide +kernel) (by decide) ?_
            refine ⟨⟨_, rfl, .inl rfl, ?_⟩, ⟨_, rfl, .inl rfl, ?_⟩, trivial⟩
            ·
              refine bS rfl hB rfl (by decide) rfl rfl ?_
              refine VA.le _ (Le.lS (t := 85) (xs := [(xA l m).part, (xA l m).part, ⟨#[]⟩]) rfl rfl) ?_
              have hh := hS16 
              rw [hF] at hh
              exact VA.to hh (by decide +kernel) (Le.mk hB [0, 1, 2, 3] (by repeat first | refine ⟨rfl, ?_⟩ | trivial) rfl rfl (Nat.le_refl _))
            ·
              refine bI rfl hB rfl (by decide) rfl rfl ?_
              refine VA.le _ (Le.lI (t := 106) (xs := [(xA l m).y, (xA l m).y, -1, 4611686018427387904]) rfl rfl) ?_
              have hh := hS18 
              rw [hF] at hh
              exact VA.to hh (by decide +kernel) (Le.mk hB [0, 1, 2, 3] (by repeat first | refine ⟨rfl, ?_⟩ | trivial) rfl rfl (Nat.le_refl _))
          have hS26 : F 21 (lsE 70 54 [25, 26, 35, 36, 47]) ⟨aProduct_EZ2 p g2 g3 gr m l ww ++ [(74, (avStrs [(xA l m).name, (xA l m).name, ⟨#[]⟩, ⟨#[99, 49]⟩])), (75, avS r75), (106, (avInts [(xA l m).y, (xA l m).y, -1, 4611686018427387904])), (113, (avInts [(xA l m).quarter, 4, -1]))], [bxStr p a0 cap L (j + 3 + 1), (bA g2), .box g3 ⟨[avS ⟨#[112]⟩, avI ww, avI hg0, .v (.slice (some ⟨gr, 0, none⟩) l.length c)], 28, 4⟩, .box gr ⟨rowL l, 152, c * 5⟩], 0⟩ := by
            rw [hF]
            refine VA.all (rs := [25, 35]) (by decide +kernel) (by decide) ?_
            refine ⟨⟨_, rfl, .inl rfl, ?_⟩, ⟨_, rfl, .inl rfl, ?_⟩, trivial⟩
            ·
              refine bS rfl hB rfl (by decide) rfl rfl ?_
              refine VA.le _ (Le.lS (t := 85) (xs := [(xA l m).part, (xA l m).part, ⟨#[]⟩]) rfl rfl) ?_
              have hh := hS17 
              rw [hF] at hh
              exact VA.to hh (by decide +kernel) (Le.mk hB [0, 1, 2, 3] (by repeat first | refine ⟨rfl, ?_⟩ | trivial) rfl rfl (Nat.le_refl _))
            ·
              refine bI rfl hB rfl (by decide) rfl rfl ?_
              refine VA.le _ (Le.lI (t := 95) (xs := [(xA l m).x, -1, ww + 1]) rfl rfl) ?_
              have hh := hS18 
              rw [hF] at hh
              exact VA.to hh (by decide +kernel) (Le.mk hB [0, 1, 2, 3] (by repeat first | refine ⟨rfl, ?_⟩ | trivial) rfl rfl (Nat.le_refl _))
          have hS27 : F 21 (lsE 70 53 [15, 26, 36, 47]) ⟨aProduct_EZ2 p g2 g3 gr m l ww ++ [(74, (avStrs [(xA l m).name, (xA l m).name, ⟨#[]⟩, ⟨#[99, 49]⟩])), (85, (avStrs [(xA l m).part, (xA l m).part, ⟨#[]⟩])), (95, (avInts [(xA l m).x, -1, ww + 1])), (106, (avInts [(xA l m).y, (xA l m).y, -1, 4611686018427387904]))], [bxStr p a0 cap L (j + 3), (bA g2), .box g3 ⟨[avS ⟨#[112]⟩, avI ww, avI hg0, .v (.slice (some ⟨gr, 0, none⟩) l.length c)], 28, 4⟩, .box gr ⟨rowL l, 152, c * 5⟩], 0⟩ := by
            rw [hF]
            refine VA.all (rs := [15, 53]) (by decide +kernel) (by decide) ?_
            refine ⟨⟨_, rfl, .inl rfl, ?_⟩, ⟨_, rfl, .inl rfl, ?_⟩, trivial⟩
            ·
              refine OpE.callHX (rest := [_, _, _]) txi_stab hGX rfl hB rfl Tryz.call79 rfl rfl (some_X (xs := [(xA l m).name, (xA l m).name, ⟨#[]⟩, ⟨#[99, 49]⟩]) (by omega) (by simp) hp0) (List.Perm.refl _) (fun b h => .inr ⟨by decide, blkStr h⟩) ?_
              rintro _ _ ⟨rfl, rfl⟩
              refine VA.le _ (Le.recast (t := 75) (y := avS r75) rfl (fun w Z u h => by rw [← e75]; exact h)) ?_
              have hh := hS15 
              rw [hF] at hh
              exact VA.to hh (by decide +kernel) (Le.mk hB [0, 1, 2, 3] (by repeat first | refine ⟨rfl, ?_⟩ | trivial) rfl rfl (Nat.le_refl _))
            ·
              refine bI rfl hB rfl (by decide) rfl rfl ?_
              refine VA.le _ (Le.lI (t := 113) (xs := [(xA l m).quarter, 4, -1]) rfl rfl) ?_
              have hh := hS19 
              rw [hF] at hh
              exact VA.to hh (by decide +kernel) (Le.mk hB [0, 1, 2, 3] (by repeat first | refine ⟨rfl, ?_⟩ | trivial) rfl rfl (Nat.le_refl _))
          have hS28 : F 21 (lsE 70 54 [15, 26, 36, 46, 47]) ⟨aProduct_EZ2 p g2 g3 gr m l ww ++ [(74, (avStrs [(xA l m).name, (xA l m).name, ⟨#[]⟩, ⟨#[99, 49]⟩])), (85, (avStrs [(xA l m).part, (xA l m).part, ⟨#[]⟩])), (95, (avInts [(xA l m).x, -1, ww + 1])), (113, (avInts [(xA l m).quarter, 4, -1]))], [bxStr p a0 cap L (j + 3), (bA g2), .box g3 ⟨[avS ⟨#[112]⟩, avI ww, avI hg0, .v (.slice (some ⟨gr, 0, none⟩) l.length c)], 28, 4⟩, .box gr ⟨rowL l, 152, c * 5⟩], 0⟩ := by
            rw [hF]
            refine VA.all (rs := [15, 46]) (by decide +kernel) (by decide) ?_
            refine ⟨⟨_, rfl, .inl rfl, ?_⟩, ⟨_, rfl, .inl rfl, ?_⟩, trivial⟩
            ·
              refine OpE.callHX (rest := [_, _, _]) txi_stab hGX rfl hB rfl Tryz.call79 rfl rfl (some_X (xs := [(xA l m).name, (xA l m).name, ⟨#[]⟩, ⟨#[99, 49]⟩]) (by omega) (by simp) hp0) (List.Perm.refl _) (fun b h => .inr ⟨by decide, blkStr h⟩) ?_
              rintro _ _ ⟨rfl, rfl⟩
              refine VA.le _ (Le.recast (t := 75) (y := avS r75) rfl (fun w Z u h => by rw [← e75]; exact h)) ?_
              have hh := hS16 
              rw [hF] at hh
              exact VA.to hh (by decide +kernel) (Le.mk hB [0, 1, 2, 3] (by repeat first | refine ⟨rfl, ?_⟩ | trivial) rfl rfl (Nat.le_refl _))
            ·
              refine bI rfl hB rfl (by decide) rfl rfl ?_
              refine VA.le _ (Le.lI (t := 106) (xs := [(xA l m).y, (xA l m).y, -1, 4611686018427387904]) rfl rfl) ?_
              have hh := hS19 
              rw [hF] at hh
              exact VA.to hh (by decide +kernel) (Le.mk hB [0, 1, 2, 3] (by repeat first | refine ⟨rfl, ?_⟩ | trivial) rfl rfl (Nat.le_refl _))
          have hS29 : F 21 (lsE 70 54 [15, 26, 35, 36, 47]) ⟨aProduct_EZ2 p g2 g3 gr m l ww ++ [(74, (avStrs [(xA l m).name, (xA l m).name, ⟨#[]⟩, ⟨#[99, 49]⟩])), (85, (avStrs [(xA l m).part, (xA l m).part, ⟨#[]⟩])), (106, (avInts [(xA l m).y, (xA l m).y, -1, 4611686018427387904])), (113, (avInts [(xA l m).quarter, 4, -1]))], [bxStr p a0 cap L (j + 3), (bA g2), .box g3 ⟨[avS ⟨#[112]⟩, avI ww, avI hg0, .v (.slice (some ⟨gr, 0, none⟩) l.length c)], 28, 4⟩, .box gr ⟨rowL l, 152, c * 5⟩], 0⟩ := by
            rw [hF]
            refine VA.all (rs := [15, 35]) (by decide +kernel) (by decide) ?_
            refine ⟨⟨_, rfl, .inl rfl, ?_⟩, ⟨_, rfl, .inl rfl, ?_⟩, trivial⟩
            ·
              refine OpE.callHX (rest := [_, _, _]) txi_stab hGX rfl hB rfl Tryz.call79 rfl rfl (some_X (xs := [(xA l m).name, (xA l m).name, ⟨#[]⟩, ⟨#[99, 49]⟩]) (by omega) (by simp) hp0) (List.Perm.refl _) (fun b h => .inr ⟨by decide, blkStr h⟩) ?_
              rintro _ _ ⟨rfl, rfl⟩
              refine VA.le _ (Le.recast (t := 75) (y := avS r75) rfl (fun w Z u h => by rw [← e75]; exact h)) ?_
              have hh := hS17 
              rw [hF] at hh
              exact VA.to hh (by decide +kernel) (Le.mk hB [0, 1, 2, 3] (by repeat first | refine ⟨rfl, ?_⟩ | trivial) rfl rfl (Nat.le_refl _))
            ·
              refine bI rfl hB rfl (by decide) rfl rfl ?_
              refine VA.le _ (Le.lI (t := 95) (xs := [(xA l m).x, -1, ww + 1]) rfl rfl) ?_
              have hh := hS19 
              rw [hF] at hh
              exact VA.to hh (by decide +kernel) (Le.mk hB [0, 1, 2, 3] (by repeat first | refine ⟨rfl, ?_⟩ | trivial) rfl rfl (Nat.le_refl _))
          have hS30 : F 21 (lsE 70 54 [15, 25, 26, 36, 47]) ⟨aProduct_EZ2 p g2 g3 gr m l ww ++ [(74, (avStrs [(xA l m).name, (xA l m).name, ⟨#[]⟩, ⟨#[99, 49]⟩])), (95, (avInts [(xA l m).x, -1, ww + 1])), (106, (avInts [(xA l m).y, (xA l m).y, -1, 4611686018427387904])), (113, (avInts [(xA l m).quarter, 4, -1]))], [bxStr p a0 cap L (j + 3), (bA g2), .box g3 ⟨[avS ⟨#[112]⟩, avI ww, avI hg0, .v (.slice (some ⟨gr, 0, none⟩) l.length c)], 28, 4⟩, .box gr ⟨rowL l, 152, c * 5⟩], 0⟩ := by
            rw [hF]
            refine VA.all (rs := [15, 25]) (by decide +kernel) (by decide) ?_
            refine ⟨⟨_, rfl, .inl rfl, ?_⟩, ⟨_, rfl, .inl rfl, ?_⟩, trivial⟩
            ·
              refine OpE.callHX (rest := [_, _, _]) txi_stab hGX rfl hB rfl Tryz.call79 rfl rfl (some_X (xs := [(xA l m).name, (xA l m).name, ⟨#[]⟩, ⟨#[99, 49]⟩]) (by omega) (by simp) hp0) (List.Perm.refl _) (fun b h => .inr ⟨by decide, blkStr h⟩) ?_
              rintro _ _ ⟨rfl, rfl⟩
              refine VA.le _ (Le.recast (t := 75) (y := avS r75) rfl (fun w Z u h => by rw [← e75]; exact h)) ?_
              have hh := hS18 
              rw [hF] at hh
              exact VA.to hh (by decide +kernel) (Le.mk hB [0, 1, 2, 3] (by repeat first | refine ⟨rfl, ?_⟩ | trivial) rfl rfl (Nat.le_refl _))
            ·
              refine bS rfl hB rfl (by decide) rfl rfl ?_
              refine VA.le _ (Le.lS (t := 85) (xs := [(xA l m).part, (xA l m).part, ⟨#[]⟩]) rfl rfl) ?_
              have hh := hS19 
              rw [hF] at hh
              exact VA.to hh (by decide +kernel) (Le.mk hB [0, 1, 2, 3] (by repeat first | refine ⟨rfl, ?_⟩ | trivial) rfl rfl (Nat.le_refl _))
          have hS31 : F 21 (lsE 70 54 [14, 15, 26, 36, 47]) ⟨aProduct_EZ2 p g2 g3 gr m l ww ++ [(85, (avStrs [(xA l m).part, (xA l m).part, ⟨#[]⟩])), (95, (avInts [(xA l m).x, -1, ww + 1])), (106, (avInts [(xA l m).y, (xA l m).y, -1, 4611686018427387904])), (113, (avInts [(xA l m).quarter, 4, -1]))], [bxStr p a0 cap L (j + 3), (bA g2), .box g3 ⟨[avS ⟨#[112]⟩, avI ww, avI hg0, .v (.slice (some ⟨gr, 0, none⟩) l.length c)], 28, 4⟩, .box gr ⟨rowL l, 152, c * 5⟩], 0⟩ := by
            rw [hF]
            refine VA.all (rs := [14]) (by decide +kernel) (by decide) ?_
            refine ⟨⟨_, rfl, .inl rfl, ?_⟩, trivial⟩
            refine bS rfl hB rfl (by decide) rfl rfl ?_
            refine VA.le _ (Le.lS (t := 74) (xs := [(xA l m).name, (xA l m).name, ⟨#[]⟩, ⟨#[99, 49]⟩]) rfl rfl) ?_
            have hh := hS19 
            rw [hF] at hh
            exact VA.to hh (by decide +kernel) (Le.mk hB [0, 1, 2, 3] (by repeat first | refine ⟨rfl, ?_⟩ | trivial) rfl rfl (Nat.le_refl _))
          have hS32 : F 22 (lsE 70 53 [26, 35, 36, 46, 47]) ⟨aProduct_EZ2 p g2 g3 gr m l ww ++ [(74, (avStrs [(xA l m).name, (xA l m).name, ⟨#[]⟩, ⟨#[99, 49]⟩])), (75, avS r75), (85, (avStrs [(xA l m).part, (xA l m).part, ⟨#[]⟩]))], [bxStr p a0 cap L (j + 3 + 1), (bA g2), .box g3 ⟨[avS ⟨#[112]⟩, avI ww, avI hg0, .v (.slice (some ⟨gr, 0, none⟩) l.length c)], 28, 4⟩, .box gr ⟨rowL l, 152, c * 5⟩], 0⟩ := by
            rw [hF]
            refine VA.all (rs := [26, 35, 46, 53]) (by decide +kernel) (by decide) ?_
            refine ⟨⟨_, rfl, .inl rfl, ?_⟩, ⟨_, rfl, .inl rfl, ?_⟩, ⟨_, rfl, .inl rfl, ?_⟩, ⟨_, rfl, .inl rfl, ?_⟩, trivial⟩
            ·
              refine OpE.callHX (rest := [_, _, _]) txi_stab hGX rfl hB rfl Tryz.call79 rfl rfl (some_X (xs := [(xA l m).part, (xA l m).part, ⟨#[]⟩]) (by omega) (by simp) hp0) (List.Perm.refl _) (fun b h => .inr ⟨by decide, blkStr h⟩) ?_
              rintro _ _ ⟨rfl, rfl⟩
              refine VA.le _ (Le.recast (t := 86) (y := avS r86) rfl (fun w Z u h => by rw [← e86]; exact h)) ?_
              have hh := hS20 
              rw [hF] at hh
              exact VA.to hh (by decide +kernel) (Le.mk hB [0, 1, 2, 3] (by repeat first | refine ⟨rfl, ?_⟩ | trivial) rfl rfl (Nat.le_refl _))
            ·
              refine bI rfl hB rfl (by decide) rfl rfl ?_
              refine VA.le _ (Le.lI (t := 95) (xs := [(xA l m).x, -1, ww + 1]) rfl rfl) ?_
              have hh := hS21 
              rw [hF] at hh
              exact VA.to hh (by decide +kernel) (Le.mk hB [0, 1, 2, 3] (by repeat first | refine ⟨rfl, ?_⟩ | trivial) rfl rfl (Nat.le_refl _))
            ·
              refine bI rfl hB rfl (by decide) rfl rfl ?_
              refine VA.le _ (Le.lI (t := 106) (xs := [(xA l m).y, (xA l m).y, -1, 4611686018427387904]) rfl rfl) ?_
              have hh := hS22 
              rw [hF] at hh
              exact VA.to hh (by decide +kernel) (Le.mk hB [0, 1, 2, 3] (by repeat first | refine ⟨rfl, ?_⟩ | trivial) rfl rfl (Nat.le_refl _))
            ·
              refine bI rfl hB rfl (by decide) rfl rfl ?_
              refine VA.le _ (Le.lI (t := 113) (xs := [(xA l m).quarter, 4, -1]) rfl rfl) ?_
              have hh := hS23 
              rw [hF] at hh
              exact VA.to hh (by decide +kernel) (Le.mk hB [0, 1, 2, 3] (by repeat first | refine ⟨rfl, ?_⟩ | trivial) rfl rfl (Nat.le_refl _))
          have hS33 : F 22 (lsE 70 53 [25, 26, 36, 46, 47]) ⟨aProduct_EZ2 p g2 g3 gr m l ww ++ [(74, (avStrs [(xA l m).name, (xA l m).name, ⟨#[]⟩, ⟨#[99, 49]⟩])), (75, avS r75), (95, (avInts [(xA l m).x, -1, ww + 1]))], [bxStr p a0 cap L (j + 3 + 1), (bA g2), .box g3 ⟨[avS ⟨#[112]⟩, avI ww, avI hg0, .v (.slice (some ⟨gr, 0, none⟩) l.length c)], 28, 4⟩, .box gr ⟨rowL l, 152, c * 5⟩], 0⟩ := by
            rw [hF]
            refine VA.all (rs := [25, 46, 53]) (by decide +kernel) (by decide) ?_
            refine ⟨⟨_, rfl, .inl rfl, ?_⟩, ⟨_, rfl, .inl rfl, ?_⟩, ⟨_, rfl, .inl rfl, ?_⟩, trivial⟩
            ·
              refine bS rfl hB rfl (by decide) rfl rfl ?_
              refine VA.le _ (Le.lS (t := 85) (xs := [(xA l m).part, (xA l m).part, ⟨#[]⟩]) rfl rfl) ?_
              have hh := hS21 
              rw [hF] at hh
              exact VA.to hh (by decide +kernel) (Le.mk hB [0, 1, 2, 3] (by repeat first | refine ⟨rfl, ?_⟩ | trivial) rfl rfl (Nat.le_refl _))
            ·
              refine bI rfl hB rfl (by decide) rfl rfl ?_
              refine VA.le _ (Le.lI (t := 106) (xs := [(xA l m).y, (xA l m).y, -1, 4611686018427387904]) rfl rfl) ?_
              have hh := hS24 
              rw [hF] at hh
              exact VA.to hh (by decide +kernel) (Le.mk hB [0, 1, 2, 3] (by repeat first | refine ⟨rfl, ?_⟩ | trivial) rfl rfl (Nat.le_refl _))
            ·
              refine bI rfl hB rfl (by decide) rfl rfl ?_
              refine VA.le _ (Le.lI (t := 113) (xs := [(xA l m).quarter, 4, -1]) rfl rfl) ?_
              have hh := hS25 
              rw [hF] at hh
              exact VA.to hh (by decide +kernel) (Le.mk hB [0, 1, 2, 3] (by repeat first | refine ⟨rfl, ?_⟩ | trivial) rfl rfl (Nat.le_refl _))
          have hS34 : F 22 (lsE 70 53 [25, 26, 35, 36, 47]) ⟨aProduct_EZ2 p g2 g3 gr m l ww ++ [(74, (avStrs [(xA l m).name, (xA l m).name, ⟨#[]⟩, ⟨#[99, 49]⟩])), (75, avS r75), (106, (avInts [(xA l m).y, (xA l m).y, -1, 4611686018427387904]))], [bxStr p a0 cap L (j + 3 + 1), (bA g2), .box g3 ⟨[avS ⟨#[112]⟩, avI ww, avI hg0, .v (.slice (some ⟨gr, 0, none⟩) l.length c)], 28, 4⟩, .box gr ⟨rowL l, 152, c * 5⟩], 0⟩ := by
            rw [hF]
            refine VA.all (rs := [25, 35, 53]) (by decide +kernel) (by decide) ?_
            refine ⟨⟨_, rfl, .inl rfl, ?_⟩, ⟨_, rfl, .inl rfl, ?_⟩, ⟨_, rfl, .inl rfl, ?_⟩, trivial⟩
            ·
              refine bS rfl hB rfl (by decide) rfl rfl ?_
              refine VA.le _ (Le.lS (t := 85) (xs := [(xA l m).part, (xA l m).part, ⟨#[]⟩]) rfl rfl) ?_
              have hh := hS22 
              rw [hF] at hh
              exact VA.to hh (by decide +kernel) (Le.mk hB [0, 1, 2, 3] (by repeat first | refine ⟨rfl, ?_⟩ | trivial) rfl rfl (Nat.le_refl _))
            ·
              refine bI rfl hB rfl (by decide) rfl rfl ?_
              refine VA.le _ (Le.lI (t := 95) (xs := [(xA l m).x, -1, ww + 1]) rfl rfl) ?_
              have hh := hS24 
              rw [hF] at hh
              exact VA.to hh (by decide +kernel) (Le.mk hB [0, 1, 2, 3] (by repeat first | refine ⟨rfl, ?_⟩ | trivial) rfl rfl (Nat.le_refl _))
            ·
              refine bI rfl hB rfl (by decide) rfl rfl ?_
              refine VA.le _ (Le.lI (t := 113) (xs := [(xA l m).quarter, 4, -1]) rfl rfl) ?_
              have hh := hS26 
              rw [hF] at hh
              exact VA.to hh (by decide +kernel) (Le.mk hB [0, 1, 2, 3] (by repeat first | refine ⟨rfl, ?_⟩ | trivial) rfl rfl (Nat.le_refl _))
          have hS35 : F 22 (lsE 70 54 [25, 26, 35, 36, 46, 47]) ⟨aProduct_EZ2 p g2 g3 gr m l ww ++ [(74, (avStrs [(xA l m).name, (xA l m).name, ⟨#[]⟩, ⟨#[99, 49]⟩])), (75, avS r75), (113, (avInts [(xA l m).quarter, 4, -1]))], [bxStr p a0 cap L (j + 3 + 1), (bA g2), .box g3 ⟨[avS ⟨#[112]⟩, avI ww, avI hg0, .v (.slice (some ⟨gr, 0, none⟩) l.length c)], 28, 4⟩, .box gr ⟨rowL l, 152, c * 5⟩], 0⟩ := by
            rw [hF]
            refine VA.all (rs := [25, 35, 46]) (by decide +kernel) (by decide) ?_
            refine ⟨⟨_, rfl, .inl rfl, ?_⟩, ⟨_, rfl, .inl rfl, ?_⟩, ⟨_, rfl, .inl rfl, ?_⟩, trivial⟩
            ·
              refine bS rfl hB rfl (by decide) rfl rfl ?_
              refine VA.le _ (Le.lS (t := 85) (xs := [(xA l m).part, (xA l m).part, ⟨#[]⟩]) rfl rfl) ?_
              have hh := hS23 
              rw [hF] at hh
              exact VA.to hh (by decide +kernel) (Le.mk hB [0, 1, 2, 3] (by repeat first | refine ⟨rfl, ?_⟩ | trivial) rfl rfl (Nat.le_refl _))
            ·
              refine bI rfl hB rfl (by decide) rfl rfl ?_
              refine VA.le _ (Le.lI (t := 95) (xs := [(xA l m).x, -1, ww + 1]) rfl rfl) ?_
              have hh := hS25 
              rw [hF] at hh
              exact VA.to hh (by decide +kernel) (Le.mk hB [0, 1, 2, 3] (by repeat first | refine ⟨rfl, ?_⟩ | trivial) rfl rfl (Nat.le_refl _))
            ·
              refine bI rfl hB rfl (by decide) rfl rfl ?_
              refine VA.le _ (Le.lI (t := 106) (xs := [(xA l m).y, (xA l m).y, -1, 4611686018427387904]) rfl rfl) ?_
              have hh := hS26 
              rw [hF] at hh
              exact VA.to hh (by decide +kernel) (Le.mk hB [0, 1, 2, 3] (by repeat first | refine ⟨rfl, ?_⟩ | trivial) rfl rfl (Nat.le_refl _))
          have hS36 : F 22 (lsE 70 53 [15, 26, 36, 46, 47]) ⟨aProduct_EZ2 p g2 g3 gr m l ww ++ [(74, (avStrs [(xA l m).name, (xA l m).name, ⟨#[]⟩, ⟨#[99, 49]⟩])), (85, (avStrs [(xA l m).part, (xA l m).part, ⟨#[]⟩])), (95, (avInts [(xA l m).x, -1, ww + 1]))], [bxStr p a0 cap L (j + 3), (bA g2), .box g3 ⟨[avS ⟨#[112]⟩, avI ww, avI hg0, .v (.slice (some ⟨gr, 0, none⟩) l.length c)], 28, 4⟩, .box gr ⟨rowL l, 152, c * 5⟩], 0⟩ := by
            rw [hF]
            refine VA.all (rs := [15, 46, 53]) (by decide +kernel) (by decide) ?_
            refine ⟨⟨_, rfl, .inl rfl, ?_⟩, ⟨_, rfl, .inl rfl, ?_⟩, ⟨_, rfl, .inl rfl, ?_⟩, trivial⟩
            ·
              refine OpE.callHX (rest := [_, _, _]) txi_stab hGX rfl hB rfl Tryz.call79 rfl rfl (some_X (xs := [(xA l m).name, (xA l m).name, ⟨#[]⟩, ⟨#[99, 49]⟩]) (by omega) (by simp) hp0) (List.Perm.refl _) (fun b h => .inr ⟨by decide, blkStr h⟩) ?_
              rintro _ _ ⟨rfl, rfl⟩
              refine VA.le _ (Le.recast (t := 75) (y := avS r75) rfl (fun w Z u h => by rw [← e75]; exact h)) ?_
              have hh := hS21 
              rw [hF] at hh
              exact VA.to hh (by decide +kernel) (Le.mk hB [0, 1, 2, 3] (by repeat first | refine ⟨rfl, ?_⟩ | trivial) rfl rfl (Nat.le_refl _))
            ·
              refine bI rfl hB rfl (by decide) rfl rfl ?_
              refine VA.le _ (Le.lI (t := 106) (xs := [(xA l m).y, (xA l m).y, -1, 4611686018427387904]) rfl rfl) ?_
              have hh := hS27 
              rw [hF] at hh
              exact VA.to hh (by decide +kernel) (Le.mk hB [0, 1, 2, 3] (by repeat first | refine ⟨rfl, ?_⟩ | trivial) rfl rfl (Nat.le_refl _))
            ·
              refine bI rfl hB rfl (by decide) rfl rfl ?_
              refine VA.le _ (Le.lI (t := 113) (xs := [(xA l m).quarter, 4, -1]) rfl rfl) ?_
              have hh := hS28 
              rw [hF] at hh
              exact VA.to hh (by decide +kernel) (Le.mk hB [0, 1, 2, 3] (by repeat first | refine ⟨rfl, ?_⟩ | trivial) rfl rfl (Nat.le_refl _))
          have hS37 : F 22 (lsE 70 53 [15, 26, 35, 36, 47]) ⟨aProduct_EZ2 p g2 g3 gr m l ww ++ [(74, (avStrs [(xA l m).name, (xA l m).name, ⟨#[]⟩, ⟨#[99, 49]⟩])), (85, (avStrs [(xA l m).part, (xA l m).part, ⟨#[]⟩])), (106, (avInts [(xA l m).y, (xA l m).y, -1, 4611686018427387904]))], [bxStr p a0 cap L (j + 3), (bA g2), .box g3 ⟨[avS ⟨#[112]⟩, avI ww, avI hg0, .v (.slice (some ⟨gr, 0, none⟩) l.length c)], 28, 4⟩, .box gr ⟨rowL l, 152, c * 5⟩], 0⟩ := by
            rw [hF]
            refine VA.all (rs := [15, 35, 53]) (by decide +kernel) (by decide) ?_
            refine ⟨⟨_, rfl, .inl rfl, ?_⟩, ⟨_, rfl, .inl rfl, ?_⟩, ⟨_, rfl, .inl rfl, ?_⟩, trivial⟩
            ·
              refine OpE.callHX (rest := [_, _, _]) txi_stab hGX rfl hB rfl Tryz.call79 rfl rfl (some_X (xs := [(xA l m).name, (xA l m).name, ⟨#[]⟩, ⟨#[99, 49]⟩]) (by omega) (by simp) hp0) (List.Perm.refl _) (fun b h => .inr ⟨by decide, blkStr h⟩) ?_
              rintro _ _ ⟨rfl, rfl⟩
              refine VA.le _ (Le.recast (t := 75) (y := avS r75) rfl (fun w Z u h => by rw [← e75]; exact h)) ?_
              have hh := hS22 
              rw [hF] at hh
              exact VA.to hh (by decide +kernel) (Le.mk hB [0, 1, 2, 3] (by repeat first | refine ⟨rfl, ?_⟩ | trivial) rfl rfl (Nat.le_refl _))
            ·
              refine bI rfl hB rfl (by decide) rfl rfl ?_
              refine VA.le _ (Le.lI (t := 95) (xs := [(xA l m).x, -1, ww + 1]) rfl rfl) ?_
              have hh := hS27 
              rw [hF] at hh
              exact VA.to hh (by decide +kernel) (Le.mk hB [0, 1, 2, 3] (by repeat first | refine ⟨rfl, ?_⟩ | trivial) rfl rfl (Nat.le_refl _))
            ·
              refine bI rfl hB rfl (by decide) rfl rfl ?_
              refine VA.le _ (Le.lI (t := 113) (xs := [(xA l m).quarter, 4, -1]) rfl rfl) ?_
              have hh := hS29 
              rw [hF] at hh
              exact VA.to hh (by decide +kernel) (Le.mk hB [0, 1, 2, 3] (by repeat first | refine ⟨rfl, ?_⟩ | trivial) rfl rfl (Nat.le_refl _))
          have hS38 : F 22 (lsE 70 54 [15, 26, 35, 36, 46, 47]) ⟨aProduct_EZ2 p g2 g3 gr m l ww ++ [(74, (avStrs [(xA l m).name, (xA l m).name, ⟨#[]⟩, ⟨#[99, 49]⟩])), (85, (avStrs [(xA l m).part, (xA l m).part, ⟨#[]⟩])), (113, (avInts [(xA l m).quarter, 4, -1]))], [bxStr p a0 cap L (j + 3), (bA g2), .box g3 ⟨[avS ⟨#[112]⟩, avI ww, avI hg0, .v (.slice (some ⟨gr, 0, none⟩) l.length c)], 28, 4⟩, .box gr ⟨rowL l, 152, c * 5⟩], 0⟩ := by
            rw [hF]
            refine VA.all (rs := [15, 35, 46]) (by decide +kernel) (by decide) ?_
            refine ⟨⟨_, rfl, .inl rfl, ?_⟩, ⟨_, rfl, .inl rfl, ?_⟩, ⟨_, rfl, .inl rfl, ?_⟩, trivial⟩
            ·
              refine OpE.callHX (rest := [_, _, _]) txi_stab hGX rfl hB rfl Tryz.call79 rfl rfl (some_X (xs := [(xA l m).name, (xA l m).name, ⟨#[]⟩, ⟨#[99, 49]⟩]) (by omega) (by simp) hp0) (List.Perm.refl _) (fun b h => .inr ⟨by decide, blkStr h⟩) ?_
              rintro _ _ ⟨rfl, rfl⟩
              refine VA.le _ (Le.recast (t := 75) (y := avS r75) rfl (fun w Z u h => by rw [← e75]; exact h)) ?_
              have hh := hS23 
              rw [hF] at hh
              exact VA.to hh (by decide +kernel) (Le.mk hB [0, 1, 2, 3] (by repeat first | refine ⟨rfl, ?_⟩ | trivial) rfl rfl (Nat.le_refl _))
            ·
              refine bI rfl hB rfl (by decide) rfl rfl ?_
              refine VA.le _ (Le.lI (t := 95) (xs := [(xA l m).x, -1, ww + 1]) rfl rfl) ?_
              have hh := hS28 
              rw [hF] at hh
              exact VA.to hh (by decide +kernel) (Le.mk hB [0, 1, 2, 3] (by repeat first | refine ⟨rfl, ?_⟩ | trivial) rfl rfl (Nat.le_refl _))
            ·
              refine bI rfl hB rfl (by decide) rfl rfl ?_
              refine VA.le _ (Le.lI (t := 106) (xs := [(xA l m).y, (xA l m).y, -1, 4611686018427387904]) rfl rfl) ?_
              have hh := hS29 
              rw [hF] at hh
              exact VA.to hh (by decide +kernel) (Le.mk hB [0, 1, 2, 3] (by repeat first | refine ⟨rfl, ?_⟩ | trivial) rfl rfl (Nat.le_refl _))
          have hS39 : F 22 (lsE 70 53 [15, 25, 26, 36, 47]) ⟨aProduct_EZ2 p g2 g3 gr m l ww ++ [(74, (avStrs [(xA l m).name, (xA l m).name, ⟨#[]⟩, ⟨#[99, 49]⟩])), (95, (avInts [(xA l m).x, -1, ww + 1])), (106, (avInts [(xA l m).y, (xA l m).y, -1, 4611686018427387904]))], [bxStr p a0 cap L (j + 3), (bA g2), .box g3 ⟨[avS ⟨#[112]⟩, avI ww, avI hg0, .v (.slice (some ⟨gr, 0, none⟩) l.length c)], 28, 4⟩, .box gr ⟨rowL l, 152, c * 5⟩], 0⟩ := by
            rw [hF]
            refine VA.all (rs := [15, 25, 53]) (by decide +kernel) (by decide) ?_
            refine ⟨⟨_, rfl, .inl rfl, ?_⟩, ⟨_, rfl, .inl rfl, ?_⟩, ⟨_, rfl, .inl rfl, ?_⟩, trivial⟩
            ·
              refine OpE.callHX (rest := [_, _, _]) txi_stab hGX rfl hB rfl Tryz.call79 rfl rfl (some_X (xs := [(xA l m).name, (xA l m).name, ⟨#[]⟩, ⟨#[99, 49]⟩]) (by omega) (by simp) hp0) (List.Perm.refl _) (fun b h => .inr ⟨by decide, blkStr h⟩) ?_
              rintro _ _ ⟨rfl, rfl⟩
              refine VA.le _ (Le.recast (t := 75) (y := avS r75) rfl (fun w Z u h => by rw [← e75]; exact h)) ?_
              have hh := hS24 
              rw [hF] at hh
              exact VA.to hh (by decide +kernel) (Le.mk hB [0, 1, 2, 3] (by repeat first | refine ⟨rfl, ?_⟩ | trivial) rfl rfl (Nat.le_refl _))
            ·
              refine bS rfl hB rfl (by decide) rfl rfl ?_
              refine VA.le _ (Le.lS (t := 85) (xs := [(xA l m).part, (xA l m).part, ⟨#[]⟩]) rfl rfl) ?_
              have hh := hS27 
              rw [hF] at hh
              exact VA.to hh (by decide +kernel) (Le.mk hB [0, 1, 2, 3] (by repeat first | refine ⟨rfl, ?_⟩ | trivial) rfl rfl (Nat.le_refl _))
            ·
              refine bI rfl hB rfl (by decide) rfl rfl ?_
              refine VA.le _ (Le.lI (t := 113) (xs := [(xA l m).quarter, 4, -1]) rfl rfl) ?_
              have hh := hS30 
              rw [hF] at hh
              exact VA.to hh (by decide +kernel) (Le.mk hB [0, 1, 2, 3] (by repeat first | refine ⟨rfl, ?_⟩ | trivial) rfl rfl (Nat.le_refl _))
          have hS40 : F 22 (lsE 70 54 [15, 25, 26, 36, 46, 47]) ⟨aProduct_EZ2 p g2 g3 gr m l ww ++ [(74, (avStrs [(xA l m).name, (xA l m).name, ⟨#[]⟩, ⟨#[99, 49]⟩])), (95, (avInts [(xA l m).x, -1, ww + 1])), (113, (avInts [(xA l m).quarter, 4, -1]))], [bxStr p a0 cap L (j + 3), (bA g2), .box g3 ⟨[avS ⟨#[112]⟩, avI ww, avI hg0, .v (.slice (some ⟨gr, 0, none⟩) l.length c)], 28, 4⟩, .box gr ⟨rowL l, 152, c * 5⟩], 0⟩ := by
            rw [hF]
            refine VA.all (rs := [15, 25, 46]) (by decide +kernel) (by decide) ?_
            refine ⟨⟨_, rfl, .inl rfl, ?_⟩, ⟨_, rfl, .inl rfl, ?_⟩, ⟨_, rfl, .inl rfl, ?_⟩, trivial⟩
            ·
              refine OpE.callHX (rest := [_, _, _]) txi_stab hGX rfl hB rfl Tryz.call79 rfl rfl (some_X (xs := [(xA l m).name, (xA l m).name, ⟨#[]⟩, ⟨#[99, 49]⟩]) (by omega) (by simp) hp0) (List.Perm.refl _) (fun b h => .inr ⟨by decide, blkStr h⟩) ?_
              rintro _ _ ⟨rfl, rfl⟩
              refine VA.le _ (Le.recast (t := 75) (y := avS r75) rfl (fun w Z u h => by rw [← e75]; exact h)) ?_
              have hh := hS25 
              rw [hF] at hh
              exact VA.to hh (by decide +kernel) (Le.mk hB [0, 1, 2, 3] (by repeat first | refine ⟨rfl, ?_⟩ | trivial) rfl rfl (Nat.le_refl _))
            ·
              refine bS rfl hB rfl (by decide) rfl rfl ?_
              refine VA.le _ (Le.lS (t := 85) (xs := [(xA l m).part, (xA l m).part, ⟨#[]⟩]) rfl rfl) ?_
              have hh := hS28 
              rw [hF] at hh
              exact VA.to hh (by decide +kernel) (Le.mk hB [0, 1, 2, 3] (by repeat first | refine ⟨rfl, ?_⟩ | trivial) rfl rfl (Nat.le_refl _))
            ·
              refine bI rfl hB rfl (by decide) rfl rfl ?_
              refine VA.le _ (Le.lI (t := 106) (xs := [(xA l m).y, (xA l m).y, -1, 4611686018427387904]) rfl rfl) ?_
              have hh := hS30 
              rw [hF] at hh
              exact VA.to hh (by decide +kernel) (Le.mk hB [0, 1, 2, 3] (by repeat first | refine ⟨rfl, ?_⟩ | trivial) rfl rfl (Nat.le_refl _))
          have hS41 : F 22 (lsE 70 54 [15, 25, 26, 35, 36, 47]) ⟨aProduct_EZ2 p g2 g3 gr m l ww ++ [(74, (avStrs [(xA l m).name, (xA l m).name, ⟨#[]⟩, ⟨#[99, 49]⟩])), (106, (avInts [(xA l m).y, (xA l m).y, -1, 4611686018427387904])), (113, (avInts [(xA l m).quarter, 4, -1]))], [bxStr p a0 cap L (j + 3), (bA g2), .box g3 ⟨[avS ⟨#[112]⟩, avI ww, avI hg0, .v (.slice (some ⟨gr, 0, none⟩) l.length c)], 28, 4⟩, .box gr ⟨rowL l, 152, c * 5⟩], 0⟩ := by
            rw [hF]
            refine VA.all (rs := [15, 25, 35]) (by decide +kernel) (by decide) ?_
            refine ⟨⟨_, rfl, .inl rfl, ?_⟩, ⟨_, rfl, .inl rfl, ?_⟩, ⟨_, rfl, .inl rfl, ?_⟩, trivial⟩
            ·
              refine OpE.callHX (rest := [_, _, _]) txi_stab hGX rfl hB rfl Tryz.call79 rfl rfl (some_X (xs := [(xA l m).name, (xA l m).name, ⟨#[]⟩, ⟨#[99, 49]⟩]) (by omega) (by simp) hp0) (List.Perm.refl _) (fun b h => .inr ⟨by decide, blkStr h⟩) ?_
              rintro _ _ ⟨rfl, rfl⟩
              refine VA.le _ (Le.recast (t := 75) (y := avS r75) rfl (fun w Z u h => by rw [← e75]; exact h)) ?_
              have hh := hS26 
              rw [hF] at hh
              exact VA.to hh (by decide +kernel) (Le.mk hB [0, 1, 2, 3] (by repeat first | refine ⟨rfl, ?_⟩ | trivial) rfl rfl (Nat.le_refl _))
            ·
              refine bS rfl hB rfl (by decide) rfl rfl ?_
              refine VA.le _ (Le.lS (t := 85) (xs := [(xA l m).part, (xA l m).part, ⟨#[]⟩]) rfl rfl) ?_
              have hh := hS29 
              rw [hF] at hh
              exact VA.to hh (by decide +kernel) (Le.mk hB [0, 1, 2, 3] (by repeat first | refine ⟨rfl, ?_⟩ | trivial) rfl rfl (Nat.le_refl _))
            ·
              refine bI rfl hB rfl (by decide) rfl rfl ?_
              refine VA.le _ (Le.lI (t := 95) (xs := [(xA l m).x, -1, ww + 1]) rfl rfl) ?_
              have hh := hS30 
              rw [hF] at hh
              exact VA.to hh (by decide +kernel) (Le.mk hB [0, 1, 2, 3] (by repeat first | refine ⟨rfl, ?_⟩ | trivial) rfl rfl (Nat.le_refl _))
          have hS42 : F 22 (lsE 70 53 [14, 15, 26, 36, 47]) ⟨aProduct_EZ2 p g2 g3 gr m l ww ++ [(85, (avStrs [(xA l m).part, (xA l m).part, ⟨#[]⟩])), (95, (avInts [(xA l m).x, -1, ww + 1])), (106, (avInts [(xA l m).y, (xA l m).y, -1, 4611686018427387904]))], [bxStr p a0 cap L (j + 3), (bA g2), .box g3 ⟨[avS ⟨#[112]⟩, avI ww, avI hg0, .v (.slice (some ⟨gr, 0, none⟩) l.length c)], 28, 4⟩, .box gr ⟨rowL l, 152, c * 5⟩], 0⟩ := by
            rw [hF]
            refine VA.all (rs := [14, 53]) (by decide +kernel) (by decide) ?_
            refine ⟨⟨_, rfl, .inl rfl, ?_⟩, ⟨_, rfl, .inl rfl, ?_⟩, trivial⟩
            ·
              refine bS rfl hB rfl (by decide) rfl rfl ?_
              refine VA.le _ (Le.lS (t := 74) (xs := [(xA l m).name, (xA l m).name, ⟨#[]⟩, ⟨#[99, 49]⟩]) rfl rfl) ?_
              have hh := hS27 
              rw [hF] at hh
              exact VA.to hh (by decide +kernel) (Le.mk hB [0, 1, 2, 3] (by repeat first | refine ⟨rfl, ?_⟩ | trivial) rfl rfl (Nat.le_refl _))
            ·
              refine bI rfl hB rfl (by decide) rfl rfl ?_
              refine VA.le _ (Le.lI (t := 113) (xs := [(xA l m).quarter, 4, -1]) rfl rfl) ?_
              have hh := hS31 
              rw [hF] at hh
              exact VA.to hh (by decide +kernel) (Le.mk hB [0, 1, 2, 3] (by repeat first | refine ⟨rfl, ?_⟩ | trivial) rfl rfl (Nat.le_refl _))
          have hS43 : F 22 (lsE 70 54 [14, 15, 26, 36, 46, 47]) ⟨aProduct_EZ2 p g2 g3 gr m l ww ++ [(85, (avStrs [(xA l m).part, (xA l m).part, ⟨#[]⟩])), (95, (avInts [(xA l m).x, -1, ww + 1])), (113, (avInts [(xA l m).quarter, 4, -1]))], [bxStr p a0 cap L (j + 3), (bA g2), .box g3 ⟨[avS ⟨#[112]⟩, avI ww, avI hg0, .v (.slice (some ⟨gr, 0, none⟩) l.length c)], 28, 4⟩, .box gr ⟨rowL l, 152, c * 5⟩], 0⟩ := by
            rw [hF]
            refine VA.all (rs := [14, 46]) (by decide +kernel) (by decide) ?_
            refine ⟨⟨_, rfl, .inl rfl, ?_⟩, ⟨_, rfl, .inl rfl, ?_⟩, trivial⟩
            ·
              refine bS rfl hB rfl (by decide) rfl rfl ?_
              refine VA.le _ (Le.lS (t := 74) (xs := [(xA l m).name, (xA l m).name, ⟨#[]⟩, ⟨#[99, 49]⟩]) rfl rfl) ?_
              have hh := hS28 
              rw [hF] at hh
              exact VA.to hh (by decide +kernel) (Le.mk hB [0, 1, 2, 3] (by repeat first | refine ⟨rfl, ?_⟩ | trivial) rfl rfl (Nat.le_refl _))
            ·
              refine bI rfl hB rfl (by decide) rfl rfl ?_
              refine VA.le _ (Le.lI (t := 106) (xs := [(xA l m).y, (xA l m).y, -1, 4611686018427387904]) rfl rfl) ?_
              have hh := hS31 
              rw [hF] at hh
              exact VA.to hh (by decide +kernel) (Le.mk hB [0, 1, 2, 3] (by repeat first | refine ⟨rfl, ?_⟩ | trivial) rfl rfl (Nat.le_refl _))
          have hS44 : F 22 (lsE 70 54 [14, 15, 26, 35, 36, 47]) ⟨aProduct_EZ2 p g2 g3 gr m l ww ++ [(85, (avStrs [(xA l m).part, (xA l m).part, ⟨#[]⟩])), (106, (avInts [(xA l m).y, (xA l m).y, -1, 4611686018427387904])), (113, (avInts [(xA l m).quarter, 4, -1]))], [bxStr p a0 cap L (j + 3), (bA g2), .box g3 ⟨[avS ⟨#[112]⟩, avI ww, avI hg0, .v (.slice (some ⟨gr, 0, none⟩) l.length c)], 28, 4⟩, .box gr ⟨rowL l, 152, c * 5⟩], 0⟩ := by
            rw [hF]
            refine VA.all (rs := [14, 35]) (by decide +kernel) (by decide) ?_
            refine ⟨⟨_, rfl, .inl rfl, ?_⟩, ⟨_, rfl, .inl rfl, ?_⟩, trivial⟩
            ·
              refine bS rfl hB rfl (by decide) rfl rfl ?_
              refine VA.le _ (Le.lS (t := 74) (xs := [(xA l m).name, (xA l m).name, ⟨#[]⟩, ⟨#[99, 49]⟩]) rfl rfl) ?_
              have hh := hS29 
              rw [hF] at hh
              exact VA.to hh (by decide +kernel) (Le.mk hB [0, 1, 2, 3] (by repeat first | refine ⟨rfl, ?_⟩ | trivial) rfl rfl (Nat.le_refl _))
            ·
              refine bI rfl hB rfl (by decide) rfl rfl ?_
              refine VA.le _ (Le.lI (t := 95) (xs := [(xA l m).x, -1, ww + 1]) rfl rfl) ?_
              have hh := hS31 
              rw [hF] at hh
              exact VA.to hh (by decide +kernel) (Le.mk hB [0, 1, 2, 3] (by repeat first | refine ⟨rfl, ?_⟩ | trivial) rfl rfl (Nat.le_refl _))
          have hS45 : F 22 (lsE 70 54 [14, 15, 25, 26, 36, 47]) ⟨aProduct_EZ2 p g2 g3 gr m l ww ++ [(95, (avInts [(xA l m).x, -1, ww + 1])), (106, (avInts [(xA l m).y, (xA l m).y, -1, 4611686018427387904])), (113, (avInts [(xA l m).quarter, 4, -1]))], [bxStr p a0 cap L (j + 3), (bA g2), .box g3 ⟨[avS ⟨#[112]⟩, avI ww, avI hg0, .v (.slice (some ⟨gr, 0, none⟩) l.length c)], 28, 4⟩, .box gr ⟨rowL l, 152, c * 5⟩], 0⟩ := by
            rw [hF]
            refine VA.all (rs := [14, 25]) (by decide +kernel) (by decide) ?_
            refine ⟨⟨_, rfl, .inl rfl, ?_⟩, ⟨_, rfl, .inl rfl, ?_⟩, trivial⟩
            ·
              refine bS rfl hB rfl (by decide) rfl rfl ?_
              refine VA.le _ (Le.lS (t := 74) (xs := [(xA l m).name, (xA l m).name, ⟨#[]⟩, ⟨#[99, 49]⟩]) rfl rfl) ?_
              have hh := hS30 
              rw [hF] at hh
              exact VA.to hh (by decide +kernel) (Le.mk hB [0, 1, 2, 3] (by repeat first | refine ⟨rfl, ?_⟩ | trivial) rfl rfl (Nat.le_refl _))
            ·
              refine bS rfl hB rfl (by decide) rfl rfl ?_
              refine VA.le _ (Le.lS (t := 85) (xs := [(xA l m).part, (xA l m).part, ⟨#[]⟩]) rfl rfl) ?_
              have hh := hS31 
              rw [hF] at hh
              exact VA.to hh (by decide +kernel) (Le.mk hB [0, 1, 2, 3] (by repeat first | refine ⟨rfl, ?_⟩ | trivial) rfl rfl (Nat.le_refl _))
          have hS46 : F 23 (lsE 70 53 [25, 26, 35, 36, 46, 47]) ⟨aProduct_EZ2 p g2 g3 gr m l ww ++ [(74, (avStrs [(xA l m).name, (xA l m).name, ⟨#[]⟩, ⟨#[99, 49]⟩])), (75, avS r75)], [bxStr p a0 cap L (j + 3 + 1), (bA g2), .box g3 ⟨[avS ⟨#[112]⟩, avI ww, avI hg0, .v (.slice (some ⟨gr, 0, none⟩) l.length c)], 28, 4⟩, .box gr ⟨rowL l, 152, c * 5⟩], 0⟩ := by
            rw [hF]
            refine VA.all (rs := [25, 35, 46, 53]) (by decide +kernel) (by decide) ?_
            refine ⟨⟨_, rfl, .inl rfl, ?_⟩, ⟨_, rfl, .inl rfl, ?_⟩, ⟨_, rfl, .inl rfl, ?_⟩, ⟨_, rfl, .inl rfl, ?_⟩, trivial⟩
            ·
              refine bS rfl hB rfl (by decide) rfl rfl ?_
              refine VA.le _ (Le.lS (t := 85) (xs := [(xA l m).part, (xA l m).part, ⟨#[]⟩]) rfl rfl) ?_
              have hh := hS32 
              rw [hF] at hh
              exact VA.to hh (by decide +kernel) (Le.mk hB [0, 1, 2, 3] (by repeat first | refine ⟨rfl, ?_⟩ | trivial) rfl rfl (Nat.le_refl _))
            ·
              refine bI rfl hB rfl (by decide) rfl rfl ?_
              refine VA.le _ (Le.lI (t := 95) (xs := [(xA l m).x, -1, ww + 1]) rfl rfl) ?_
              have hh := hS33 
              rw [hF] at hh
              exact VA.to hh (by decide +kernel) (Le.mk hB [0, 1, 2, 3] (by repeat first | refine ⟨rfl, ?_⟩ | trivial) rfl rfl (Nat.le_refl _))
            ·
              refine bI rfl hB rfl (by decide) rfl rfl ?_
              refine VA.le _ (Le.lI (t := 106) (xs := [(xA l m).y, (xA l m).y, -1, 4611686018427387904]) rfl rfl) ?_
              have hh := hS34 
              rw [hF] at hh
              exact VA.to hh (by decide +kernel) (Le.mk hB [0, 1, 2, 3] (by repeat first | refine ⟨rfl, ?_⟩ | trivial) rfl rfl (Nat.le_refl _))
            ·
              refine bI rfl hB rfl (by decide) rfl rfl ?_
              refine VA.le _ (Le.lI (t := 113) (xs := [(xA l m).quarter, 4, -1]) rfl rfl) ?_
              have hh := hS35 
              rw [hF] at hh
              exact VA.to hh (by decide +kernel) (Le.mk hB [0, 1, 2, 3] (by repeat first | refine ⟨rfl, ?_⟩ | trivial) rfl rfl (Nat.le_refl _))
          have hS47 : F 23 (lsE 70 53 [15, 26, 35, 36, 46, 47]) ⟨aProduct_EZ2 p g2 g3 gr m l ww ++ [(74, (avStrs [(xA l m).name, (xA l m).name, ⟨#[]⟩, ⟨#[99, 49]⟩])), (85, (avStrs [(xA l m).part, (xA l m).part, ⟨#[]⟩]))], [bxStr p a0 cap L (j + 3), (bA g2), .box g3 ⟨[avS ⟨#[112]⟩, avI ww, avI hg0, .v (.slice (some ⟨gr, 0, none⟩) l.length c)], 28, 4⟩, .box gr ⟨rowL l, 152, c * 5⟩], 0⟩ := by
            rw [hF]
            refine VA.all (rs := [15, 35, 46, 53]) (by decide +kernel) (by decide) ?_
            refine ⟨⟨_, rfl, .inl rfl, ?_⟩, ⟨_, rfl, .inl rfl, ?_⟩, ⟨_, rfl, .inl rfl, ?_⟩, ⟨_, rfl, .inl rfl, ?_⟩, trivial⟩
            ·
              refine OpE.callHX (rest := [_, _, _]) txi_stab hGX rfl hB rfl Tryz.call79 rfl rfl (some_X (xs := [(xA l m).name, (xA l m).name, ⟨#[]⟩, ⟨#[99, 49]⟩]) (by omega) (by simp) hp0) (List.Perm.refl _) (fun b h => .inr ⟨by decide, blkStr h⟩) ?_
              rintro _ _ ⟨rfl, rfl⟩
              refine VA.le _ (Le.recast (t := 75) (y := avS r75) rfl (fun w Z u h => by rw [← e75]; exact h)) ?_
              have hh := hS32 
              rw [hF] at hh
              exact VA.to hh (by decide +kernel) (Le.mk hB [0, 1, 2, 3] (by repeat first | refine ⟨rfl, ?_⟩ | trivial) rfl rfl (Nat.le_refl _))
            ·
              refine bI rfl hB rfl (by decide) rfl rfl ?_
              refine VA.le _ (Le.lI (t := 95) (xs := [(xA l m).x, -1, ww + 1]) rfl rfl) ?_
              have hh := hS36 
              rw [hF] at hh
              exact VA.to hh (by decide +kernel) (Le.mk hB [0, 1, 2, 3] (by repeat first | refine ⟨rfl, ?_⟩ | trivial) rfl rfl (Nat.le_refl _))
            ·
              refine bI rfl hB rfl (by decide) rfl rfl ?_
              refine VA.le _ (Le.lI (t := 106) (xs := [(xA l m).y, (xA l m).y, -1, 4611686018427387904]) rfl rfl) ?_
              have hh := hS37 
              rw [hF] at hh
              exact VA.to hh (by decide +kernel) (Le.mk hB [0, 1, 2, 3] (by repeat first | refine ⟨rfl, ?_⟩ | trivial) rfl rfl (Nat.le_refl _))
            ·
              refine bI rfl hB rfl (by decide) rfl rfl ?_
              refine VA.le _ (Le.lI (t := 113) (xs := [(xA l m).quarter, 4, -1]) rfl rfl) ?_
              have hh := hS38 
              rw [hF] at hh
              exact VA.to hh (by decide +kernel) (Le.mk hB [0, 1, 2, 3] (by repeat first | refine ⟨rfl, ?_⟩ | trivial) rfl rfl (Nat.le_refl _))
          have hS48 : F 23 (lsE 70 53 [15, 25, 26, 36, 46, 47]) ⟨aProduct_EZ2 p g2 g3 gr m l ww ++ [(74, (avStrs [(xA l m).name, (xA l m).name, ⟨#[]⟩, ⟨#[99, 49]⟩])), (95, (avInts [(xA l m).x, -1, ww + 1]))], [bxStr p a0 cap L (j + 3), (bA g2), .box g3 ⟨[avS ⟨#[112]⟩, avI ww, avI hg0, .v (.slice (some ⟨gr, 0, none⟩) l.length c)], 28, 4⟩, .box gr ⟨rowL l, 152, c * 5⟩], 0⟩ := by
            rw [hF]
            refine VA.all (rs := [15, 25, 46, 53]) (by decide +kernel) (by decide) ?_
            refine ⟨⟨_, rfl, .inl rfl, ?_⟩, ⟨_, rfl, .inl rfl, ?_⟩, ⟨_, rfl, .inl rfl, ?_⟩, ⟨_, rfl, .inl rfl, ?_⟩, trivial⟩
            ·
              refine OpE.callHX (rest := [_, _, _]) txi_stab hGX rfl hB rfl Tryz.call79 rfl rfl (some_X (xs := [(xA l m).name, (xA l m).name, ⟨#[]⟩, ⟨#[99, 49]⟩]) (by omega) (by simp) hp0) (List.Perm.refl _) (fun b h => .inr ⟨by decide, blkStr h⟩) ?_
              rintro _ _ ⟨rfl, rfl⟩
              refine VA.le _ (Le.recast (t := 75) (y := avS r75) rfl (fun w Z u h => by rw [← e75]; exact h)) ?_
              have hh := hS33 
              rw [hF] at hh
              exact VA.to hh (by decide +kernel) (Le.mk hB [0, 1, 2, 3] (by repeat first | refine ⟨rfl, ?_⟩ | trivial) rfl rfl (Nat.le_refl _))
            ·
              refine bS rfl hB rfl (by decide) rfl rfl ?_
              refine VA.le _ (Le.lS (t := 85) (xs := [(xA l m).part, (xA l m).part, ⟨#[]⟩]) rfl rfl) ?_
              have hh := hS36 
              rw [hF] at hh
              exact VA.to hh (by decide +kernel) (Le.mk hB [0, 1, 2, 3] (by repeat first | refine ⟨rfl, ?_⟩ | trivial) rfl rfl (Nat.le_refl _))
            ·
              refine bI rfl hB rfl (by decide) rfl rfl ?_
              refine VA.le _ (Le.lI (t := 106) (xs := [(xA l m).y, (xA l m).y, -1, 4611686018427387904]) rfl rfl) ?_
              have hh := hS39 
              rw [hF] at hh
              exact VA.to hh (by decide +kernel) (Le.mk hB [0, 1, 2, 3] (by repeat first | refine ⟨rfl, ?_⟩ | trivial) rfl rfl (Nat.le_refl _))
            ·
              refine bI rfl hB rfl (by decide) rfl rfl ?_
              refine VA.le _ (Le.lI (t := 113) (xs := [(xA l m).quarter, 4, -1]) rfl rfl) ?_
              have hh := hS40 
              rw [hF] at hh
              exact VA.to hh (by decide +kernel) (Le.mk hB [0, 1, 2, 3] (by repeat first | refine ⟨rfl, ?_⟩ | trivial) rfl rfl (Nat.le_refl _))
          have hS49 : F 23 (lsE 70 53 [15, 25, 26, 35, 36, 47]) ⟨aProduct_EZ2 p g2 g3 gr m l ww ++ [(74, (avStrs [(xA l m).name, (xA l m).name, ⟨#[]⟩, ⟨#[99, 49]⟩])), (106, (avInts [(xA l m).y, (xA l m).y, -1, 4611686018427387904]))], [bxStr p a0 cap L (j + 3), (bA g2), .box g3 ⟨[avS ⟨#[112]⟩, avI ww, avI hg0, .v (.slice (some ⟨gr, 0, none⟩) l.length c)], 28, 4⟩, .box gr ⟨rowL l, 152, c * 5⟩], 0⟩ := by
            rw [hF]
            refine VA.all (rs := [15, 25, 35, 53]) (by decide +kernel) (by decide) ?_
            refine ⟨⟨_, rfl, .inl rfl, ?_⟩, ⟨_, rfl, .inl rfl, ?_⟩, ⟨_, rfl, .inl rfl, ?_⟩, ⟨_, rfl, .inl rfl, ?_⟩, trivial⟩
            ·
              refine OpE.callHX (rest := [_, _, _]) txi_stab hGX rfl hB rfl Tryz.call79 rfl rfl (some_X (xs := [(xA l m).name, (xA l m).name, ⟨#[]⟩, ⟨#[99, 49]⟩]) (by omega) (by simp) hp0) (List.Perm.refl _) (fun b h => .inr ⟨by decide, blkStr h⟩) ?_
              rintro _ _ ⟨rfl, rfl⟩
              refine VA.le _ (Le.recast (t := 75) (y := avS r75) rfl (fun w Z u h => by rw [← e75]; exact h)) ?_
              have hh := hS34 
              rw [hF] at hh
              exact VA.to hh (by decide +kernel) (Le.mk hB [0, 1, 2, 3] (by repeat first | refine ⟨rfl, ?_⟩ | trivial) rfl rfl (Nat.le_refl _))
            ·
              refine bS rfl hB rfl (by decide) rfl rfl ?_
              refine VA.le _ (Le.lS (t := 85) (xs := [(xA l m).part, (xA l m).part, ⟨#[]⟩]) rfl rfl) ?_
              have hh := hS37 
              rw [hF] at hh
              exact VA.to hh (by decide +kernel) (Le.mk hB [0, 1, 2, 3] (by repeat first | refine ⟨rfl, ?_⟩ | trivial) rfl rfl (Nat.le_refl _))
            ·
              refine bI rfl hB rfl (by decide) rfl rfl ?_
              refine VA.le _ (Le.lI (t := 95) (xs := [(xA l m).x, -1, ww + 1]) rfl rfl) ?_
              have hh := hS39 
              rw [hF] at hh
              exact VA.to hh (by decide +kernel) (Le.mk hB [0, 1, 2, 3] (by repeat first | refine ⟨rfl, ?_⟩ | trivial) rfl rfl (Nat.le_refl _))
            ·
              refine bI rfl hB rfl (by decide) rfl rfl ?_
              refine VA.le _ (Le.lI (t := 113) (xs := [(xA l m).quarter, 4, -1]) rfl rfl) ?_
              have hh := hS41 
              rw [hF] at hh
              exact VA.to hh (by decide +kernel) (Le.mk hB [0, 1, 2, 3] (by repeat first | refine ⟨rfl, ?_⟩ | trivial) rfl rfl (Nat.le_refl _))
          have hS50 : F 23 (lsE 70 54 [15, 25, 26, 35, 36, 46, 47]) ⟨aProduct_EZ2 p g2 g3 gr m l ww ++ [(74, (avStrs [(xA l m).name, (xA l m).name, ⟨#[]⟩, ⟨#[99, 49]⟩])), (113, (avInts [(xA l m).quarter, 4, -1]))], [bxStr p a0 cap L (j + 3), (bA g2), .box g3 ⟨[avS ⟨#[112]⟩, avI ww, avI hg0, .v (.slice (some ⟨gr, 0, none⟩) l.length c)], 28, 4⟩, .box gr ⟨rowL l, 152, c * 5⟩], 0⟩ := by
            rw [hF]
            refine VA.all (rs := [15, 25, 35, 46]) (by decide +kernel) (by decide) ?_
            refine ⟨⟨_, rfl, .inl rfl, ?_⟩, ⟨_, rfl, .inl rfl, ?_⟩, ⟨_, rfl, .inl rfl, ?_⟩, ⟨_, rfl, .inl rfl, ?_⟩, trivial⟩
            ·
              refine OpE.callHX (rest := [_, _, _]) txi_stab hGX rfl hB rfl Tryz.call79 rfl rfl (some_X (xs := [(xA l m).name, (xA l m).name, ⟨#[]⟩, ⟨#[99, 49]⟩]) (by omega) (by simp) hp0) (List.Perm.refl _) (fun b h => .inr ⟨by decide, blkStr h⟩) ?_
              rintro _ _ ⟨rfl, rfl⟩
              refine VA.le _ (Le.recast (t := 75) (y := avS r75) rfl (fun w Z u h => by rw [← e75]; exact h)) ?_
              have hh := hS35 
              rw [hF] at hh
              exact VA.to hh (by decide +kernel) (Le.mk hB [0, 1, 2, 3] (by repeat first | refine ⟨rfl, ?_⟩ | trivial) rfl rfl (Nat.le_refl _))
            ·
              refine bS rfl hB rfl (by decide) rfl rfl ?_
              refine VA.le _ (Le.lS (t := 85) (xs := [(xA l m).part, (xA l m).part, ⟨#[]⟩]) rfl rfl) ?_
              have hh := hS38 
              rw [hF] at hh
              exact VA.to hh (by decide +kernel) (Le.mk hB [0, 1, 2, 3] (by repeat first | refine ⟨rfl, ?_⟩ | trivial) rfl rfl (Nat.le_refl _))
            ·
              refine bI rfl hB rfl (by decide) rfl rfl ?_
              refine VA.le _ (Le.lI (t := 95) (xs := [(xA l m).x, -1, ww + 1]) rfl rfl) ?_
              have hh := hS40 
              rw [hF] at hh
              exact VA.to hh (by decide +kernel) (Le.mk hB [0, 1, 2, 3] (by repeat first | refine ⟨rfl, ?_⟩ | trivial) rfl rfl (Nat.le_refl _))
            ·
              refine bI rfl hB rfl (by decide) rfl rfl ?_
              refine VA.le _ (Le.lI (t := 106) (xs := [(xA l m).y, (xA l m).y, -1, 4611686018427387904]) rfl rfl) ?_
              have hh := hS41 
              rw [hF] at hh
              exact VA.to hh (by decide +kernel) (Le.mk hB [0, 1, 2, 3] (by repeat first | refine ⟨rfl, ?_⟩ | trivial) rfl rfl (Nat.le_refl _))
          have hS51 : F 23 (lsE 70 53 [14, 15, 26, 36, 46, 47]) ⟨aProduct_EZ2 p g2 g3 gr m l ww ++ [(85, (avStrs [(xA l m).part, (xA l m).part, ⟨#[]⟩])), (95, (avInts [(xA l m).x, -1, ww + 1]))], [bxStr p a0 cap L (j + 3), (bA g2), .box g3 ⟨[avS ⟨#[112]⟩, avI ww, avI hg0, .v (.slice (some ⟨gr, 0, none⟩) l.length c)], 28, 4⟩, .box gr ⟨rowL l, 152, c * 5⟩], 0⟩ := by
            rw [hF]
            refine VA.all (rs := [14, 46, 53]) (by decide +kernel) (by decide) ?_
            refine ⟨⟨_, rfl, .inl rfl, ?_⟩, ⟨_, rfl, .inl rfl, ?_⟩, ⟨_, rfl, .inl rfl, ?_⟩, trivial⟩
            ·
              refine bS rfl hB rfl (by decide) rfl rfl ?_
              refine VA.le _ (Le.lS (t := 74) (xs := [(xA l m).name, (xA l m).name, ⟨#[]⟩, ⟨#[99, 49]⟩]) rfl rfl) ?_
              have hh := hS36 
              rw [hF] at hh
              exact VA.to hh (by decide +kernel) (Le.mk hB [0, 1, 2, 3] (by repeat first | refine ⟨rfl, ?_⟩ | trivial) rfl rfl (Nat.le_refl _))
            ·
              refine bI rfl hB rfl (by decide) rfl rfl ?_
              refine VA.le _ (Le.lI (t := 106) (xs := [(xA l m).y, (xA l m).y, -1, 4611686018427387904]) rfl rfl) ?_
              have hh := hS42 
              rw [hF] at hh
              exact VA.to hh (by decide +kernel) (Le.mk hB [0, 1, 2, 3] (by repeat first | refine ⟨rfl, ?_⟩ | trivial) rfl rfl (Nat.le_refl _))
            ·
              refine bI rfl hB rfl (by decide) rfl rfl ?_
              refine VA.le _ (Le.lI (t := 113) (xs := [(xA l m).quarter, 4, -1]) rfl rfl) ?_
              have hh := hS43 
              rw [hF] at hh
              exact VA.to hh (by decide +kernel) (Le.mk hB [0, 1, 2, 3] (by repeat first | refine ⟨rfl, ?_⟩ | trivial) rfl rfl (Nat.le_refl _))
          have hS52 : F 23 (lsE 70 53 [14, 15, 26, 35, 36, 47]) ⟨aProduct_EZ2 p g2 g3 gr m l ww ++ [(85, (avStrs [(xA l m).part, (xA l m).part, ⟨#[]⟩])), (106, (avInts [(xA l m).y, (xA l m).y, -1, 4611686018427387904]))], [bxStr p a0 cap L (j + 3), (bA g2), .box g3 ⟨[avS ⟨#[112]⟩, avI ww, avI hg0, .v (.slice (some ⟨gr, 0, none⟩) l.length c)], 28, 4⟩, .box gr ⟨rowL l, 152, c * 5⟩], 0⟩ := by
            rw [hF]
            refine VA.all (rs := [14, 35, 53]) (by decide +kernel) (by decide) ?_
            refine ⟨⟨_, rfl, .inl rfl, ?_⟩, ⟨_, rfl, .inl rfl, ?_⟩, ⟨_, rfl, .inl rfl, ?_⟩, trivial⟩
            ·
              refine bS rfl hB rfl (by decide) rfl rfl ?_
              refine VA.le _ (Le.lS (t := 74) (xs := [(xA l m).name, (xA l m).name, ⟨#[]⟩, ⟨#[99, 49]⟩]) rfl rfl) ?_
              have hh := hS37 
              rw [hF] at hh
              exact VA.to hh (by decide +kernel) (Le.mk hB [0, 1, 2, 3] (by repeat first | refine ⟨rfl, ?_⟩ | trivial) rfl rfl (Nat.le_refl _))
            ·
              refine bI rfl hB rfl (by decide) rfl rfl ?_
              refine VA.le _ (Le.lI (t := 95) (xs := [(xA l m).x, -1, ww + 1]) rfl rfl) ?_
              have hh := hS42 
              rw [hF] at hh
              exact VA.to hh (by decide +kernel) (Le.mk hB [0, 1, 2, 3] (by repeat first | refine ⟨rfl, ?_⟩ | trivial) rfl rfl (Nat.le_refl _))
            ·
              refine bI rfl hB rfl (by decide) rfl rfl ?_
              refine VA.le _ (Le.lI (t := 113) (xs := [(xA l m).quarter, 4, -1]) rfl rfl) ?_
              have hh := hS44 
              rw [hF] at hh
              exact VA.to hh (by decide +kernel) (Le.mk hB [0, 1, 2, 3] (by repeat first | refine ⟨rfl, ?_⟩ | trivial) rfl rfl (Nat.le_refl _))
          have hS53 : F 23 (lsE 70 54 [14, 15, 26, 35, 36, 46, 47]) ⟨aProduct_EZ2 p g2 g3 gr m l ww ++ [(85, (avStrs [(xA l m).part, (xA l m).part, ⟨#[]⟩])), (113, (avInts [(xA l m).quarter, 4, -1]))], [bxStr p a0 cap L (j + 3), (bA g2), .box g3 ⟨[avS ⟨#[112]⟩, avI ww, avI hg0, .v (.slice (some ⟨gr, 0, none⟩) l.length c)], 28, 4⟩, .box gr ⟨rowL l, 152, c * 5⟩], 0⟩ := by
            rw [hF]
            refine VA.all (rs := [14, 35, 46]) (by decide +kernel) (by decide) ?_
            refine ⟨⟨_, rfl, .inl rfl, ?_⟩, ⟨_, rfl, .inl rfl, ?_⟩, ⟨_, rfl, .inl rfl, ?_⟩, trivial⟩
            ·
              refine bS rfl hB rfl (by decide) rfl rfl ?_
              refine VA.le _ (Le.lS (t := 74) (xs := [(xA l m).name, (xA l m).name, ⟨#[]⟩, ⟨#[99, 49]⟩]) rfl rfl) ?_
              have hh := hS38 
              rw [hF] at hh
              exact VA.to hh (by decide +kernel) (Le.mk hB [0, 1, 2, 3] (by repeat first | refine ⟨rfl, ?_⟩ | trivial) rfl rfl (Nat.le_refl _))
            ·
              refine bI rfl hB rfl (by decide) rfl rfl ?_
              refine VA.le _ (Le.lI (t := 95) (xs := [(xA l m).x, -1, ww + 1]) rfl rfl) ?_
              have hh := hS43 
              rw [hF] at hh
              exact VA.to hh (by decide +kernel) (Le.mk hB [0, 1, 2, 3] (by repeat first | refine ⟨rfl, ?_⟩ | trivial) rfl rfl (Nat.le_refl _))
            ·
              refine bI rfl hB rfl (by decide) rfl rfl ?_
              refine VA.le _ (Le.lI (t := 106) (xs := [(xA l m).y, (xA l m).y, -1, 4611686018427387904]) rfl rfl) ?_
              have hh := hS44 
              rw [hF] at hh
              exact VA.to hh (by decide +kernel) (Le.mk hB [0, 1, 2, 3] (by repeat first | refine ⟨rfl, ?_⟩ | trivial) rfl rfl (Nat.le_refl _))
          have hS54 : F 23 (lsE 70 53 [14, 15, 25, 26, 36, 47]) ⟨aProduct_EZ2 p g2 g3 gr m l ww ++ [(95, (avInts [(xA l m).x, -1, ww + 1])), (106, (avInts [(xA l m).y, (xA l m).y, -1, 4611686018427387904]))], [bxStr p a0 cap L (j + 3), (bA g2), .box g3 ⟨[avS ⟨#[112]⟩, avI ww, avI hg0, .v (.slice (some ⟨gr, 0, none⟩) l.length c)], 28, 4⟩, .box gr ⟨rowL l, 152, c * 5⟩], 0⟩ := by
            rw [hF]
            refine VA.all (rs := [14, 25, 53]) (by decide +kernel) (by decide) ?_
            refine ⟨⟨_, rfl, .inl rfl, ?_⟩, ⟨_, rfl, .inl rfl, ?_⟩, ⟨_, rfl, .inl rfl, ?_⟩, trivial⟩
            ·
              refine bS rfl hB rfl (by decide) rfl rfl ?_
              refine VA.le _ (Le.lS (t := 74) (xs := [(xA l m).name, (xA l m).name, ⟨#[]⟩, ⟨#[99, 49]⟩]) rfl rfl) ?_
              have hh := hS39 
              rw [hF] at hh
              exact VA.to hh (by decide +kernel) (Le.mk hB [0, 1, 2, 3] (by repeat first | refine ⟨rfl, ?_⟩ | trivial) rfl rfl (Nat.le_refl _))
            ·
              refine bS rfl hB rfl (by decide) rfl rfl ?_
              refine VA.le _ (Le.lS (t := 85) (xs := [(xA l m).part, (xA l m).part, ⟨#[]⟩]) rfl rfl) ?_
              have hh := hS42 
              rw [hF] at hh
              exact VA.to hh (by decide +kernel) (Le.mk hB [0, 1, 2, 3] (by repeat first | refine ⟨rfl, ?_⟩ | trivial) rfl rfl (Nat.le_refl _))
            ·
              refine bI rfl hB rfl (by decide) rfl rfl ?_
              refine VA.le _ (Le.lI (t := 113) (xs := [(xA l m).quarter, 4, -1]) rfl rfl) ?_
              have hh := hS45 
              rw [hF] at hh
              exact VA.to hh (by decide +kernel) (Le.mk hB [0, 1, 2, 3] (by repeat first | refine ⟨rfl, ?_⟩ | trivial) rfl rfl (Nat.le_refl _))
          have hS55 : F 23 (lsE 70 54 [14, 15, 25, 26, 36, 46, 47]) ⟨aProduct_EZ2 p g2 g3 gr m l ww ++ [(95, (avInts [(xA l m).x, -1, ww + 1])), (113, (avInts [(xA l m).quarter, 4, -1]))], [bxStr p a0 cap L (j + 3), (bA g2), .box g3 ⟨[avS ⟨#[112]⟩, avI ww, avI hg0, .v (.slice (some ⟨gr, 0, none⟩) l.length c)], 28, 4⟩, .box gr ⟨rowL l, 152, c * 5⟩], 0⟩ := by
            rw [hF]
            refine VA.all (rs := [14, 25, 46]) (by decide +kernel) (by decide) ?_
            refine ⟨⟨_, rfl, .inl rfl, ?_⟩, ⟨_, rfl, .inl rfl, ?_⟩, ⟨_, rfl, .inl rfl, ?_⟩, trivial⟩
            ·
              refine bS rfl hB rfl (by decide) rfl rfl ?_
              refine VA.le _ (Le.lS (t := 74) (xs := [(xA l m).name, (xA l m).name, ⟨#[]⟩, ⟨#[99, 49]⟩]) rfl rfl) ?_
              have hh := hS40 
              rw [hF] at hh
              exact VA.to hh (by decide +kernel) (Le.mk hB [0, 1, 2, 3] (by repeat first | refine ⟨rfl, ?_⟩ | trivial) rfl rfl (Nat.le_refl _))
            ·
              refine bS rfl hB rfl (by decide) rfl rfl ?_
              refine VA.le _ (Le.lS (t := 85) (xs := [(xA l m).part, (xA l m).part, ⟨#[]⟩]) rfl rfl) ?_
              have hh := hS43 
              rw [hF] at hh
              exact VA.to hh (by decide +kernel) (Le.mk hB [0, 1, 2, 3] (by repeat first | refine ⟨rfl, ?_⟩ | trivial) rfl rfl (Nat.le_refl _))
            ·
              refine bI rfl hB rfl (by decide) rfl rfl ?_
              refine VA.le _ (Le.lI (t := 106) (xs := [(xA l m).y, (xA l m).y, -1, 4611686018427387904]) rfl rfl) ?_
              have hh := hS45 
              rw [hF] at hh
              exact VA.to hh (by decide +kernel) (Le.mk hB [0, 1, 2, 3] (by repeat first | refine ⟨rfl, ?_⟩ | trivial) rfl rfl (Nat.le_refl _))
          have hS56 : F 23 (lsE 70 54 [14, 15, 25, 26, 35, 36, 47]) ⟨aProduct_EZ2 p g2 g3 gr m l ww ++ [(106, (avInts [(xA l m).y, (xA l m).y, -1, 4611686018427387904])), (113, (avInts [(xA l m).quarter, 4, -1]))], [bxStr p a0 cap L (j + 3), (bA g2), .box g3 ⟨[avS ⟨#[112]⟩, avI ww, avI hg0, .v (.slice (some ⟨gr, 0, none⟩) l.length c)], 28, 4⟩, .box gr ⟨rowL l, 152, c * 5⟩], 0⟩ := by
            rw [hF]
            refine VA.all (rs := [14, 25, 35]) (by decide +kernel) (by decide) ?_
            refine ⟨⟨_, rfl, .inl rfl, ?_⟩, ⟨_, rfl, .inl rfl, ?_⟩, ⟨_, rfl, .inl rfl, ?_⟩, trivial⟩
            ·
              refine bS rfl hB rfl (by decide) rfl rfl ?_
              refine VA.le _ (Le.lS (t := 74) (xs := [(xA l m).name, (xA l m).name, ⟨#[]⟩, ⟨#[99, 49]⟩]) rfl rfl) ?_
              have hh := hS41 
              rw [hF] at hh
              exact VA.to hh (by decide +kernel) (Le.mk hB [0, 1, 2, 3] (by repeat first | refine ⟨rfl, ?_⟩ | trivial) rfl rfl (Nat.le_refl _))
            ·
              refine bS rfl hB rfl (by decide) rfl rfl ?_
              refine VA.le _ (Le.lS (t := 85) (xs := [(xA l m).part, (xA l m).part, ⟨#[]⟩]) rfl rfl) ?_
              have hh := hS44 
              rw [hF] at hh
              exact VA.to hh (by decide +kernel) (Le.mk hB [0, 1, 2, 3] (by repeat first | refine ⟨rfl, ?_⟩ | trivial) rfl rfl (Nat.le_refl _))
            ·
              refine bI rfl hB rfl (by decide) rfl rfl ?_
              refine VA.le _ (Le.lI (t := 95) (xs := [(xA l m).x, -1, ww + 1]) rfl rfl) ?_
              have hh := hS45 
              rw [hF] at hh
              exact VA.to hh (by decide +kernel) (Le.mk hB [0, 1, 2, 3] (by repeat first | refine ⟨rfl, ?_⟩ | trivial) rfl rfl (Nat.le_refl _))
          have hS57 : F 24 (lsE 70 53 [15, 25, 26, 35, 36, 46, 47]) ⟨aProduct_EZ2 p g2 g3 gr m l ww ++ [(74, (avStrs [(xA l m).name, (xA l m).name, ⟨#[]⟩, ⟨#[99, 49]⟩]))], [bxStr p a0 cap L (j + 3), (bA g2), .box g3 ⟨[avS ⟨#[112]⟩, avI ww, avI hg0, .v (.slice (some ⟨gr, 0, none⟩) l.length c)], 28, 4⟩, .box gr ⟨rowL l, 152, c * 5⟩], 0⟩ := by
            rw [hF]
            refine VA.all (rs := [15, 25, 35, 46, 53]) (by decide +kernel) (by decide) ?_
            refine ⟨⟨_, rfl, .inl rfl, ?_⟩, ⟨_, rfl, .inl rfl, ?_⟩, ⟨_, rfl, .inl rfl, ?_⟩, ⟨_, rfl, .inl rfl, ?_⟩, ⟨_, rfl, .inl rfl, ?_⟩, trivial⟩
            ·
              refine OpE.callHX (rest := [_, _, _]) txi_stab hGX rfl hB rfl Tryz.call79 rfl rfl (some_X (xs := [(xA l m).name, (xA l m).name, ⟨#[]⟩, ⟨#[99, 49]⟩]) (by omega) (by simp) hp0) (List.Perm.refl _) (fun b h => .inr ⟨by decide, blkStr h⟩) ?_
              rintro _ _ ⟨rfl, rfl⟩
              refine VA.le _ (Le.recast (t := 75) (y := avS r75) rfl (fun w Z u h => by rw [← e75]; exact h)) ?_
              have hh := hS46 
              rw [hF] at hh
              exact VA.to hh (by decide +kernel) (Le.mk hB [0, 1, 2, 3] (by repeat first | refine ⟨rfl, ?_⟩ | trivial) rfl rfl (Nat.le_refl _))
            ·
              refine bS rfl hB rfl (by decide) rfl rfl ?_
              refine VA.le _ (Le.lS (t := 85) (xs := [(xA l m).part, (xA l m).part, ⟨#[]⟩]) rfl rfl) ?_
              have hh := hS47 
              rw [hF] at hh
              exact VA.to hh (by decide +kernel) (Le.mk hB [0, 1, 2, 3] (by repeat first | refine ⟨rfl, ?_⟩ | trivial) rfl rfl (Nat.le_refl _))
            ·
              refine bI rfl hB rfl (by decide) rfl rfl ?_
              refine VA.le _ (Le.lI (t := 95) (xs := [(xA l m).x, -1, ww + 1]) rfl rfl) ?_
              have hh := hS48 
              rw [hF] at hh
              exact VA.to hh (by decide +kernel) (Le.mk hB [0, 1, 2, 3] (by repeat first | refine ⟨rfl, ?_⟩ | trivial) rfl rfl (Nat.le_refl _))
            ·
              refine bI rfl hB rfl (by decide) rfl rfl ?_
              refine VA.le _ (Le.lI (t := 106) (xs := [(xA l m).y, (xA l m).y, -1, 4611686018427387904]) rfl rfl) ?_
              have hh := hS49 
              rw [hF] at hh
              exact VA.to hh (by decide +kernel) (Le.mk hB [0, 1, 2, 3] (by repeat first | refine ⟨rfl, ?_⟩ | trivial) rfl rfl (Nat.le_refl _))
            ·
              refine bI rfl hB rfl (by decide) rfl rfl ?_
              refine VA.le _ (Le.lI (t := 113) (xs := [(xA l m).quarter, 4, -1]) rfl rfl) ?_
              have hh := hS50 
              rw [hF] at hh
              exact VA.to hh (by decide +kernel) (Le.mk hB [0, 1, 2, 3] (by repeat first | refine ⟨rfl, ?_⟩ | trivial) rfl rfl (Nat.le_refl _))
          have hS58 : F 24 (lsE 70 53 [14, 15, 26, 35, 36, 46, 47]) ⟨aProduct_EZ2 p g2 g3 gr m l ww ++ [(85, (avStrs [(xA l m).part, (xA l m).part, ⟨#[]⟩]))], [bxStr p a0 cap L (j + 3), (bA g2), .box g3 ⟨[avS ⟨#[112]⟩, avI ww, avI hg0, .v (.slice (some ⟨gr, 0, none⟩) l.length c)], 28, 4⟩, .box gr ⟨rowL l, 152, c * 5⟩], 0⟩ := by
            rw [hF]
            refine VA.all (rs := [14, 35, 46, 53]) (by decide +kernel) (by decide) ?_
            refine ⟨⟨_, rfl, .inl rfl, ?_⟩, ⟨_, rfl, .inl rfl, ?_⟩, ⟨_, rfl, .inl rfl, ?_⟩, ⟨_, rfl, .inl rfl, ?_⟩, trivial⟩
            ·
              refine bS rfl hB rfl (by decide) rfl rfl ?_
              refine VA.le _ (Le.lS (t := 74) (xs := [(xA l m).name, (xA l m).name, ⟨#[]⟩, ⟨#[99, 49]⟩]) rfl rfl) ?_
              have hh := hS47 
              rw [hF] at hh
              exact VA.to hh (by decide +kernel) (Le.mk hB [0, 1, 2, 3] (by repeat first | refine ⟨rfl, ?_⟩ | trivial) rfl rfl (Nat.le_refl _))
            ·
              refine bI rfl hB rfl (by decide) rfl rfl ?_
              refine VA.le _ (Le.lI (t := 95) (xs := [(xA l m).x, -1, ww + 1]) rfl rfl) ?_
              have hh := hS51 
              rw [hF] at hh
              exact VA.to hh (by decide +kernel) (Le.mk hB [0, 1, 2, 3] (by repeat first | refine ⟨rfl, ?_⟩ | trivial) rfl rfl (Nat.le_refl _))
            ·
              refine bI rfl hB rfl (by decide) rfl rfl ?_
              refine VA.le _ (Le.lI (t := 106) (xs := [(xA l m).y, (xA l m).y, -1, 4611686018427387904]) rfl rfl) ?_
              have hh := hS52 
              rw [hF] at hh
              exact VA.to hh (by decide +kernel) (Le.mk hB [0, 1, 2, 3] (by repeat first | refine ⟨rfl, ?_⟩ | trivial) rfl rfl (Nat.le_refl _))
            ·
              refine bI rfl hB rfl (by decide) rfl rfl ?_
              refine VA.le _ (Le.lI (t := 113) (xs := [(xA l m).quarter, 4, -1]) rfl rfl) ?_
              have hh := hS53 
              rw [hF] at hh
              exact VA.to hh (by decide +kernel) (Le.mk hB [0, 1, 2, 3] (by repeat first | refine ⟨rfl, ?_⟩ | trivial) rfl rfl (Nat.le_refl _))
          have hS59 : F 24 (lsE 70 53 [14, 15, 25, 26, 36, 46, 47]) ⟨aProduct_EZ2 p g2 g3 gr m l ww ++ [(95, (avInts [(xA l m).x, -1, ww + 1]))], [bxStr p a0 cap L (j + 3), (bA g2), .box g3 ⟨[avS ⟨#[112]⟩, avI ww, avI hg0, .v (.slice (some ⟨gr, 0, none⟩) l.length c)], 28, 4⟩, .box gr ⟨rowL l, 152, c * 5⟩], 0⟩ := by
            rw [hF]
            refine VA.all (rs := [14, 25, 46, 53]) (by decide +kernel) (by decide) ?_
            refine ⟨⟨_, rfl, .inl rfl, ?_⟩, ⟨_, rfl, .inl rfl, ?_⟩, ⟨_, rfl, .inl rfl, ?_⟩, ⟨_, rfl, .inl rfl, ?_⟩, trivial⟩
            ·
              refine bS rfl hB rfl (by decide) rfl rfl ?_
              refine VA.le _ (Le.lS (t := 74) (xs := [(xA l m).name, (xA l m).name, ⟨#[]⟩, ⟨#[99, 49]⟩]) rfl rfl) ?_
              have hh := hS48 
              rw [hF] at hh
              exact VA.to hh (by decide +kernel) (Le.mk hB [0, 1, 2, 3] (by repeat first | refine ⟨rfl, ?_⟩ | trivial) rfl rfl (Nat.le_refl _))
            ·
              refine bS rfl hB rfl (by decide) rfl rfl ?_
              refine VA.le _ (Le.lS (t := 85) (xs := [(xA l m).part, (xA l m).part, ⟨#[]⟩]) rfl rfl) ?_
              have hh := hS51 
              rw [hF] at hh
              exact VA.to hh (by decide +kernel) (Le.mk hB [0, 1, 2, 3] (by repeat first | refine ⟨rfl, ?_⟩ | trivial) rfl rfl (Nat.le_refl _))
            ·
              refine bI rfl hB rfl (by decide) rfl rfl ?_
              refine VA.le _ (Le.lI (t := 106) (xs := [(xA l m).y, (xA l m).y, -1, 4611686018427387904]) rfl rfl) ?_
              have hh := hS54 
              rw [hF] at hh
              exact VA.to hh (by decide +kernel) (Le.mk hB [0, 1, 2, 3] (by repeat first | refine ⟨rfl, ?_⟩ | trivial) rfl rfl (Nat.le_refl _))
            ·
              refine bI rfl hB rfl (by decide) rfl rfl ?_
              refine VA.le _ (Le.lI (t := 113) (xs := [(xA l m).quarter, 4, -1]) rfl rfl) ?_
              have hh := hS55 
              rw [hF] at hh
              exact VA.to hh (by decide +kernel) (Le.mk hB [0, 1, 2, 3] (by repeat first | refine ⟨rfl, ?_⟩ | trivial) rfl rfl (Nat.le_refl _))
          have hS60 : F 24 (lsE 70 53 [14, 15, 25, 26, 35, 36, 47]) ⟨aProduct_EZ2 p g2 g3 gr m l ww ++ [(106, (avInts [(xA l m).y, (xA l m).y, -1, 4611686018427387904]))], [bxStr p a0 cap L (j + 3), (bA g2), .box g3 ⟨[avS ⟨#[112]⟩, avI ww, avI hg0, .v (.slice (some ⟨gr, 0, none⟩) l.length c)], 28, 4⟩, .box gr ⟨rowL l, 152, c * 5⟩], 0⟩ := by
            rw [hF]
            refine VA.all (rs := [14, 25, 35, 53]) (by decide +kernel) (by decide) ?_
            refine ⟨⟨_, rfl, .inl rfl, ?_⟩, ⟨_, rfl, .inl rfl, ?_⟩, ⟨_, rfl, .inl rfl, ?_⟩, ⟨_, rfl, .inl rfl, ?_⟩, trivial⟩
            ·
              refine bS rfl hB rfl (by decide) rfl rfl ?_
              refine VA.le _ (Le.lS (t := 74) (xs := [(xA l m).name, (xA l m).name, ⟨#[]⟩, ⟨#[99, 49]⟩]) rfl rfl) ?_
              have hh := hS49 
              rw [hF] at hh
              exact VA.to hh (by decide +kernel) (Le.mk hB [0, 1, 2, 3] (by repeat first | refine ⟨rfl, ?_⟩ | trivial) rfl rfl (Nat.le_refl _))
            ·
              refine bS rfl hB rfl (by decide) rfl rfl ?_
              refine VA.le _ (Le.lS (t := 85) (xs := [(xA l m).part, (xA l m).part, ⟨#[]⟩]) rfl rfl) ?_
              have hh := hS52 
              rw [hF] at hh
              exact VA.to hh (by decide +kernel) (Le.mk hB [0, 1, 2, 3] (by repeat first | refine ⟨rfl, ?_⟩ | trivial) rfl rfl (Nat.le_refl _))
            ·
              refine bI rfl hB rfl (by decide) rfl rfl ?_
              refine VA.le _ (Le.lI (t := 95) (xs := [(xA l m).x, -1, ww + 1]) rfl rfl) ?_
              have hh := hS54 
              rw [hF] at hh
              exact VA.to hh (by decide +kernel) (Le.mk hB [0, 1, 2, 3] (by repeat first | refine ⟨rfl, ?_⟩ | trivial) rfl rfl (Nat.le_refl _))
            ·
              refine bI rfl hB rfl (by decide) rfl rfl ?_
              refine VA.le _ (Le.lI (t := 113) (xs := [(xA l m).quarter, 4, -1]) rfl rfl) ?_
              have hh := hS56 
              rw [hF] at hh
              exact VA.to hh (by decide +kernel) (Le.mk hB [0, 1, 2, 3] (by repeat first | refine ⟨rfl, ?_⟩ | trivial) rfl rfl (Nat.le_refl _))
          have hS61 : F 24 (lsE 70 54 [14, 15, 25, 26, 35, 36, 46, 47]) ⟨aProduct_EZ2 p g2 g3 gr m l ww ++ [(113, (avInts [(xA l m).quarter, 4, -1]))], [bxStr p a0 cap L (j + 3), (bA g2), .box g3 ⟨[avS ⟨#[112]⟩, avI ww, avI hg0, .v (.slice (some ⟨gr, 0, none⟩) l.length c)], 28, 4⟩, .box gr ⟨rowL l, 152, c * 5⟩], 0⟩ := by
            rw [hF]
            refine VA.all (rs := [14, 25, 35, 46]) (by decide +kernel) (by decide) ?_
            refine ⟨⟨_, rfl, .inl rfl, ?_⟩, ⟨_, rfl, .inl rfl, ?_⟩, ⟨_, rfl, .inl rfl, ?_⟩, ⟨_, rfl, .inl rfl, ?_⟩, trivial⟩
            ·
              refine bS rfl hB rfl (by decide) rfl rfl ?_
              refine VA.le _ (Le.lS (t := 74) (xs := [(xA l m).name, (xA l m).name, ⟨#[]⟩, ⟨#[99, 49]⟩]) rfl rfl) ?_
              have hh := hS50 
              rw [hF] at hh
              exact VA.to hh (by decide +kernel) (Le.mk hB [0, 1, 2, 3] (by repeat first | refine ⟨rfl, ?_⟩ | trivial) rfl rfl (Nat.le_refl _))
            ·
              refine bS rfl hB rfl (by decide) rfl rfl ?_
              refine VA.le _ (Le.lS (t := 85) (xs := [(xA l m).part, (xA l m).part, ⟨#[]⟩]) rfl rfl) ?_
              have hh := hS53 
              rw [hF] at hh
              exact VA.to hh (by decide +kernel) (Le.mk hB [0, 1, 2, 3] (by repeat first | refine ⟨rfl, ?_⟩ | trivial) rfl rfl (Nat.le_refl _))
            ·
              refine bI rfl hB rfl (by decide) rfl rfl ?_
              refine VA.le _ (Le.lI (t := 95) (xs := [(xA l m).x, -1, ww + 1]) rfl rfl) ?_
              have hh := hS55 
              rw [hF] at hh
              exact VA.to hh (by decide +kernel) (Le.mk hB [0, 1, 2, 3] (by repeat first | refine ⟨rfl, ?_⟩ | trivial) rfl rfl (Nat.le_refl _))
            ·
              refine bI rfl hB rfl (by decide) rfl rfl ?_
              refine VA.le _ (Le.lI (t := 106) (xs := [(xA l m).y, (xA l m).y, -1, 4611686018427387904]) rfl rfl) ?_
              have hh := hS56 
              rw [hF] at hh
              exact VA.to hh (by decide +kernel) (Le.mk hB [0, 1, 2, 3] (by repeat first | refine ⟨rfl, ?_⟩ | trivial) rfl rfl (Nat.le_refl _))
          have hS62 : F 25 (lsE 70 53 [14, 15, 25, 26, 35, 36, 46, 47]) ⟨aProduct_EZ2 p g2 g3 gr m l ww, [bxStr p a0 cap L (j + 3), (bA g2), .box g3 ⟨[avS ⟨#[112]⟩, avI ww, avI hg0, .v (.slice (some ⟨gr, 0, none⟩) l.length c)], 28, 4⟩, .box gr ⟨rowL l, 152, c * 5⟩], 0⟩ := by
            rw [hF]
            refine VA.all (rs := [14, 25, 35, 46, 53]) (by decide +kernel) (by decide) ?_
            refine ⟨⟨_, rfl, .inl rfl, ?_⟩, ⟨_, rfl, .inl rfl, ?_⟩, ⟨_, rfl, .inl rfl, ?_⟩, ⟨_, rfl, .inl rfl, ?_⟩, ⟨_, rfl, .inl rfl, ?_⟩, trivial⟩
            ·
              refine bS rfl hB rfl (by decide) rfl rfl ?_
              refine VA.le _ (Le.lS (t := 74) (xs := [(xA l m).name, (xA l m).name, ⟨#[]⟩, ⟨#[99, 49]⟩]) rfl rfl) ?_
              have hh := hS57 
              rw [hF] at hh
              exact VA.to hh (by decide +kernel) (Le.mk hB [0, 1, 2, 3] (by repeat first | refine ⟨rfl, ?_⟩ | trivial) rfl rfl (Nat.le_refl _))
            ·
              refine bS rfl hB rfl (by decide) rfl rfl ?_
              refine VA.le _ (Le.lS (t := 85) (xs := [(xA l m).part, (xA l m).part, ⟨#[]⟩]) rfl rfl) ?_
              have hh := hS58 
              rw [hF] at hh
              exact VA.to hh (by decide +kernel) (Le.mk hB [0, 1, 2, 3] (by repeat first | refine ⟨rfl, ?_⟩ | trivial) rfl rfl (Nat.le_refl _))
            ·
              refine bI rfl hB rfl (by decide) rfl rfl ?_
              refine VA.le _ (Le.lI (t := 95) (xs := [(xA l m).x, -1, ww + 1]) rfl rfl) ?_
              have hh := hS59 
              rw [hF] at hh
              exact VA.to hh (by decide +kernel) (Le.mk hB [0, 1, 2, 3] (by repeat first | refine ⟨rfl, ?_⟩ | trivial) rfl rfl (Nat.le_refl _))
            ·
              refine bI rfl hB rfl (by decide) rfl rfl ?_
              refine VA.le _ (Le.lI (t := 106) (xs := [(xA l m).y, (xA l m).y, -1, 4611686018427387904]) rfl rfl) ?_
              have hh := hS60 
              rw [hF] at hh
              exact VA.to hh (by decide +kernel) (Le.mk hB [0, 1, 2, 3] (by repeat first | refine ⟨rfl, ?_⟩ | trivial) rfl rfl (Nat.le_refl _))
            ·
              refine bI rfl hB rfl (by decide) rfl rfl ?_
              refine VA.le _ (Le.lI (t := 113) (xs := [(xA l m).quarter, 4, -1]) rfl rfl) ?_
              have hh := hS61 
              rw [hF] at hh
              exact VA.to hh (by decide +kernel) (Le.mk hB [0, 1, 2, 3] (by repeat first | refine ⟨rfl, ?_⟩ | trivial) rfl rfl (Nat.le_refl _))
          rw [hF]
          have hh := hS62 
          rw [hF] at hh
          exact VA.to hh (by decide +kernel) (Le.mk hB [0, 1, 2, 3] (by repeat first | refine ⟨rfl, ?_⟩ | trivial) rfl rfl (Nat.le_refl _))
        · have h4 := h4b
          try simp only [qq] at h4
          refine VC.skip ?_
          refine VC.seq ?_
          first | refine VC.le _ (Le.boxRow (i := 3) (n := l.length) (sz := 5) rfl (by simp only [rowL_len, List.length_set]; rfl) (by omega) (by omega)) ?_ | skip
          refine VC.region ?_
          refine VO.vv (OpV.loadK_own (i := 2) rfl hB Tryz.isAgg28 Tryz.sizeOf28 rfl rfl rfl (fun h => h)) ?_
          refine VO.le _ (Le.aggRow (t := 143) (j := 3) (i := 3) (y := avL l) hB hnew rfl rfl rfl (fun w Z u h => Rep.rowL rfl h)) ?_
          refine VO.op rfl (OpE.store (i := 1) rfl hB rfl Tryz.sizeOf28 rfl rfl rfl rfl rfl rfl (Nle rfl) trivial ?_)
          refine VO.nil ?_
          refine VC.le _ (Le.pickH [0, 1] rfl rfl) ?_
          refine VC.ret ?_
          exact Exists.intro _ (And.intro (RetV.one Tryz.results68 ((by first | exact ResV.cellK (i := 0) Tryz.isAgg28 Tryz.sizeOf28 rfl rfl rfl | exact ResV.cellK (i := 1) Tryz.isAgg28 Tryz.sizeOf28 rfl rfl rfl | exact ResV.cellK (i := 2) Tryz.isAgg28 Tryz.sizeOf28 rfl rfl rfl | exact ResV.cellK (i := 3) Tryz.isAgg28 Tryz.sizeOf28 rfl rfl rfl))) (by first | exact ⟨ap_o1 (hV.trans (prTail_0 (by omega))), _, ap_o2 (hV.trans (prTail_0 (by omega)))⟩ | exact ⟨ap_o1 (hV.trans (prTail_1 (by omega) (by omega) e129 e134 e139)), _, ap_o2 (hV.trans (prTail_1 (by omega) (by omega) e129 e134 e139))⟩ | exact ⟨ap_o1 (hV.trans (prTail_2 (by omega) (by omega) (by omega))), _, ap_o2 (hV.trans (prTail_2 (by omega) (by omega) (by omega)))⟩ | exact ⟨ap_o1 (hV.trans (prTail_3 (by omega) (by omega) (by omega) hm e75 e86 e96 e107 e114)), _, ap_o2 (hV.trans (prTail_3 (by omega) (by omega) (by omega) hm e75 e86 e96 e107 e114))⟩))
    · have h2 := h2b
      try simp only [qq] at h2
      refine VC.skip ?_
      refine VC.seq ?_
      first | refine VC.le _ (Le.boxRow (i := 3) (n := l.length) (sz := 5) rfl (by simp only [rowL_len, List.length_set]; rfl) (by omega) (by omega)) ?_ | skip
      refine VC.region ?_
      refine VO.vv (OpV.loadK_own (i := 2) rfl hB Tryz.isAgg28 Tryz.sizeOf28 rfl rfl rfl (fun h => h)) ?_
      refine VO.le _ (Le.aggRow (t := 143) (j := 3) (i := 3) (y := avL l) hB hnew rfl rfl rfl (fun w Z u h => Rep.rowL rfl h)) ?_
      refine VO.op rfl (OpE.store (i := 1) rfl hB rfl Tryz.sizeOf28 rfl rfl rfl rfl rfl rfl (Nle rfl) trivial ?_)
      refine VO.nil ?_
      refine VC.le _ (Le.pickH [0, 1] rfl rfl) ?_
      refine VC.ret ?_
      exact Exists.intro _ (And.intro (RetV.one Tryz.results68 ((by first | exact ResV.cellK (i := 0) Tryz.isAgg28 Tryz.sizeOf28 rfl rfl rfl | exact ResV.cellK (i := 1) Tryz.isAgg28 Tryz.sizeOf28 rfl rfl rfl | exact ResV.cellK (i := 2) Tryz.isAgg28 Tryz.sizeOf28 rfl rfl rfl | exact ResV.cellK (i := 3) Tryz.isAgg28 Tryz.sizeOf28 rfl rfl rfl))) (by first | exact ⟨ap_o1 (hV.trans (prTail_0 (by omega))), _, ap_o2 (hV.trans (prTail_0 (by omega)))⟩ | exact ⟨ap_o1 (hV.trans (prTail_1 (by omega) (by omega) e129 e134 e139)), _, ap_o2 (hV.trans (prTail_1 (by omega) (by omega) e129 e134 e139))⟩ | exact ⟨ap_o1 (hV.trans (prTail_2 (by omega) (by omega) (by omega))), _, ap_o2 (hV.trans (prTail_2 (by omega) (by omega) (by omega)))⟩ | exact ⟨ap_o1 (hV.trans (prTail_3 (by omega) (by omega) (by omega) hm e75 e86 e96 e107 e114)), _, ap_o2 (hV.trans (prTail_3 (by omega) (by omega) (by omega) hm e75 e86 e96 e107 e114))⟩))
end
section
structure BodyS where
 part : ByteArray
 wide : Int
 high : Int
instance : Inhabited BodyS := ⟨⟨ByteArray.empty, 0, 0⟩⟩
instance : Sxc BodyS where
 k := 3
 pos := by decide
 cell m j := match j with
  | 0 => avS m.part
  | 1 => avI m.wide
  | 2 => avI m.high
  | _ => .any
structure LyS where
 name : ByteArray
 left : Int
 right : Int
 lower : Int
 high : Int
instance : Inhabited LyS := ⟨⟨ByteArray.empty, 0, 0, 0, 0⟩⟩
instance : Sxc LyS where
 k := 5
 pos := by decide
 cell m j := match j with
  | 0 => avS m.name
  | 1 => avI m.left
  | 2 => avI m.right
  | 3 => avI m.lower
  | 4 => avI m.high
  | _ => .any
structure PairS where
 name : ByteArray
 value : ByteArray
instance : Inhabited PairS := ⟨⟨ByteArray.empty, ByteArray.empty⟩⟩
instance : Sxc PairS where
 k := 2
 pos := by decide
 cell m j := match j with
  | 0 => avS m.name
  | 1 => avS m.value
  | _ => .any
structure SmB (l : List BodyS) : Prop where
 len : l.length ≤ 1000000
 part : ∀ i, (l.getD i default).part.size ≤ 1000000
def bodyE (l : List BodyS) (i : Nat) : Int :=
 if keyF (l.getD i default).part = false then 5
 else if (outR (l.getD i default).wide 1 500000 || outR (l.getD i default).high 1 500000) = true then 1
 else if (decide (0 < i) && sLe (l.getD i default).part (l.getD (i - 1) default).part) = true then 7
 else 0
def bodiesF (l : List BodyS) : Int := if 500 < l.length then 2 else firstE (bodyE l) l.length
def gapF (n : Int) : Int := if outR n 0 500000 = true then 1 else 0
section
variable {l : List BodyS} {i : Nat}
theorem bodyE_5 (h : keyF (l.getD i default).part = false) : bodyE l i = 5 := by rw [bodyE, if_pos h]
theorem bodyE_1 (h : keyF (l.getD i default).part = true) (h1 : (outR (l.getD i default).wide 1 500000 || outR (l.getD i default).high 1 500000) = true) : bodyE l i = 1 := by rw [bodyE, if_neg (by rw [h]; simp), if_pos h1]
theorem bodyE_7 (h : keyF (l.getD i default).part = true) (h1 : (outR (l.getD i default).wide 1 500000 || outR (l.getD i default).high 1 500000) = false) (hi : 0 < i) (hs : sLe (l.getD i default).part (l.getD (i - 1) default).part = true) : bodyE l i = 7 := by
 rw [bodyE, if_neg (by rw [h]; simp), if_neg (by rw [h1]; simp), if_pos (by rw [hs, decide_eq_true hi]; rfl)]
theorem bodyE_0 (h : keyF (l.getD i default).part = true) (h1 : (outR (l.getD i default).wide 1 500000 || outR (l.getD i default).high 1 500000) = false) (hs : i = 0 ∨ sLe (l.getD i default).part (l.getD (i - 1) default).part = false) : bodyE l i = 0 := by
 rw [bodyE, if_neg (by rw [h]; simp), if_neg (by rw [h1]; simp), if_neg]
 rcases hs with rfl | hs
 ·simp
 ·rw [hs]; simp
theorem bodiesF_2 (h : 500 < l.length) : bodiesF l = 2 := by rw [bodiesF, if_pos h]
theorem bodiesF_at (h : l.length ≤ 500) {q : Nat} (hq : q < l.length) (hn : ∀ j, j < q → bodyE l j = 0) {e : Int} (he : bodyE l q = e) (h0 : e ≠ 0) : bodiesF l = e := by rw [bodiesF, if_neg (by omega), firstE_found hn (by rw [he]; exact h0) hq, he]
theorem bodiesF_ok (h : l.length ≤ 500) (hn : ∀ j, j < l.length → bodyE l j = 0) : bodiesF l = 0 := by rw [bodiesF, if_neg (by omega), firstE_none hn]
end
structure BodOk (l : List BodyS) : Prop where
 len : l.length ≤ 500
 all : ∀ j, j < l.length → bodyE l j = 0
theorem bodOk {l : List BodyS} (h : bodiesF l = 0) : BodOk l := by
 unfold bodiesF at h
 split at h
 ·cases h
 ·exact ⟨by omega, firstE_zero h⟩
theorem bodyE_zero {l : List BodyS} {i : Nat} (h : bodyE l i = 0) : ((1 ≤ (l.getD i default).wide ∧ (l.getD i default).wide ≤ 500000) ∧ 1 ≤ (l.getD i default).high ∧ (l.getD i default).high ≤ 500000) ∧ (i = 0 ∨ sLe (l.getD i default).part (l.getD (i - 1) default).part = false) := by
 unfold bodyE at h
 split at h
 ·cases h
 ·split at h
  ·cases h
  ·rename_i h1
   split at h
   ·cases h
   ·rename_i h2
    have h1' : (outR (l.getD i default).wide 1 500000 || outR (l.getD i default).high 1 500000) = false := by simpa using h1
    simp only [outR, Bool.or_eq_false_iff, decide_eq_false_iff_not] at h1'
    refine ⟨by omega, ?_⟩
    by_cases hi : i = 0
    ·exact .inl hi
    ·right
     cases hs : sLe (l.getD i default).part (l.getD (i - 1) default).part with
     | false => rfl
     | true => exact absurd (by rw [hs, decide_eq_true (by omega : 0 < i)]; rfl) h2
theorem placeE_zero {p : ProdS} {i : Nat} (h : placeE p i = 0) : (0 ≤ (p.places.getD i default).x ∧ (p.places.getD i default).x ≤ p.wide) ∧ (0 ≤ (p.places.getD i default).y ∧ (p.places.getD i default).y ≤ p.high) ∧ (0 ≤ (p.places.getD i default).quarter ∧ (p.places.getD i default).quarter ≤ 3) := by
 unfold placeE at h
 split at h
 ·cases h
 ·split at h
  ·cases h
  ·split at h
   ·cases h
   ·rename_i h1
    have h1' := Bool.not_eq_true _ ▸ h1
    simp only [outR, Bool.or_eq_true, decide_eq_true_eq, not_or] at h1
    omega
def bW (q : Int) (b : BodyS) : Int := if Int.tmod q 2 = 1 then b.high else b.wide
def bH (q : Int) (b : BodyS) : Int := if Int.tmod q 2 = 1 then b.wide else b.high
def lyOf (c : PlaceS) (b : BodyS) : LyS := ⟨c.name, 2 * c.x - bW c.quarter b, 2 * c.x + bW c.quarter b, 2 * c.y - bH c.quarter b, 2 * c.y + bH c.quarter b⟩
def bodM (l : List BodyS) : List (ByteArray × BodyS) := l.foldl (fun m x => mput m x.part x) []
theorem bodM_take {l : List BodyS} {q : Nat} (h : q < l.length) : bodM (l.take (q + 1)) = mput (bodM (l.take q)) (l.getD q default).part (l.getD q default) := by
 rw [take_snocD h default]; simp [bodM]
def lyO (b : List BodyS) (c : PlaceS) : Option LyS := (mget (bodM b) c.part).map (lyOf c)
def lyL (p : ProdS) (b : List BodyS) : List LyS := p.places.filterMap (lyO b)
theorem lyL_take {p : ProdS} {b : List BodyS} {q : Nat} (h : q < p.places.length) : (p.places.take (q + 1)).filterMap (lyO b) = (p.places.take q).filterMap (lyO b) ++ (match mget (bodM b) (p.places.getD q default).part with | some x => [lyOf (p.places.getD q default) x] | none => []) := by
 rw [take_snocD h default, List.filterMap_append]
 congr 1
 generalize p.places.getD q default = c
 rw [List.filterMap_cons, List.filterMap_nil]
 unfold lyO
 cases mget (bodM b) c.part <;> rfl
def bodsE (p : ProdS) (b : List BodyS) (n : Int) : Int := if prodF p ≠ 0 then prodF p else if bodiesF b ≠ 0 then bodiesF b else gapF n
def lyR (p : ProdS) (b : List BodyS) (n : Int) : List LyS := if bodsE p b n = 0 then lyL p b else []
def nearL (gap : Int) (x y : LyS) : Bool := decide (max (x.left - y.right) (y.left - x.right) < 2 * gap) && decide (max (x.lower - y.high) (y.lower - x.high) < 2 * gap)
def pairO (gap : Int) (x y : LyS) : Option PairS := if nearL gap x y = true then some ⟨x.name, y.name⟩ else none
def pairsR {α β : Type} [Inhabited α] (f : α → α → Option β) (l : List α) (q : Nat) : List β := (List.range q).flatMap fun i => (l.drop (i + 1)).filterMap (f (l.getD i default))
theorem pairsR_succ {α β : Type} [Inhabited α] (f : α → α → Option β) (l : List α) (q : Nat) : pairsR f l (q + 1) = pairsR f l q ++ (l.drop (q + 1)).filterMap (f (l.getD q default)) := by
 simp [pairsR, List.range_succ]
def pairsL {α β : Type} (f : α → α → Option β) : List α → List β
 | [] => []
 | x :: r => r.filterMap (f x) ++ pairsL f r
theorem pairsR_cons {α β : Type} [Inhabited α] (f : α → α → Option β) (x : α) (r : List α) : ∀ q, pairsR f (x :: r) (q + 1) = r.filterMap (f x) ++ pairsR f r q
 | 0 => by simp [pairsR]
 | q + 1 => by
  rw [pairsR_succ, pairsR_cons f x r q, pairsR_succ, List.append_assoc]
  simp
theorem pairsR_all {α β : Type} [Inhabited α] (f : α → α → Option β) : ∀ l : List α, pairsR f l l.length = pairsL f l
 | [] => rfl
 | x :: r => by rw [List.length_cons, pairsR_cons, pairsR_all f r]; rfl
end
section
structure SlotS where
 x : Int
 y : Int
 quarter : Int
 skip : Bool
instance : Inhabited SlotS := ⟨⟨0, 0, 0, false⟩⟩
instance : Sxc SlotS where
 k := 4
 pos := by decide
 cell m j := match j with
  | 0 => avI m.x
  | 1 => avI m.y
  | 2 => avI m.quarter
  | 3 => avB m.skip
  | _ => .any
structure PanS where
 wide : Int
 high : Int
 slots : List SlotS
abbrev avPan (n : PanS) : AV := .agg [avI n.wide, avI n.high, avL n.slots]
abbrev boxPan (g : Nat) (n : PanS) (ty : TypeId) : Ent := .box g ⟨[avI n.wide, avI n.high, avL n.slots], ty, 3⟩
structure IPair where
 a : Int
 b : Int
instance : Inhabited IPair := ⟨⟨0, 0⟩⟩
instance : Sxc IPair where
 k := 2
 pos := by decide
 cell m j := match j with
  | 0 => avI m.a
  | 1 => avI m.b
  | _ => .any
def slotB (s : SlotS) : Bool := outR s.x 0 500000 || (outR s.y 0 500000 || outR s.quarter 0 3)
def panF (n : PanS) : Int :=
 if (outR n.wide 1 500000 || outR n.high 1 500000) = true then 1
 else if 100 < n.slots.length then 2
 else if n.slots.any slotB = true then 1 else 0
def panelF (p : ProdS) (n : PanS) : Int := if prodF p ≠ 0 then prodF p else panF n
section
variable {n : PanS}
theorem panF_1 (h : (outR n.wide 1 500000 || outR n.high 1 500000) = true) : panF n = 1 := if_pos h
theorem panF_2 (h : (outR n.wide 1 500000 || outR n.high 1 500000) = false) (h2 : 100 < n.slots.length) : panF n = 2 := by rw [panF, if_neg (by rw [h]; simp), if_pos h2]
theorem panF_3 (h : (outR n.wide 1 500000 || outR n.high 1 500000) = false) (h2 : n.slots.length ≤ 100) {q : Nat} (hq : q < n.slots.length) (h3 : slotB (n.slots.getD q default) = true) : panF n = 1 := by
 rw [panF, if_neg (by rw [h]; simp), if_neg (by omega), if_pos]
 rw [List.any_eq_true]
 refine ⟨_, List.getElem_mem hq, ?_⟩
 rwa [List.getD_eq_getElem?_getD, List.getElem?_eq_getElem hq] at h3
theorem panF_0 (h : (outR n.wide 1 500000 || outR n.high 1 500000) = false) (h2 : n.slots.length ≤ 100) (hn : ∀ j, j < n.slots.length → slotB (n.slots.getD j default) = false) : panF n = 0 := by
 rw [panF, if_neg (by rw [h]; simp), if_neg (by omega), if_neg]
 rw [Bool.not_eq_true, List.any_eq_false]
 intro x hx
 obtain ⟨j, hj, rfl⟩ := List.getElem_of_mem hx
 have := hn j hj
 rw [List.getD_eq_getElem?_getD, List.getElem?_eq_getElem hj] at this
 simpa using this
structure PanOk (n : PanS) : Prop where
 wide : 1 ≤ n.wide ∧ n.wide ≤ 500000
 high : 1 ≤ n.high ∧ n.high ≤ 500000
 len : n.slots.length ≤ 100
 all : ∀ j, j < n.slots.length → (0 ≤ (n.slots.getD j default).x ∧ (n.slots.getD j default).x ≤ 500000) ∧ (0 ≤ (n.slots.getD j default).y ∧ (n.slots.getD j default).y ≤ 500000) ∧ 0 ≤ (n.slots.getD j default).quarter ∧ (n.slots.getD j default).quarter ≤ 3
theorem panOk (h : panF n = 0) : PanOk n := by
 unfold panF at h
 split at h
 ·cases h
 ·rename_i h1
  split at h
  ·cases h
  ·rename_i h2
   split at h
   ·cases h
   ·rename_i h3
    have h1' : (outR n.wide 1 500000 || outR n.high 1 500000) = false := by simpa using h1
    simp only [outR, Bool.or_eq_false_iff, decide_eq_false_iff_not] at h1'
    refine ⟨by omega, by omega, by omega, fun j hj => ?_⟩
    have h4 := Bool.not_eq_true _ ▸ h3
    rw [Bool.not_eq_true, List.any_eq_false] at h3
    have h5 := h3 _ (List.getElem_mem hj)
    rw [List.getD_eq_getElem?_getD, List.getElem?_eq_getElem hj]
    simp only [slotB, outR, Bool.or_eq_true, decide_eq_true_eq, not_or] at h5
    simp only [Option.getD_some]
    omega
end
theorem panelF_0 {p : ProdS} {n : PanS} (h : panelF p n = 0) : prodF p = 0 ∧ panF n = 0 := by
 unfold panelF at h
 split at h
 ·rename_i h1; exact absurd h h1
 ·exact ⟨by omega, h⟩
def szW (p : ProdS) (q : Int) : Int := if Int.tmod q 2 = 1 then p.high else p.wide
def szH (p : ProdS) (q : Int) : Int := if Int.tmod q 2 = 1 then p.wide else p.high
def ovO (p : ProdS) (a b : SlotS) : Bool := decide (a.x < b.x + szW p b.quarter) && (decide (b.x < a.x + szW p a.quarter) && (decide (a.y < b.y + szH p b.quarter) && decide (b.y < a.y + szH p a.quarter)))
def rowN {α : Type} [Inhabited α] (f : α → α → Bool) (l : List α) (i k : Nat) : List IPair := ((List.range' (i + 1) (k - (i + 1))).filter fun j => f (l.getD i default) (l.getD j default)).map fun j : Nat => ⟨(i : Int), (j : Int)⟩
theorem rowN_succ {α : Type} [Inhabited α] (f : α → α → Bool) (l : List α) {i k : Nat} (h : i < k) : rowN f l i (k + 1) = rowN f l i k ++ (if f (l.getD i default) (l.getD k default) = true then [⟨(i : Int), (k : Int)⟩] else []) := by
 unfold rowN
 rw [show k + 1 - (i + 1) = (k - (i + 1)) + 1 by omega, List.range'_1_concat, List.filter_append, List.map_append, show i + 1 + (k - (i + 1)) = k by omega]
 congr 1
 by_cases h : f (l.getD i default) (l.getD k default) = true
 ·rw [if_pos h, List.filter_cons_of_pos (p := fun j => f (l.getD i default) (l.getD j default)) h]; rfl
 ·rw [if_neg h, List.filter_cons_of_neg (p := fun j => f (l.getD i default) (l.getD j default)) h]; rfl
theorem rowN_len {α : Type} [Inhabited α] (f : α → α → Bool) (l : List α) (i k : Nat) : (rowN f l i k).length ≤ k := by
 unfold rowN
 have := List.length_filter_le (fun j => f (l.getD i default) (l.getD j default)) (List.range' (i + 1) (k - (i + 1)))
 simp only [List.length_map, List.length_range'] at this ⊢
 omega
theorem rowN_0 {α : Type} [Inhabited α] (f : α → α → Bool) (l : List α) (i : Nat) : rowN f l i (i + 1) = [] := by simp [rowN]
def pairN {α : Type} [Inhabited α] (f : α → α → Bool) (l : List α) (q : Nat) : List IPair := (List.range q).flatMap fun i => rowN f l i (max (i + 1) l.length)
theorem pairN_succ {α : Type} [Inhabited α] (f : α → α → Bool) (l : List α) (q : Nat) : pairN f l (q + 1) = pairN f l q ++ rowN f l q (max (q + 1) l.length) := by
 simp [pairN, List.range_succ]
theorem pairN_len {α : Type} [Inhabited α] (f : α → α → Bool) (l : List α) : ∀ q, q ≤ l.length → (pairN f l q).length ≤ q * l.length
 | 0, _ => by simp [pairN]
 | q + 1, h => by
  rw [pairN_succ, List.length_append, Nat.add_mul]
  have h1 := pairN_len f l q (by omega)
  have h2 := rowN_len f l q (max (q + 1) l.length)
  omega
def turnS (p : ProdS) (n : PanS) (s : SlotS) : SlotS := ⟨n.high - s.y - szH p s.quarter, s.x, Int.tmod (s.quarter + 1) 4, s.skip⟩
def turnP (p : ProdS) (n : PanS) : PanS := ⟨n.high, n.wide, n.slots.map (turnS p n)⟩
def turnE (p : ProdS) (n : PanS) : Int := if panelF p n ≠ 0 then panelF p n else panF (turnP p n)
def plX (p : ProdS) (q : Int) (x y : Int) : Int := if q = 0 then x else if q = 1 then p.high - y else if q = 2 then p.wide - x else y
def plY (p : ProdS) (q : Int) (x y : Int) : Int := if q = 0 then y else if q = 1 then x else if q = 2 then p.high - y else p.wide - x
theorem tmod2 {q : Int} (h : 0 ≤ q ∧ q ≤ 3) : Int.tmod q 2 = q % 2 := Int.tmod_eq_emod_of_nonneg (by omega)
end
section
theorem getD_setS {α : Type} {xs : List α} {q : Nat} {x d : α} (h : q < xs.length) : (xs.set q x).getD q d = x := by simp [h]
theorem sl_upd {a b : SlotS} {k : Nat} (h0 : k = 0 ∨ a.x = b.x) (h1 : k = 1 ∨ a.y = b.y) (h2 : k = 2 ∨ a.quarter = b.quarter) (h3 : k = 3 ∨ a.skip = b.skip) : ∀ i, i < 4 → i ≠ k → Sxc.cell a i = Sxc.cell b i := fun i hi hn => by
 match i, hi with
 | 0, _ => show avI a.x = avI b.x; rw [h0.resolve_left fun h => hn h.symm]
 | 1, _ => show avI a.y = avI b.y; rw [h1.resolve_left fun h => hn h.symm]
 | 2, _ => show avI a.quarter = avI b.quarter; rw [h2.resolve_left fun h => hn h.symm]
 | 3, _ => show avB a.skip = avB b.skip; rw [h3.resolve_left fun h => hn h.symm]
abbrev pB (g o : Nat) : AV := .v (.pointer (some ⟨g, o, none⟩))
abbrev xB (l : List SlotS) (m : Nat) : SlotS := l.getD m default
abbrev bB (g : Nat) : Ent := .box g ⟨[avI 0, avI 0, .v (.slice none 0 0)], 32, 3⟩
end
section
inductive EqFs (P : Program) : Nat → List Field → List AV → List AV → Bool → Prop where
 | nil (off : Nat) : EqFs P off [] [] [] true
 | int {off : Nat} {f : Field} {fs : List Field} {k k' : IntKind} {a b : Int} {xs ys : List AV} {r : Bool} (hu : P.underlying f.type = some (.int k')) (hag : ∀ w, (isAgg f.type).run P w = .ok false w) (ho : f.offset = off) (hn : f.name ≠ "_") (h : EqFs P (off + 1) fs xs ys r) :
   EqFs P off (f :: fs) (.v (.int k a) :: xs) (.v (.int k b) :: ys) (decide (a = b) && r)
 | str {off : Nat} {f : Field} {fs : List Field} {a b : ByteArray} {xs ys : List AV} {r : Bool} (hu : P.underlying f.type = some .string) (hag : ∀ w, (isAgg f.type).run P w = .ok false w) (ho : f.offset = off) (hn : f.name ≠ "_") (h : EqFs P (off + 1) fs xs ys r) :
   EqFs P off (f :: fs) (.v (.string a) :: xs) (.v (.string b) :: ys) (sEq a b && r)
 | bool {off : Nat} {f : Field} {fs : List Field} {a b : Bool} {xs ys : List AV} {r : Bool} (hu : P.underlying f.type = some .bool) (hag : ∀ w, (isAgg f.type).run P w = .ok false w) (ho : f.offset = off) (hn : f.name ≠ "_") (h : EqFs P (off + 1) fs xs ys r) :
   EqFs P off (f :: fs) (.v (.bool a) :: xs) (.v (.bool b) :: ys) ((a == b) && r)
theorem EqFs.run {P : Program} {w : World} {Z : Nat → Prop} {us vs : Array Value} {d : Nat} : ∀ {off : Nat} {fs : List Field} {xs ys : List AV} {r : Bool}, EqFs P off fs xs ys r →
  (∀ j, (h : j < xs.length) → off + j < us.size ∧ Rep w Z xs[j] (us.getD (off + j) undef)) → (∀ j, (h : j < ys.length) → off + j < vs.size ∧ Rep w Z ys[j] (vs.getD (off + j) undef)) → ∀ w', (Op.eqFields (d + 1) us vs fs).run P w' = .ok r w' := by
 intro off fs xs ys r h
 have cellP : ∀ (t : TypeId) (us : Array Value) (off : Nat) (v : Value) (w' : World), (∀ w, (isAgg t).run P w = .ok false w) → off < us.size → us.getD off undef = v → (part t us off).run P w' = .ok v w' := fun t us off v w' hag hl hv => by
  have : us[off]? = some v := by rw [← hv, Array.getD_eq_getD_getElem?, Array.getElem?_eq_getElem hl]; rfl
  simp [part, hag, this]
 have sh : ∀ n j : Nat, n + (j + 1) = n + 1 + j := fun n j => by omega
 induction h with
 | nil off => intro _ _ w'; rfl
 | int hu hag ho hn h ih =>
  intro h1 h2 w'
  obtain ⟨k1, k2⟩ := h1 0 (by simp)
  obtain ⟨k3, k4⟩ := h2 0 (by simp)
  subst ho
  have e1 := cellP _ us _ _ w' hag k1 k2.eq_v
  have e2 := cellP _ vs _ _ w' hag k3 k4.eq_v
  have ih' := ih (fun j hj => by have := h1 (j + 1) (by simpa using hj); rw [sh] at this; exact this) (fun j hj => by have := h2 (j + 1) (by simpa using hj); rw [sh] at this; exact this) w'
  simp only [Nat.add_zero] at e1 e2
  rename_i a b _ _ _
  have e3 := fun k => run_equalIn_int (P := P) w' d _ k _ a b hu
  simp only [Op.eqFields, hn, ne_eq, not_false_eq_true, if_true, Sem.run_bind, e1, e2, e3, Result.andThen_ok]
  by_cases hab : a = b
  ·subst hab; simpa using ih'
  ·simp [hab]
 | str hu hag ho hn h ih =>
  intro h1 h2 w'
  obtain ⟨k1, k2⟩ := h1 0 (by simp)
  obtain ⟨k3, k4⟩ := h2 0 (by simp)
  subst ho
  have e1 := cellP _ us _ _ w' hag k1 k2.eq_v
  have e2 := cellP _ vs _ _ w' hag k3 k4.eq_v
  have ih' := ih (fun j hj => by have := h1 (j + 1) (by simpa using hj); rw [sh] at this; exact this) (fun j hj => by have := h2 (j + 1) (by simpa using hj); rw [sh] at this; exact this) w'
  simp only [Nat.add_zero] at e1 e2
  rename_i a b _ _ _
  have e3 := run_equalIn_string (P := P) w' d _ a b hu
  simp only [Op.eqFields, hn, ne_eq, not_false_eq_true, if_true, Sem.run_bind, e1, e2, e3, Result.andThen_ok]
  cases hab : sEq a b with
  | true => unfold sEq at hab; rw [hab]; simpa using ih'
  | false => unfold sEq at hab; rw [hab]; simp
 | bool hu hag ho hn h ih =>
  intro h1 h2 w'
  obtain ⟨k1, k2⟩ := h1 0 (by simp)
  obtain ⟨k3, k4⟩ := h2 0 (by simp)
  subst ho
  have e1 := cellP _ us _ _ w' hag k1 k2.eq_v
  have e2 := cellP _ vs _ _ w' hag k3 k4.eq_v
  have ih' := ih (fun j hj => by have := h1 (j + 1) (by simpa using hj); rw [sh] at this; exact this) (fun j hj => by have := h2 (j + 1) (by simpa using hj); rw [sh] at this; exact this) w'
  simp only [Nat.add_zero] at e1 e2
  rename_i a b _ _ _
  have e3 := run_equalIn_bool' (P := P) w' d _ a b hu
  simp only [Op.eqFields, hn, ne_eq, not_false_eq_true, if_true, Sem.run_bind, e1, e2, e3, Result.andThen_ok]
  cases hab : (a == b) with
  | true => simpa using ih'
  | false => simp
section
variable {P : Program} {B : Bs} {W : Nat → Prop} {s : St'} {o : Oper}
theorem agg_eq {w : World} {Z : Nat → Prop} {t : TypeId} {xs ys : List AV} {u v : Value} {r : Bool} (hu : P.underlying t = some (.struct (P.fieldsOf t))) (hs : P.stoodInHeld t = false) (h : EqFs P 0 (P.fieldsOf t).toList xs ys r) (hx : Rep w Z (.agg xs) u) (hy : Rep w Z (.agg ys) v) :
  ∃ us vs, u = .agg us ∧ v = .agg vs ∧ ∀ w', (Op.equalIn 10000 t u v).run P w' = .ok r w' := by
 cases hx with
 | agg _ us l1 r1 =>
  cases hy with
  | agg _ vs l2 r2 =>
   refine ⟨us, vs, rfl, rfl, fun w' => ?_⟩
   rw [run_equalIn_struct w' 9999 t us vs hu hs]
   exact h.run (w := w) (Z := Z) (fun j hj => ⟨by omega, by rw [Nat.zero_add]; exact r1 j hj⟩) (fun j hj => ⟨by omega, by rw [Nat.zero_add]; exact r2 j hj⟩) w'
theorem OpV.aneq {x y : Operand} {t u : TypeId} {xs ys : List AV} {r : Bool} (ho : o.op = .binOp .neq t x y u) (hu : P.underlying t = some (.struct (P.fieldsOf t))) (hs : P.stoodInHeld t = false) (hg : P.eqGuardType P.depth t = false)
  (hx : evO s x = some (.agg xs)) (hy : evO s y = some (.agg ys)) (h : EqFs P 0 (P.fieldsOf t).toList xs ys r) : OpV P B W s o (avB (!r)) := fun a w hr => by
 obtain ⟨us, vs, e1, e2, e3⟩ := agg_eq hu hs h (hr.ev hx) (hr.ev hy)
 rw [e1, e2] at e3
 refine ⟨_, fun w' _ => ?_, .v _⟩
 simp only [execOp, ho, e1, e2, Sem.run_bind, run_eqGuard_agg w' _ t x y us vs hg, run_neq_struct, e3, Result.andThen_ok, Sem.run_pure]
end
end
section
theorem panel_isSize {n : Int}  :
  SpecN Tryz.prog 160 [avI n] (fun y => y = avB (!outR n 1 500000)) := by
 refine SpecN.of_VCN Tryz.func160 rfl Tryz.ntmps160 (Nle rfl) fun w A hB => ?_
 refine VC.sr ?_
 refine VO.mb ?_
 refine VO.nil ?_
 refine VC.sr ?_
 refine VO.mw ?_
 refine VO.op rfl (OpE.call rfl hB rfl Tryz.call161 rfl (SpecN.spec (kit_Outside)) ?_)
 rintro _ rfl
 refine VO.vv (OpV.not rfl rfl) ?_
 refine VO.mb ?_
 refine VO.nil ?_
 refine VC.ret ?_
 exact Exists.intro _ (And.intro (RetN.one Tryz.results160 (ResN.v rfl)) (rfl))
theorem panel_placementFault {p : ProdS} {i : Nat} (hs : SmP p) (hi : i < p.places.length) :
    SpecN Tryz.prog 231 [avProd p, avI (i : Int)] (fun y => y = avI (placeE p i)) := by
  refine SpecN.of_VCN Tryz.func231 rfl Tryz.ntmps231 (Nle rfl) fun w A hB => ?_
  refine VC.seq ?_
  have hl := hs.len
  refine VC.region ?_
  refine VO.op rfl (OpE.box rfl hB rfl rfl rfl ?_)
  intro g2
  refine VO.mb ?_
  refine VO.nil ?_
  refine VC.sr ?_
  refine VO.vv (OpV.fieldAddrO 3 rfl Tryz.underlying28 rfl rfl Tryz.sizeOf26 rfl) ?_
  refine VO.vv (OpV.load_own (i := 0) rfl hB Tryz.isAgg26 rfl rfl rfl (fun h => h)) ?_
  refine VO.mw ?_
  refine VO.vv (OpV.indexAddr_E rfl Tryz.underlying26 Tryz.sizeOf152 rfl rfl rfl (by omega)) ?_
  refine VO.vv (OpV.loadK_at rfl hB OutW.no Tryz.isAgg152 Tryz.sizeOf152 rfl rfl) ?_
  refine VO.op rfl (OpE.alloc rfl hB rfl Tryz.zeroValue152 rfl ?_)
  intro g5
  refine VO.op rfl (OpE.store (i := 1) rfl hB rfl Tryz.sizeOf152 rfl rfl rfl rfl rfl rfl (Nle rfl) trivial ?_)
  refine VO.nil ?_
  refine VC.seq ?_
  refine VC.block ?_
  refine VC.sr ?_
  refine VO.vv (OpV.fieldAddrO 0 rfl Tryz.underlying152 rfl rfl Tryz.sizeOf9 rfl) ?_
  refine VO.vv (OpV.load_own (i := 1) rfl hB Tryz.isAgg9 rfl rfl rfl (fun h => h)) ?_
  refine VO.op rfl (OpE.call rfl hB rfl Tryz.call230 rfl (SpecN.spec (kit_IsKey (by have := hs.name i; omega))) ?_)
  rintro _ rfl
  refine VO.vv (OpV.not rfl rfl) ?_
  refine VO.mw ?_
  refine VO.opG rfl rfl rfl rfl (fun aK1b => ?_) (fun aK1b => ?_)
  · replace aK1b : _ = false := aK1b
    have aK1 := aK1b
    try simp only [qq] at aK1
    refine OpE.val (W := NoB) (OpV.fieldAddrO 1 rfl Tryz.underlying152 rfl rfl Tryz.sizeOf9 rfl) rfl ?_
    refine VO.opY rfl rfl rfl rfl aK1b ?_
    refine OpE.val (W := NoB) (OpV.load_own (i := 1) rfl hB Tryz.isAgg9 rfl rfl rfl (fun h => h)) rfl ?_
    refine VO.opY rfl rfl rfl rfl aK1b ?_
    refine OpE.call rfl hB rfl Tryz.call230 rfl (SpecN.spec (kit_IsKey (by have := hs.part i; omega))) ?_
    rintro _ rfl
    refine VO.opY rfl rfl rfl rfl aK1b ?_
    refine OpE.val (W := NoB) (OpV.not rfl rfl) rfl ?_
    refine VO.vv (OpV.pickF rfl rfl rfl rfl aK1b) ?_
    refine VO.mb ?_
    refine VO.nil ?_
    refine VC.cond rfl (fun aH2b => ?_) (fun aH2b => ?_)
    · have aH2 := aH2b
      try simp only [qq] at aH2
      refine VC.sr ?_
      refine VO.mb ?_
      refine VO.nil ?_
      refine VC.ret ?_
      exact Exists.intro _ (And.intro (RetN.one Tryz.results231 (ResN.v rfl)) (by first | rw [placeE_5a (by assumption)] | rw [placeE_5b (by assumption)]))
    · have aH2 := aH2b
      try simp only [qq] at aH2
      refine VC.seq ?_
      refine VC.draw (fun _ => NoB) hB (by kernel_rfl) ?_
      refine VA.tk (i := 0) rfl (OpV.move (.inl rfl) rfl) ?_
      refine VA.tk (i := 1) rfl (OpV.gtr rfl rfl rfl) ?_
      refine VA.tk (i := 2) rfl (OpV.move (.inl rfl) rfl) ?_
      refine VA.split (t := 25) rfl (fun aK3b => ?_) (fun aK3b => ?_)
      · have aK3 := aK3b
        try simp only [qq] at aK3
        refine VA.takeY (i := 3) rfl (by kernel_rfl) (by kernel_rfl) (by kernel_rfl) rfl rfl rfl rfl aK3b (OpV.fieldAddrO 0 rfl Tryz.underlying152 rfl rfl Tryz.sizeOf9 rfl) ?_
        refine VA.takeY (i := 4) rfl (by kernel_rfl) (by kernel_rfl) (by kernel_rfl) rfl rfl rfl rfl aK3b (OpV.load_own (i := 1) rfl hB Tryz.isAgg9 rfl rfl rfl Wi.not0) ?_
        refine VA.takeY (i := 5) rfl (by kernel_rfl) (by kernel_rfl) (by kernel_rfl) rfl rfl rfl rfl aK3b (OpV.fieldAddrO 3 rfl Tryz.underlying28 rfl rfl Tryz.sizeOf26 rfl) ?_
        refine VA.takeY (i := 6) rfl (by kernel_rfl) (by kernel_rfl) (by kernel_rfl) rfl rfl rfl rfl aK3b (OpV.load_own (i := 0) rfl hB Tryz.isAgg26 rfl rfl rfl Wi.not0) ?_
        refine VA.takeY (i := 7) rfl (by kernel_rfl) (by kernel_rfl) (by kernel_rfl) rfl rfl rfl rfl aK3b (OpV.move (.inl rfl) rfl) ?_
        refine VA.takeY (i := 8) rfl (by kernel_rfl) (by kernel_rfl) (by kernel_rfl) rfl rfl rfl rfl aK3b (OpV.sub rfl rfl rfl (by unfold fits; omega)) ?_
        refine VA.takeY (i := 9) rfl (by kernel_rfl) (by kernel_rfl) (by kernel_rfl) rfl rfl rfl rfl aK3b (OpV.indexAddr_E rfl Tryz.underlying26 Tryz.sizeOf152 rfl rfl (show ((i : Int) - 1) = ((i - 1 : Nat) : Int) by omega) (by omega)) ?_
        refine VA.takeY (i := 10) rfl (by kernel_rfl) (by kernel_rfl) (by kernel_rfl) rfl rfl rfl rfl aK3b (OpV.fieldAddr_atO 0 rfl Tryz.underlying152 rfl rfl Tryz.sizeOf9 rfl rfl) ?_
        refine VA.takeY (i := 11) rfl (by kernel_rfl) (by kernel_rfl) (by kernel_rfl) rfl rfl rfl rfl aK3b (OpV.load_at rfl hB OutW.wi0 Tryz.isAgg9 rfl rfl) ?_
        refine VA.takeY (i := 12) rfl (by kernel_rfl) (by kernel_rfl) (by kernel_rfl) rfl rfl rfl rfl aK3b (OpV.sleq rfl rfl rfl) ?_
        refine VA.tk (i := 13) rfl (OpV.pickT rfl rfl rfl rfl aK3b) ?_
        refine VA.tk (i := 14) rfl (OpV.move (.inr rfl) rfl) ?_
        refine VA.done (by kernel_rfl) ?_
        refine VC.cond rfl (fun aH4b => ?_) (fun aH4b => ?_)
        · have aH4 := aH4b
          try simp only [qq] at aH4
          refine VC.sr ?_
          refine VO.mb ?_
          refine VO.nil ?_
          refine VC.ret ?_
          exact Exists.intro _ (And.intro (RetN.one Tryz.results231 (ResN.v rfl)) (by rw [placeE_7 (by assumption) (by assumption) (by omega) (by assumption)]))
        · have aH4 := aH4b
          try simp only [qq] at aH4
          refine VC.sr ?_
          refine VO.vv (OpV.fieldAddrO 2 rfl Tryz.underlying152 rfl rfl Tryz.sizeOf3 rfl) ?_
          refine VO.vv (OpV.load_own (i := 1) rfl hB Tryz.isAgg3 rfl rfl rfl (fun h => h)) ?_
          refine VO.vv (OpV.fieldAddrO 1 rfl Tryz.underlying28 rfl rfl Tryz.sizeOf3 rfl) ?_
          refine VO.vv (OpV.load_own (i := 0) rfl hB Tryz.isAgg3 rfl rfl rfl (fun h => h)) ?_
          refine VO.op rfl (OpE.call rfl hB rfl Tryz.call161 rfl (SpecN.spec (kit_Outside)) ?_)
          rintro _ rfl
          refine VO.mw ?_
          refine VO.opG rfl rfl rfl rfl (fun aK5b => ?_) (fun aK5b => ?_)
          · replace aK5b : _ = false := aK5b
            have aK5 := aK5b
            try simp only [qq] at aK5
            refine OpE.val (W := NoB) (OpV.fieldAddrO 3 rfl Tryz.underlying152 rfl rfl Tryz.sizeOf3 rfl) rfl ?_
            refine VO.opY rfl rfl rfl rfl aK5b ?_
            refine OpE.val (W := NoB) (OpV.load_own (i := 1) rfl hB Tryz.isAgg3 rfl rfl rfl (fun h => h)) rfl ?_
            refine VO.opY rfl rfl rfl rfl aK5b ?_
            refine OpE.val (W := NoB) (OpV.fieldAddrO 2 rfl Tryz.underlying28 rfl rfl Tryz.sizeOf3 rfl) rfl ?_
            refine VO.opY rfl rfl rfl rfl aK5b ?_
            refine OpE.val (W := NoB) (OpV.load_own (i := 0) rfl hB Tryz.isAgg3 rfl rfl rfl (fun h => h)) rfl ?_
            refine VO.opY rfl rfl rfl rfl aK5b ?_
            refine OpE.call rfl hB rfl Tryz.call161 rfl (SpecN.spec (kit_Outside)) ?_
            rintro _ rfl
            refine VO.vv (OpV.pickF rfl rfl rfl rfl aK5b) ?_
            refine VO.mw ?_
            refine VO.opG rfl rfl rfl rfl (fun aK6b => ?_) (fun aK6b => ?_)
            · replace aK6b : _ = false := aK6b
              have aK6 := aK6b
              try simp only [qq] at aK6
              refine OpE.val (W := NoB) (OpV.fieldAddrO 4 rfl Tryz.underlying152 rfl rfl Tryz.sizeOf3 rfl) rfl ?_
              refine VO.opY rfl rfl rfl rfl aK6b ?_
              refine OpE.val (W := NoB) (OpV.load_own (i := 1) rfl hB Tryz.isAgg3 rfl rfl rfl (fun h => h)) rfl ?_
              refine VO.opY rfl rfl rfl rfl aK6b ?_
              refine OpE.call rfl hB rfl Tryz.call161 rfl (SpecN.spec (kit_Outside)) ?_
              rintro _ rfl
              refine VO.vv (OpV.pickF rfl rfl rfl rfl aK6b) ?_
              refine VO.mb ?_
              refine VO.nil ?_
              refine VC.cond rfl (fun aH7b => ?_) (fun aH7b => ?_)
              · have aH7 := aH7b
                try simp only [qq] at aH7
                refine VC.sr ?_
                refine VO.mb ?_
                refine VO.nil ?_
                refine VC.ret ?_
                exact Exists.intro _ (And.intro (RetN.one Tryz.results231 (ResN.v rfl)) (by first | rw [placeE_1 (by assumption) (by assumption) (by first | (left; omega) | (right; assumption)) (by first | exact or3a (by assumption) | exact or3b (by assumption) | exact or3c (by assumption))]))
              · have aH7 := aH7b
                try simp only [qq] at aH7
                refine VC.skip ?_
                refine VC.sr ?_
                refine VO.mb ?_
                refine VO.nil ?_
                refine VC.ret ?_
                exact Exists.intro _ (And.intro (RetN.one Tryz.results231 (ResN.v rfl)) (by rw [placeE_0 (by assumption) (by assumption) (by first | (left; omega) | (right; assumption)) (or3f (by assumption) (by assumption) (by assumption))]))
            · replace aK6b : _ = true := aK6b
              have aK6 := aK6b
              try simp only [qq] at aK6
              refine VO.opX rfl rfl rfl rfl aK6b ?_
              refine VO.opX rfl rfl rfl rfl aK6b ?_
              refine VO.vv (OpV.pickT rfl rfl rfl rfl aK6b) ?_
              refine VO.mb ?_
              refine VO.nil ?_
              refine VC.condT rfl rfl ?_
              refine VC.sr ?_
              refine VO.mb ?_
              refine VO.nil ?_
              refine VC.ret ?_
              exact Exists.intro _ (And.intro (RetN.one Tryz.results231 (ResN.v rfl)) (by first | rw [placeE_1 (by assumption) (by assumption) (by first | (left; omega) | (right; assumption)) (by first | exact or3a (by assumption) | exact or3b (by assumption) | exact or3c (by assumption))]))
          · replace aK5b : _ = true := aK5b
            have aK5 := aK5b
            try simp only [qq] at aK5
            refine VO.opX rfl rfl rfl rfl aK5b ?_
            refine VO.opX rfl rfl rfl rfl aK5b ?_
            refine VO.opX rfl rfl rfl rfl aK5b ?_
            refine VO.opX rfl rfl rfl rfl aK5b ?_
            refine VO.vv (OpV.pickT rfl rfl rfl rfl aK5b) ?_
            refine VO.mw ?_
            refine VO.opX rfl rfl rfl rfl rfl ?_
            refine VO.opX rfl rfl rfl rfl rfl ?_
            refine VO.opX rfl rfl rfl rfl rfl ?_
            refine VO.vv (OpV.pickT rfl rfl rfl rfl rfl) ?_
            refine VO.mb ?_
            refine VO.nil ?_
            refine VC.condT rfl rfl ?_
            refine VC.sr ?_
            refine VO.mb ?_
            refine VO.nil ?_
            refine VC.ret ?_
            exact Exists.intro _ (And.intro (RetN.one Tryz.results231 (ResN.v rfl)) (by first | rw [placeE_1 (by assumption) (by assumption) (by first | (left; omega) | (right; assumption)) (by first | exact or3a (by assumption) | exact or3b (by assumption) | exact or3c (by assumption))]))
      · have aK3 := aK3b
        try simp only [qq] at aK3
        refine VA.takeX (i := 3) rfl (by kernel_rfl) (by kernel_rfl) (by kernel_rfl) rfl rfl rfl rfl aK3b ?_
        refine VA.takeX (i := 4) rfl (by kernel_rfl) (by kernel_rfl) (by kernel_rfl) rfl rfl rfl rfl aK3b ?_
        refine VA.takeX (i := 5) rfl (by kernel_rfl) (by kernel_rfl) (by kernel_rfl) rfl rfl rfl rfl aK3b ?_
        refine VA.takeX (i := 6) rfl (by kernel_rfl) (by kernel_rfl) (by kernel_rfl) rfl rfl rfl rfl aK3b ?_
        refine VA.takeX (i := 7) rfl (by kernel_rfl) (by kernel_rfl) (by kernel_rfl) rfl rfl rfl rfl aK3b ?_
        refine VA.takeX (i := 8) rfl (by kernel_rfl) (by kernel_rfl) (by kernel_rfl) rfl rfl rfl rfl aK3b ?_
        refine VA.takeX (i := 9) rfl (by kernel_rfl) (by kernel_rfl) (by kernel_rfl) rfl rfl rfl rfl aK3b ?_
        refine VA.takeX (i := 10) rfl (by kernel_rfl) (by kernel_rfl) (by kernel_rfl) rfl rfl rfl rfl aK3b ?_
        refine VA.takeX (i := 11) rfl (by kernel_rfl) (by kernel_rfl) (by kernel_rfl) rfl rfl rfl rfl aK3b ?_
        refine VA.takeX (i := 12) rfl (by kernel_rfl) (by kernel_rfl) (by kernel_rfl) rfl rfl rfl rfl aK3b ?_
        refine VA.tk (i := 13) rfl (OpV.pickF rfl rfl rfl rfl aK3b) ?_
        refine VA.tk (i := 14) rfl (OpV.move (.inr rfl) rfl) ?_
        refine VA.done (by kernel_rfl) ?_
        refine VC.condF rfl rfl ?_
        refine VC.sr ?_
        refine VO.vv (OpV.fieldAddrO 2 rfl Tryz.underlying152 rfl rfl Tryz.sizeOf3 rfl) ?_
        refine VO.vv (OpV.load_own (i := 1) rfl hB Tryz.isAgg3 rfl rfl rfl (fun h => h)) ?_
        refine VO.vv (OpV.fieldAddrO 1 rfl Tryz.underlying28 rfl rfl Tryz.sizeOf3 rfl) ?_
        refine VO.vv (OpV.load_own (i := 0) rfl hB Tryz.isAgg3 rfl rfl rfl (fun h => h)) ?_
        refine VO.op rfl (OpE.call rfl hB rfl Tryz.call161 rfl (SpecN.spec (kit_Outside)) ?_)
        rintro _ rfl
        refine VO.mw ?_
        refine VO.opG rfl rfl rfl rfl (fun aK8b => ?_) (fun aK8b => ?_)
        · replace aK8b : _ = false := aK8b
          have aK8 := aK8b
          try simp only [qq] at aK8
          refine OpE.val (W := NoB) (OpV.fieldAddrO 3 rfl Tryz.underlying152 rfl rfl Tryz.sizeOf3 rfl) rfl ?_
          refine VO.opY rfl rfl rfl rfl aK8b ?_
          refine OpE.val (W := NoB) (OpV.load_own (i := 1) rfl hB Tryz.isAgg3 rfl rfl rfl (fun h => h)) rfl ?_
          refine VO.opY rfl rfl rfl rfl aK8b ?_
          refine OpE.val (W := NoB) (OpV.fieldAddrO 2 rfl Tryz.underlying28 rfl rfl Tryz.sizeOf3 rfl) rfl ?_
          refine VO.opY rfl rfl rfl rfl aK8b ?_
          refine OpE.val (W := NoB) (OpV.load_own (i := 0) rfl hB Tryz.isAgg3 rfl rfl rfl (fun h => h)) rfl ?_
          refine VO.opY rfl rfl rfl rfl aK8b ?_
          refine OpE.call rfl hB rfl Tryz.call161 rfl (SpecN.spec (kit_Outside)) ?_
          rintro _ rfl
          refine VO.vv (OpV.pickF rfl rfl rfl rfl aK8b) ?_
          refine VO.mw ?_
          refine VO.opG rfl rfl rfl rfl (fun aK9b => ?_) (fun aK9b => ?_)
          · replace aK9b : _ = false := aK9b
            have aK9 := aK9b
            try simp only [qq] at aK9
            refine OpE.val (W := NoB) (OpV.fieldAddrO 4 rfl Tryz.underlying152 rfl rfl Tryz.sizeOf3 rfl) rfl ?_
            refine VO.opY rfl rfl rfl rfl aK9b ?_
            refine OpE.val (W := NoB) (OpV.load_own (i := 1) rfl hB Tryz.isAgg3 rfl rfl rfl (fun h => h)) rfl ?_
            refine VO.opY rfl rfl rfl rfl aK9b ?_
            refine OpE.call rfl hB rfl Tryz.call161 rfl (SpecN.spec (kit_Outside)) ?_
            rintro _ rfl
            refine VO.vv (OpV.pickF rfl rfl rfl rfl aK9b) ?_
            refine VO.mb ?_
            refine VO.nil ?_
            refine VC.cond rfl (fun aH10b => ?_) (fun aH10b => ?_)
            · have aH10 := aH10b
              try simp only [qq] at aH10
              refine VC.sr ?_
              refine VO.mb ?_
              refine VO.nil ?_
              refine VC.ret ?_
              exact Exists.intro _ (And.intro (RetN.one Tryz.results231 (ResN.v rfl)) (by first | rw [placeE_1 (by assumption) (by assumption) (by first | (left; omega) | (right; assumption)) (by first | exact or3a (by assumption) | exact or3b (by assumption) | exact or3c (by assumption))]))
            · have aH10 := aH10b
              try simp only [qq] at aH10
              refine VC.skip ?_
              refine VC.sr ?_
              refine VO.mb ?_
              refine VO.nil ?_
              refine VC.ret ?_
              exact Exists.intro _ (And.intro (RetN.one Tryz.results231 (ResN.v rfl)) (by rw [placeE_0 (by assumption) (by assumption) (by first | (left; omega) | (right; assumption)) (or3f (by assumption) (by assumption) (by assumption))]))
          · replace aK9b : _ = true := aK9b
            have aK9 := aK9b
            try simp only [qq] at aK9
            refine VO.opX rfl rfl rfl rfl aK9b ?_
            refine VO.opX rfl rfl rfl rfl aK9b ?_
            refine VO.vv (OpV.pickT rfl rfl rfl rfl aK9b) ?_
            refine VO.mb ?_
            refine VO.nil ?_
            refine VC.condT rfl rfl ?_
            refine VC.sr ?_
            refine VO.mb ?_
            refine VO.nil ?_
            refine VC.ret ?_
            exact Exists.intro _ (And.intro (RetN.one Tryz.results231 (ResN.v rfl)) (by first | rw [placeE_1 (by assumption) (by assumption) (by first | (left; omega) | (right; assumption)) (by first | exact or3a (by assumption) | exact or3b (by assumption) | exact or3c (by assumption))]))
        · replace aK8b : _ = true := aK8b
          have aK8 := aK8b
          try simp only [qq] at aK8
          refine VO.opX rfl rfl rfl rfl aK8b ?_
          refine VO.opX rfl rfl rfl rfl aK8b ?_
          refine VO.opX rfl rfl rfl rfl aK8b ?_
          refine VO.opX rfl rfl rfl rfl aK8b ?_
          refine VO.vv (OpV.pickT rfl rfl rfl rfl aK8b) ?_
          refine VO.mw ?_
          refine VO.opX rfl rfl rfl rfl rfl ?_
          refine VO.opX rfl rfl rfl rfl rfl ?_
          refine VO.opX rfl rfl rfl rfl rfl ?_
          refine VO.vv (OpV.pickT rfl rfl rfl rfl rfl) ?_
          refine VO.mb ?_
          refine VO.nil ?_
          refine VC.condT rfl rfl ?_
          refine VC.sr ?_
          refine VO.mb ?_
          refine VO.nil ?_
          refine VC.ret ?_
          exact Exists.intro _ (And.intro (RetN.one Tryz.results231 (ResN.v rfl)) (by first | rw [placeE_1 (by assumption) (by assumption) (by first | (left; omega) | (right; assumption)) (by first | exact or3a (by assumption) | exact or3b (by assumption) | exact or3c (by assumption))]))
  · replace aK1b : _ = true := aK1b
    have aK1 := aK1b
    try simp only [qq] at aK1
    refine VO.opX rfl rfl rfl rfl aK1b ?_
    refine VO.opX rfl rfl rfl rfl aK1b ?_
    refine VO.opX rfl rfl rfl rfl aK1b ?_
    refine VO.vv (OpV.pickT rfl rfl rfl rfl aK1b) ?_
    refine VO.mb ?_
    refine VO.nil ?_
    refine VC.condT rfl rfl ?_
    refine VC.sr ?_
    refine VO.mb ?_
    refine VO.nil ?_
    refine VC.ret ?_
    exact Exists.intro _ (And.intro (RetN.one Tryz.results231 (ResN.v rfl)) (by first | rw [placeE_5a (by assumption)] | rw [placeE_5b (by assumption)]))
theorem panel_CheckProduct {p : ProdS} (hs : SmP p) :
  SpecN Tryz.prog 159 [avProd p] (fun y => y = avI (prodF p)) := by
 refine SpecN.of_VCN Tryz.func159 rfl Tryz.ntmps159 (Nle rfl) fun w A hB => ?_
 refine VC.seq ?_
 have hl := hs.len
 refine VC.region ?_
 refine VO.op rfl (OpE.box rfl hB rfl rfl rfl ?_)
 intro g1
 refine VO.mb ?_
 refine VO.nil ?_
 refine VC.seq ?_
 refine VC.block ?_
 refine VC.sr ?_
 refine VO.vv (OpV.fieldAddrO 0 rfl Tryz.underlying28 rfl rfl Tryz.sizeOf9 rfl) ?_
 refine VO.vv (OpV.load_own (i := 0) rfl hB Tryz.isAgg9 rfl rfl rfl (fun h => h)) ?_
 refine VO.op rfl (OpE.call rfl hB rfl Tryz.call230 rfl (SpecN.spec (kit_IsKey (by have := hs.key; omega))) ?_)
 rintro _ rfl
 refine VO.vv (OpV.not rfl rfl) ?_
 refine VO.mb ?_
 refine VO.nil ?_
 refine VC.cond rfl (fun k0b => ?_) (fun k0b => ?_)
 ·have k0 := k0b
  try simp only [qq] at k0
  refine VC.sr ?_
  refine VO.mb ?_
  refine VO.nil ?_
  refine VC.ret ?_
  exact Exists.intro _ (And.intro (RetN.one Tryz.results159 (ResN.v rfl)) (by rw [prodF_5 (by assumption)]))
 ·have k0 := k0b
  try simp only [qq] at k0
  refine VC.sr ?_
  refine VO.vv (OpV.fieldAddrO 1 rfl Tryz.underlying28 rfl rfl Tryz.sizeOf3 rfl) ?_
  refine VO.vv (OpV.load_own (i := 0) rfl hB Tryz.isAgg3 rfl rfl rfl (fun h => h)) ?_
  refine VO.op rfl (OpE.call rfl hB rfl Tryz.call160 rfl (SpecN.spec (panel_isSize)) ?_)
  rintro _ rfl
  refine VO.vv (OpV.not rfl rfl) ?_
  refine VO.mw ?_
  refine VO.opG rfl rfl rfl rfl (fun aK1b => ?_) (fun aK1b => ?_)
  ·replace aK1b : _ = false := aK1b
   have aK1 := aK1b
   try simp only [qq] at aK1
   refine OpE.val (W := NoB) (OpV.fieldAddrO 2 rfl Tryz.underlying28 rfl rfl Tryz.sizeOf3 rfl) rfl ?_
   refine VO.opY rfl rfl rfl rfl aK1b ?_
   refine OpE.val (W := NoB) (OpV.load_own (i := 0) rfl hB Tryz.isAgg3 rfl rfl rfl (fun h => h)) rfl ?_
   refine VO.opY rfl rfl rfl rfl aK1b ?_
   refine OpE.call rfl hB rfl Tryz.call160 rfl (SpecN.spec (panel_isSize)) ?_
   rintro _ rfl
   refine VO.opY rfl rfl rfl rfl aK1b ?_
   refine OpE.val (W := NoB) (OpV.not rfl rfl) rfl ?_
   refine VO.vv (OpV.pickF rfl rfl rfl rfl aK1b) ?_
   refine VO.mb ?_
   refine VO.nil ?_
   refine VC.cond rfl (fun k1b => ?_) (fun k1b => ?_)
   ·have k1 := k1b
    try simp only [qq] at k1
    refine VC.sr ?_
    refine VO.mb ?_
    refine VO.nil ?_
    refine VC.ret ?_
    exact Exists.intro _ (And.intro (RetN.one Tryz.results159 (ResN.v rfl)) (by first | rw [prodF_1 k0 (or2a (by assumption))] | rw [prodF_1 k0 (or2b (by assumption))]))
   ·have k1 := k1b
    try simp only [qq] at k1
    refine VC.sr ?_
    refine VO.vv (OpV.fieldAddrO 3 rfl Tryz.underlying28 rfl rfl Tryz.sizeOf26 rfl) ?_
    refine VO.vv (OpV.load_own (i := 0) rfl hB Tryz.isAgg26 rfl rfl rfl (fun h => h)) ?_
    refine VO.vv (OpV.len_im rfl Tryz.underlying26 rfl) ?_
    refine VO.vv (OpV.gtr rfl rfl rfl) ?_
    refine VO.mb ?_
    refine VO.nil ?_
    refine VC.cond rfl (fun k2b => ?_) (fun k2b => ?_)
    ·have k2 := k2b
     try simp only [qq] at k2
     refine VC.sr ?_
     refine VO.mb ?_
     refine VO.nil ?_
     refine VC.ret ?_
     exact Exists.intro _ (And.intro (RetN.one Tryz.results159 (ResN.v rfl)) (by rw [prodF_2 k0 (or2f (by assumption) (by assumption)) (by omega)]))
    ·have k2 := k2b
     try simp only [qq] at k2
     refine VC.skip ?_
     refine VC.seq ?_
     refine VC.sr ?_
     refine VO.vv (OpV.fieldAddrO 3 rfl Tryz.underlying28 rfl rfl Tryz.sizeOf26 rfl) ?_
     refine VO.vv (OpV.load_own (i := 0) rfl hB Tryz.isAgg26 rfl rfl rfl (fun h => h)) ?_
     refine VO.vv (OpV.len_im rfl Tryz.underlying26 rfl) ?_
     refine VO.mw ?_
     refine VO.nil ?_
     refine VC.block ?_
     refine VC.loopK [(1, _), (28, _)] ⟨rfl, rfl, trivial⟩ ({q : Nat // q ≤ p.places.length ∧ ∀ j, j < q → placeE p j = 0}) (fun (iZ : {q : Nat // q ≤ p.places.length ∧ ∀ j, j < q → placeE p j = 0}) => match iZ with | ⟨q, hq, hn⟩ => [(29, avI (q : Int))]) (fun (iZ : {q : Nat // q ≤ p.places.length ∧ ∀ j, j < q → placeE p j = 0}) => match iZ with | ⟨q, hq, hn⟩ => [boxProd g1 p 28]) (fun (iZ : {q : Nat // q ≤ p.places.length ∧ ∀ j, j < q → placeE p j = 0}) => match iZ with | ⟨q, hq, hn⟩ => 0) (fun (iZ : {q : Nat // q ≤ p.places.length ∧ ∀ j, j < q → placeE p j = 0}) => match iZ with | ⟨q, hq, hn⟩ => p.places.length - q) ⟨0, Nat.zero_le _, fun j hj => absurd hj (Nat.not_lt_zero j)⟩ (Le.mk hB [0] ⟨rfl, rfl, rfl, trivial⟩ rfl rfl (Nat.le_refl _)) ?_
     rintro ⟨q, hq, hn⟩
     show VC _ _ _ _ ⟨[(29, avI (q : Int))] ++ [(1, _), (28, _)], [boxProd g1 p 28], 0⟩
     refine VC.sr ?_
     refine VO.vv (OpV.lss rfl rfl rfl) ?_
     refine VO.nil ?_
     refine VC.seq ?_
     refine VC.cond rfl (fun aH2b => ?_) (fun aH2b => ?_)
     ·have aH2 := aH2b
      try simp only [qq] at aH2
      refine VC.skip ?_
      refine VC.seq ?_
      refine VC.block ?_
      refine VC.sr ?_
      refine VO.mw ?_
      refine VO.mb ?_
      refine VO.nil ?_
      refine VC.sr ?_
      refine VO.vv (OpV.loadK_own (i := 0) rfl hB Tryz.isAgg28 Tryz.sizeOf28 rfl rfl rfl (fun h => h)) ?_
      refine VO.mw ?_
      refine VO.op rfl (OpE.call rfl hB rfl Tryz.call231 rfl (SpecN.spec (panel_placementFault hs (by omega))) ?_)
      rintro _ rfl
      refine VO.mb ?_
      refine VO.nil ?_
      refine VC.sr ?_
      refine VO.mw ?_
      refine VO.vv (OpV.neq rfl rfl rfl) ?_
      refine VO.nil ?_
      refine VC.cond rfl (fun k4b => ?_) (fun k4b => ?_)
      ·have k4 := k4b
       try simp only [qq] at k4
       refine VC.sr ?_
       refine VO.mw ?_
       refine VO.mb ?_
       refine VO.nil ?_
       refine VC.ret ?_
       exact Exists.intro _ (And.intro (RetN.one Tryz.results159 (ResN.v rfl)) (by rw [prodF_at k0 (or2f (by assumption) (by assumption)) (by omega) (by omega) hn rfl k4]))
      ·have k4 := k4b
       try simp only [qq] at k4
       refine VC.skip ?_
       refine VC.region ?_
       refine VO.vv (OpV.add rfl rfl rfl (by unfold fits; omega)) ?_
       refine VO.mw ?_
       refine VO.nil ?_
       exact Exists.intro (⟨q + 1, by omega, lt_succ_cases hn ((by omega))⟩) (And.intro (Le.mk hB [0] ⟨rfl, rfl, rfl, trivial⟩ rfl rfl (Nat.le_refl _)) (by first | omega | (show _ < _; omega) | (simp only []; omega)))
     ·have aH2 := aH2b
      try simp only [qq] at aH2
      refine VC.exit ?_
      refine VC.sr ?_
      refine VO.mb ?_
      refine VO.nil ?_
      refine VC.ret ?_
      exact Exists.intro _ (And.intro (RetN.one Tryz.results159 (ResN.v rfl)) (by rw [prodF_ok k0 (or2f (by assumption) (by assumption)) (by omega) (fun j hj => hn j (by omega))]))
  ·replace aK1b : _ = true := aK1b
   have aK1 := aK1b
   try simp only [qq] at aK1
   refine VO.opX rfl rfl rfl rfl aK1b ?_
   refine VO.opX rfl rfl rfl rfl aK1b ?_
   refine VO.opX rfl rfl rfl rfl aK1b ?_
   refine VO.vv (OpV.pickT rfl rfl rfl rfl aK1b) ?_
   refine VO.mb ?_
   refine VO.nil ?_
   refine VC.condT rfl rfl ?_
   refine VC.sr ?_
   refine VO.mb ?_
   refine VO.nil ?_
   refine VC.ret ?_
   exact Exists.intro _ (And.intro (RetN.one Tryz.results159 (ResN.v rfl)) (by first | rw [prodF_1 k0 (or2a (by assumption))] | rw [prodF_1 k0 (or2b (by assumption))]))
end
section
abbrev kvS : ByteArray → Value := fun k => Value.string k
abbrev eI : Int → AV := fun n => avI n
theorem flat_need (xs : List NeedS) : FlatA (rowL xs) := flat_rowL (fun x j hj => by
 match j, hj with
 | 0, _ => exact ⟨_, rfl⟩
 | 1, _ => exact ⟨_, rfl⟩) xs
theorem cnt_key_small {p : ProdS} (hs : SmP p) (q : Nat) : ∀ x ∈ cntP (p.places.take q), x.1.size ≤ maxLen := fun x hx => by
 have : x.1 ∈ (cntP (p.places.take q)).map (·.1) := List.mem_map.2 ⟨x, hx, rfl⟩
 obtain ⟨y, hy, e⟩ := cntP_mem.1 this
 obtain ⟨j, hj, rfl⟩ := List.getElem_of_mem hy
 rw [← e]
 have h1 := hs.part j
 simp only [List.length_take] at hj
 rw [List.getElem_take]
 rw [List.getD_eq_getElem?_getD, List.getElem?_eq_getElem (by omega)] at h1
 simp only [maxLen]
 exact Nat.le_trans h1 (by decide)
theorem needs_take {p : ProdS} {r : Nat} (h : r < (sKeys (cntP p.places)).length) : (needsL p).take (r + 1) = (needsL p).take r ++ [⟨(sKeys (cntP p.places)).getD r ByteArray.empty, mgetD (cntP p.places) ((sKeys (cntP p.places)).getD r ByteArray.empty) 0⟩] := by
 rw [take_snocD (by simpa [needsL] using h) default]
 congr 2
 simp [needsL, List.getD_eq_getElem?_getD, h]
set_option maxHeartbeats 4000000 in
theorem panel_Needs {p : ProdS} (hs : SmP p) :
  SpecN Tryz.prog 83 [avProd p] (fun y => y = .tup [avL (needsR p), avI (prodF p)]) := by
 refine SpecN.of_VCN Tryz.func83 rfl Tryz.ntmps83 (Nle rfl) fun w A hB => ?_
 have hnew : True := trivial
 refine VC.seq ?_
 have hl := hs.len
 refine VC.region ?_
 refine VO.op rfl (OpE.box rfl hB rfl rfl rfl ?_)
 intro g1
 refine VO.mb ?_
 refine VO.mb ?_
 refine VO.nil ?_
 refine VC.seq ?_
 refine VC.sr ?_
 refine VO.vv (OpV.loadK_own (i := 0) rfl hB Tryz.isAgg28 Tryz.sizeOf28 rfl rfl rfl (fun h => h)) ?_
 refine VO.op rfl (OpE.call rfl hB rfl Tryz.call159 rfl (SpecN.spec (panel_CheckProduct hs)) ?_)
 rintro _ rfl
 refine VO.mb ?_
 refine VO.nil ?_
 refine VC.sr ?_
 refine VO.mw ?_
 refine VO.vv (OpV.neq rfl rfl rfl) ?_
 refine VO.nil ?_
 refine VC.cond rfl (fun h0b => ?_) (fun h0b => ?_)
 ·have h0 := h0b
  try simp only [qq] at h0
  refine VC.sr ?_
  refine VO.mw ?_
  refine VO.mb ?_
  refine VO.mb ?_
  refine VO.nil ?_
  refine VC.ret ?_
  exact Exists.intro _ (And.intro (RetN.two Tryz.results83 (ResN.nilE rfl) (ResN.v rfl)) (by first | (rw [needsR, if_neg h0]; rfl) | (rw [needsR, if_pos h00, h00])))
 ·have h0 := h0b
  try simp only [qq] at h0
  have h00 : prodF p = 0 := by omega
  have hok := prodOk h00
  have hlen := hok.len
  refine VC.skip ?_
  refine VC.sr ?_
  refine VO.op rfl (OpE.makeMap (kvS) (eI) rfl hB rfl ?_)
  intro g16
  refine VO.mb ?_
  refine VO.nil ?_
  refine VC.seq ?_
  refine VC.sr ?_
  refine VO.vv (OpV.fieldAddrO 3 rfl Tryz.underlying28 rfl rfl Tryz.sizeOf26 rfl) ?_
  refine VO.vv (OpV.load_own (i := 0) rfl hB Tryz.isAgg26 rfl rfl rfl (fun h => h)) ?_
  refine VO.vv (OpV.len_im rfl Tryz.underlying26 rfl) ?_
  refine VO.mw ?_
  refine VO.nil ?_
  refine VC.block ?_
  refine VC.loopK [(5, _), (18, _), (19, _)] ⟨rfl, rfl, rfl, trivial⟩ ({q : Nat // q ≤ p.places.length}) (fun (iZ : {q : Nat // q ≤ p.places.length}) => match iZ with | ⟨q, hq⟩ => [(20, avI (q : Int))]) (fun (iZ : {q : Nat // q ≤ p.places.length}) => match iZ with | ⟨q, hq⟩ => [boxProd g1 p 28, mapE kvS g16 eI (cntP (p.places.take q))]) (fun (iZ : {q : Nat // q ≤ p.places.length}) => match iZ with | ⟨q, hq⟩ => 0) (fun (iZ : {q : Nat // q ≤ p.places.length}) => match iZ with | ⟨q, hq⟩ => p.places.length - q) ⟨0, Nat.zero_le _⟩ (Le.mk hB [0, 1] ⟨rfl, rfl, rfl, rfl, trivial⟩ rfl rfl (Nat.le_refl _)) ?_
  rintro ⟨q, hq⟩
  show VC _ _ _ _ ⟨[(20, avI (q : Int))] ++ [(5, _), (18, _), (19, _)], [boxProd g1 p 28, mapE kvS g16 eI (cntP (p.places.take q))], 0⟩
  refine VC.sr ?_
  refine VO.vv (OpV.lss rfl rfl rfl) ?_
  refine VO.nil ?_
  refine VC.seq ?_
  refine VC.cond rfl (fun aH1b => ?_) (fun aH1b => ?_)
  ·have aH1 := aH1b
   try simp only [qq] at aH1
   refine VC.skip ?_
   refine VC.seq ?_
   refine VC.block ?_
   refine VC.sr ?_
   refine VO.vv (OpV.indexAddr_E rfl Tryz.underlying26 Tryz.sizeOf152 rfl rfl rfl (by omega)) ?_
   refine VO.vv (OpV.loadK_at rfl hB OutW.no Tryz.isAgg152 Tryz.sizeOf152 rfl rfl) ?_
   refine VO.op rfl (OpE.alloc rfl hB rfl Tryz.zeroValue152 rfl ?_)
   intro g7
   refine VO.op rfl (OpE.store (i := 2) rfl hB rfl Tryz.sizeOf152 rfl rfl rfl rfl rfl rfl (Nle rfl) trivial ?_)
   refine VO.nil ?_
   refine VC.region ?_
   refine VO.mw ?_
   refine VO.vv (OpV.fieldAddrO 1 rfl Tryz.underlying152 rfl rfl Tryz.sizeOf9 rfl) ?_
   refine VO.vv (OpV.load_own (i := 2) rfl hB Tryz.isAgg9 rfl rfl rfl (fun h => h)) ?_
   refine VO.vv (OpV.lookup_own (i := 1) rfl hB Tryz.underlying208 (KeyOk.str Tryz.underlying9) Tryz.zeroValue3 rfl (KeyE.v rfl) rfl (fun h => h)) ?_
   refine VO.le _ (Le.recast (t := 27) (y := avI (mgetD (cntP (p.places.take q)) (p.places.getD q default).part 0)) rfl (fun w Z u h => by unfold mgetD; revert h; cases mget (cntP (p.places.take q)) (p.places.getD q default).part <;> exact id)) ?_
   refine VO.vv (OpV.add rfl rfl rfl (by have h := cntP_bd (p.places.take q) (p.places.getD q default).part; have h2 := List.length_take_le q p.places; unfold fits; omega)) ?_
   refine VO.op rfl (OpE.mapUpdate (i := 1) (xx := mgetD (cntP (p.places.take q)) (p.places.getD q default).part 0 + 1) rfl hB rfl Tryz.underlying208 (KeyOk.str Tryz.underlying9) rfl (KeyE.v rfl) rfl rfl trivial ?_)
   refine VO.nil ?_
   refine VC.region ?_
   refine VO.vv (OpV.add rfl rfl rfl (by unfold fits; omega)) ?_
   refine VO.mw ?_
   refine VO.nil ?_
   exact Exists.intro (⟨q + 1, by omega⟩) (And.intro (Le.mk hB [0, 1] ⟨rfl, rfl, rfl, rfl, trivial⟩ rfl (by dsimp only; rw [cntP_take (by omega)]; rfl) (Nat.le_refl _)) (by first | omega | (show _ < _; omega) | (simp only []; omega)))
  ·have aH1 := aH1b
   try simp only [qq] at aH1
   refine VC.exit ?_
   refine VC.seq ?_
   have hqe : p.places.take q = p.places := List.take_of_length_le (by omega)
   rw [hqe]
   have hcl := cntP_len p.places
   refine VC.region ?_
   refine VO.mb ?_
   refine VO.nil ?_
   refine VC.seq ?_
   refine VC.sr ?_
   refine VO.mw ?_
   refine VO.op rfl (OpE.callH rfl hB rfl Tryz.call165 rfl rfl (maps_Keys_int (some g16)) (List.Perm.refl _) (fun _ _ => trivial) ?_)
   rintro _ _ ⟨g31, rfl, rfl⟩
   refine VO.op rfl (OpE.callH (rest := [_]) rfl hB rfl Tryz.call140 rfl rfl (slices_Sorted_int (l := cntP p.places) (E := eI) (cntP_nodup _) (by have := cnt_key_small hs p.places.length; rwa [List.take_length] at this) (by omega)) (List.Perm.cons _ (List.Perm.swap _ _ _)) (fun _ _ => trivial) ?_)
   rintro _ _ ⟨u32, rfl, rfl⟩
   refine VO.le _ (Le.rowS (t := 32) (i := 0) hB hnew rfl rfl (sKeys_len _).symm) ?_
   obtain ⟨m, hm⟩ : ∃ m, cntP p.places = m := ⟨_, rfl⟩
   obtain ⟨ks, hks⟩ : ∃ ks, sKeys (cntP p.places) = ks := ⟨_, rfl⟩
   have hkl : ks.length = (cntP p.places).length := by rw [← hks, sKeys_len]
   rw [hks]
   refine VO.vv (OpV.len_im rfl Tryz.underlying82 rfl) ?_
   refine VO.mw ?_
   refine VO.nil ?_
   refine VC.block ?_
   refine VC.le _ (Le.nilRow 2 90) ?_
   refine VC.loopK [(5, _), (32, _), (33, _)] ⟨rfl, rfl, rfl, trivial⟩ ({z : Value × Nat // z.2 ≤ ks.length}) (fun (iZ : {z : Value × Nat // z.2 ≤ ks.length}) => match iZ with | ⟨⟨u, r⟩, hr⟩ => [(8, .v u), (34, avI (r : Int))]) (fun (iZ : {z : Value × Nat // z.2 ≤ ks.length}) => match iZ with | ⟨⟨u, r⟩, hr⟩ => [mapE kvS g16 eI (cntP p.places), .row u r 2 (rowL ((needsL p).take r)) 90]) (fun (iZ : {z : Value × Nat // z.2 ≤ ks.length}) => match iZ with | ⟨⟨u, r⟩, hr⟩ => 0) (fun (iZ : {z : Value × Nat // z.2 ≤ ks.length}) => match iZ with | ⟨⟨u, r⟩, hr⟩ => ks.length - r) ⟨(.slice none 0 0, 0), Nat.zero_le _⟩ (Le.mk hB [1, 3] ⟨rfl, rfl, rfl, rfl, rfl, trivial⟩ rfl rfl (Nat.le_refl _)) ?_
   rintro ⟨⟨u, r⟩, hr⟩
   show VC _ _ _ _ ⟨[(8, .v u), (34, avI (r : Int))] ++ [(5, _), (32, _), (33, _)], [mapE kvS g16 eI (cntP p.places), .row u r 2 (rowL ((needsL p).take r)) 90], 0⟩
   simp only at hr
   refine VC.sr ?_
   refine VO.vv (OpV.lss rfl rfl rfl) ?_
   refine VO.nil ?_
   refine VC.seq ?_
   refine VC.cond rfl (fun aH2b => ?_) (fun aH2b => ?_)
   ·have aH2 := aH2b
    try simp only [qq] at aH2
    refine VC.skip ?_
    refine VC.seq ?_
    refine VC.block ?_
    refine VC.sr ?_
    refine VO.vv (OpV.indexAddr_1 rfl Tryz.underlying82 Tryz.sizeOf9 rfl rfl rfl (by omega)) ?_
    refine VO.vv (OpV.load_at rfl hB OutW.no Tryz.isAgg9 rfl rfl) ?_
    refine VO.mb ?_
    refine VO.nil ?_
    refine VC.region ?_
    refine VO.mw ?_
    refine VO.mw ?_
    refine VO.mw ?_
    refine VO.mw ?_
    refine VO.vv (OpV.lookup_own (i := 0) rfl hB Tryz.underlying208 (KeyOk.str Tryz.underlying9) Tryz.zeroValue3 rfl (KeyE.v rfl) rfl (fun h => h)) ?_
    refine VO.le _ (Le.recast (t := 42) (y := avI (mgetD (cntP p.places) (ks.getD r ByteArray.empty) 0)) rfl (fun w Z u h => by unfold mgetD; revert h; cases mget (cntP p.places) (ks.getD r ByteArray.empty) <;> exact id)) ?_
    refine VO.vv (OpV.build (pls := #[(0, 1), (1, 1)]) rfl Tryz.zeroValue90 Tryz.underlying90 (fun w => by kernel_rfl) rfl rfl) ?_
    refine VO.op rfl (OpE.buildSlice (zc := #[.string ⟨#[]⟩, .int .i64 0]) rfl hB rfl Tryz.underlying68 Tryz.sizeOf90 Tryz.zeroValue90 (by decide) (by decide) (by kernel_rfl) rfl rfl ?_)
    refine VO.op rfl (OpE.append1 (i := 1) rfl hB rfl Tryz.underlying68 (infoOf Tryz.t90 2 (by kernel_rfl) rfl rfl) rfl (by decide) (by decide) rfl rfl rfl rfl (rowL_snoc _ (⟨ks.getD r ByteArray.empty, mgetD (cntP p.places) (ks.getD r ByteArray.empty) 0⟩ : NeedS)) (by omega) (fun _ _ => trivial) ?_)
    intro u2
    refine VO.mb ?_
    refine VO.nil ?_
    refine VC.region ?_
    refine VO.vv (OpV.add rfl rfl rfl (by unfold fits; omega)) ?_
    refine VO.mw ?_
    refine VO.nil ?_
    exact Exists.intro (⟨(u2, r + 1), by show r + 1 ≤ _; omega⟩) (And.intro (Le.mk hB [0, 1] ⟨rfl, rfl, rfl, rfl, rfl, trivial⟩ rfl (by dsimp only; rw [needs_take (by rw [hks]; omega), hks]; rfl) (Nat.le_refl _)) (by first | omega | (show _ < _; omega) | (simp only []; omega)))
   ·have aH2 := aH2b
    try simp only [qq] at aH2
    refine VC.exit ?_
    refine VC.seq ?_
    have hre : r = (needsL p).length := by rw [needsL_len]; omega
    have hrt : (needsL p).take r = needsL p := List.take_of_length_le (by omega)
    rw [hrt]
    refine VC.region ?_
    refine VO.mw ?_
    refine VO.mb ?_
    refine VO.mb ?_
    refine VO.nil ?_
    refine VC.ret ?_
    exact Exists.intro _ (And.intro (RetN.two Tryz.results83 (ResN.rowT (i := 1) (xs := needsL p) rfl rfl hre (flat_need _)) (ResN.v rfl)) (by first | (rw [needsR, if_neg h0]; rfl) | (rw [needsR, if_pos h00, h00])))
end
section
def lastP (p : ProdS) (q : Nat) : ByteArray := if q = 0 then ⟨#[]⟩ else (p.places.getD (q - 1) default).name
theorem lastP_succ (p : ProdS) (q : Nat) : lastP p (q + 1) = (p.places.getD q default).name := by simp [lastP]
theorem placeE_7' {p : ProdS} {i : Nat} (h1 : keyF (p.places.getD i default).name = true) (h2 : keyF (p.places.getD i default).part = true) (hs : sLe (p.places.getD i default).name (lastP p i) = true) : placeE p i = 7 := by
 by_cases hq : i = 0
 ·rw [lastP, if_pos hq, sLe_empty h1] at hs; cases hs
 ·rw [lastP, if_neg hq] at hs; exact placeE_7 h1 h2 (by omega) hs
theorem lastP_ne {p : ProdS} {i : Nat} (hs : sLe (p.places.getD i default).name (lastP p i) = false) : i = 0 ∨ sLe (p.places.getD i default).name (p.places.getD (i - 1) default).name = false := by
 by_cases hq : i = 0
 ·exact .inl hq
 ·rw [lastP, if_neg hq] at hs; exact .inr hs
theorem oin {n a b : Int} {v : Bool} (h : (!(decide (a ≤ n) && decide (n ≤ b))) = v) : outR n a b = v := (outR_in n a b).trans h
theorem rf_ProductFault {p : ProdS} (hs : SmP p) :
    SpecN Tryz.prog 69 [avProd p] (fun y => y = avI (prodF p)) := by
  refine SpecN.of_VCN Tryz.func69 rfl Tryz.ntmps69 (Nle rfl) fun w A hB => ?_
  refine VC.seq ?_
  have hl := hs.len
  refine VC.region ?_
  refine VO.op rfl (OpE.box rfl hB rfl rfl rfl ?_)
  intro g1
  refine VO.mb ?_
  refine VO.nil ?_
  refine VC.seq ?_
  refine VC.block ?_
  refine VC.sr ?_
  refine VO.vv (OpV.fieldAddrO 0 rfl Tryz.underlying28 rfl rfl Tryz.sizeOf9 rfl) ?_
  refine VO.vv (OpV.load_own (i := 0) rfl hB Tryz.isAgg9 rfl rfl rfl (fun h => h)) ?_
  refine VO.op rfl (OpE.call rfl hB rfl Tryz.call156 rfl (SpecN.spec (rf_Key (by have := hs.key; omega))) ?_)
  rintro _ rfl
  refine VO.vv (OpV.not rfl rfl) ?_
  refine VO.mb ?_
  refine VO.nil ?_
  refine VC.cond rfl (fun k0b => ?_) (fun k0b => ?_)
  · have k0 := k0b
    try simp only [qq] at k0
    refine VC.sr ?_
    refine VO.mb ?_
    refine VO.nil ?_
    refine VC.ret ?_
    exact Exists.intro _ (And.intro (RetN.one Tryz.results69 (ResN.v rfl)) (by rw [prodF_5 (by assumption)]))
  · have k0 := k0b
    try simp only [qq] at k0
    refine VC.sr ?_
    refine VO.vv (OpV.fieldAddrO 1 rfl Tryz.underlying28 rfl rfl Tryz.sizeOf3 rfl) ?_
    refine VO.vv (OpV.load_own (i := 0) rfl hB Tryz.isAgg3 rfl rfl rfl (fun h => h)) ?_
    refine VO.op rfl (OpE.call rfl hB rfl Tryz.call157 rfl (SpecN.spec (rf_in)) ?_)
    rintro _ rfl
    refine VO.vv (OpV.not rfl rfl) ?_
    refine VO.mw ?_
    refine VO.opG rfl rfl rfl rfl (fun aK1b => ?_) (fun aK1b => ?_)
    · replace aK1b : _ = false := aK1b
      have aK1 := aK1b
      try simp only [qq] at aK1
      refine OpE.val (W := NoB) (OpV.fieldAddrO 2 rfl Tryz.underlying28 rfl rfl Tryz.sizeOf3 rfl) rfl ?_
      refine VO.opY rfl rfl rfl rfl aK1b ?_
      refine OpE.val (W := NoB) (OpV.load_own (i := 0) rfl hB Tryz.isAgg3 rfl rfl rfl (fun h => h)) rfl ?_
      refine VO.opY rfl rfl rfl rfl aK1b ?_
      refine OpE.call rfl hB rfl Tryz.call157 rfl (SpecN.spec (rf_in)) ?_
      rintro _ rfl
      refine VO.opY rfl rfl rfl rfl aK1b ?_
      refine OpE.val (W := NoB) (OpV.not rfl rfl) rfl ?_
      refine VO.vv (OpV.pickF rfl rfl rfl rfl aK1b) ?_
      refine VO.mb ?_
      refine VO.nil ?_
      refine VC.cond rfl (fun aH2b => ?_) (fun aH2b => ?_)
      · have aH2 := aH2b
        try simp only [qq] at aH2
        refine VC.sr ?_
        refine VO.mb ?_
        refine VO.nil ?_
        refine VC.ret ?_
        exact Exists.intro _ (And.intro (RetN.one Tryz.results69 (ResN.v rfl)) (by first | rw [prodF_1 k0 (or2a (oin (by assumption)))] | rw [prodF_1 k0 (or2b (oin (by assumption)))]))
      · have aH2 := aH2b
        try simp only [qq] at aH2
        refine VC.sr ?_
        refine VO.vv (OpV.fieldAddrO 3 rfl Tryz.underlying28 rfl rfl Tryz.sizeOf26 rfl) ?_
        refine VO.vv (OpV.load_own (i := 0) rfl hB Tryz.isAgg26 rfl rfl rfl (fun h => h)) ?_
        refine VO.vv (OpV.len_im rfl Tryz.underlying26 rfl) ?_
        refine VO.vv (OpV.gtr rfl rfl rfl) ?_
        refine VO.mb ?_
        refine VO.nil ?_
        refine VC.cond rfl (fun aH3b => ?_) (fun aH3b => ?_)
        · have aH3 := aH3b
          try simp only [qq] at aH3
          refine VC.sr ?_
          refine VO.mb ?_
          refine VO.nil ?_
          refine VC.ret ?_
          exact Exists.intro _ (And.intro (RetN.one Tryz.results69 (ResN.v rfl)) (by rw [prodF_2 k0 (or2f (oin (by assumption)) (oin (by assumption))) (by omega)]))
        · have aH3 := aH3b
          try simp only [qq] at aH3
          refine VC.skip ?_
          refine VC.sr ?_
          refine VO.mb ?_
          refine VO.nil ?_
          refine VC.seq ?_
          refine VC.sr ?_
          refine VO.vv (OpV.fieldAddrO 3 rfl Tryz.underlying28 rfl rfl Tryz.sizeOf26 rfl) ?_
          refine VO.vv (OpV.load_own (i := 0) rfl hB Tryz.isAgg26 rfl rfl rfl (fun h => h)) ?_
          refine VO.vv (OpV.len_im rfl Tryz.underlying26 rfl) ?_
          refine VO.mw ?_
          refine VO.nil ?_
          refine VC.block ?_
          refine VC.loopK [(1, _), (28, _), (29, _)] ⟨rfl, rfl, rfl, trivial⟩ ({q : Nat // q ≤ p.places.length ∧ ∀ j, j < q → placeE p j = 0}) (fun (iZ : {q : Nat // q ≤ p.places.length ∧ ∀ j, j < q → placeE p j = 0}) => match iZ with | ⟨q, hq, hn⟩ => [(3, avS (lastP p q)), (30, avI (q : Int))]) (fun (iZ : {q : Nat // q ≤ p.places.length ∧ ∀ j, j < q → placeE p j = 0}) => match iZ with | ⟨q, hq, hn⟩ => [boxProd g1 p 28]) (fun (iZ : {q : Nat // q ≤ p.places.length ∧ ∀ j, j < q → placeE p j = 0}) => match iZ with | ⟨q, hq, hn⟩ => 0) (fun (iZ : {q : Nat // q ≤ p.places.length ∧ ∀ j, j < q → placeE p j = 0}) => match iZ with | ⟨q, hq, hn⟩ => p.places.length - q) ⟨0, Nat.zero_le _, fun j hj => absurd hj (Nat.not_lt_zero j)⟩ (Le.mk hB [0] ⟨rfl, rfl, rfl, rfl, rfl, trivial⟩ rfl rfl (Nat.le_refl _)) ?_
          rintro ⟨q, hq, hn⟩
          show VC _ _ _ _ ⟨[(3, avS (lastP p q)), (30, avI (q : Int))] ++ [(1, _), (28, _), (29, _)], [boxProd g1 p 28], 0⟩
          refine VC.sr ?_
          refine VO.vv (OpV.lss rfl rfl rfl) ?_
          refine VO.nil ?_
          refine VC.seq ?_
          refine VC.cond rfl (fun aH4b => ?_) (fun aH4b => ?_)
          · have aH4 := aH4b
            try simp only [qq] at aH4
            refine VC.skip ?_
            refine VC.seq ?_
            refine VC.block ?_
            refine VC.sr ?_
            refine VO.vv (OpV.indexAddr_E rfl Tryz.underlying26 Tryz.sizeOf152 rfl rfl rfl (by omega)) ?_
            refine VO.vv (OpV.loadK_at rfl hB OutW.no Tryz.isAgg152 Tryz.sizeOf152 rfl rfl) ?_
            refine VO.op rfl (OpE.alloc rfl hB rfl Tryz.zeroValue152 rfl ?_)
            intro g5
            refine VO.op rfl (OpE.store (i := 1) rfl hB rfl Tryz.sizeOf152 rfl rfl rfl rfl rfl rfl (Nle rfl) trivial ?_)
            refine VO.nil ?_
            refine VC.seq ?_
            refine VC.block ?_
            refine VC.sr ?_
            refine VO.vv (OpV.fieldAddrO 0 rfl Tryz.underlying152 rfl rfl Tryz.sizeOf9 rfl) ?_
            refine VO.vv (OpV.load_own (i := 1) rfl hB Tryz.isAgg9 rfl rfl rfl (fun h => h)) ?_
            refine VO.op rfl (OpE.call rfl hB rfl Tryz.call156 rfl (SpecN.spec (rf_Key (by have := hs.name q; omega))) ?_)
            rintro _ rfl
            refine VO.vv (OpV.not rfl rfl) ?_
            refine VO.mw ?_
            refine VO.opG rfl rfl rfl rfl (fun aK5b => ?_) (fun aK5b => ?_)
            · replace aK5b : _ = false := aK5b
              have aK5 := aK5b
              try simp only [qq] at aK5
              refine OpE.val (W := NoB) (OpV.fieldAddrO 1 rfl Tryz.underlying152 rfl rfl Tryz.sizeOf9 rfl) rfl ?_
              refine VO.opY rfl rfl rfl rfl aK5b ?_
              refine OpE.val (W := NoB) (OpV.load_own (i := 1) rfl hB Tryz.isAgg9 rfl rfl rfl (fun h => h)) rfl ?_
              refine VO.opY rfl rfl rfl rfl aK5b ?_
              refine OpE.call rfl hB rfl Tryz.call156 rfl (SpecN.spec (rf_Key (by have := hs.part q; omega))) ?_
              rintro _ rfl
              refine VO.opY rfl rfl rfl rfl aK5b ?_
              refine OpE.val (W := NoB) (OpV.not rfl rfl) rfl ?_
              refine VO.vv (OpV.pickF rfl rfl rfl rfl aK5b) ?_
              refine VO.mb ?_
              refine VO.nil ?_
              refine VC.cond rfl (fun aH6b => ?_) (fun aH6b => ?_)
              · have aH6 := aH6b
                try simp only [qq] at aH6
                refine VC.sr ?_
                refine VO.mb ?_
                refine VO.nil ?_
                refine VC.ret ?_
                exact Exists.intro _ (And.intro (RetN.one Tryz.results69 (ResN.v rfl)) (by first | rw [prodF_at k0 (or2f (oin (by assumption)) (oin (by assumption))) (by omega) (by omega) hn (placeE_5a (by assumption)) (by decide)] | rw [prodF_at k0 (or2f (oin (by assumption)) (oin (by assumption))) (by omega) (by omega) hn (placeE_5b (by assumption)) (by decide)]))
              · have aH6 := aH6b
                try simp only [qq] at aH6
                refine VC.sr ?_
                refine VO.vv (OpV.fieldAddrO 0 rfl Tryz.underlying152 rfl rfl Tryz.sizeOf9 rfl) ?_
                refine VO.vv (OpV.load_own (i := 1) rfl hB Tryz.isAgg9 rfl rfl rfl (fun h => h)) ?_
                refine VO.mw ?_
                refine VO.vv (OpV.sleq rfl rfl rfl) ?_
                refine VO.mb ?_
                refine VO.nil ?_
                refine VC.cond rfl (fun aH7b => ?_) (fun aH7b => ?_)
                · have aH7 := aH7b
                  try simp only [qq] at aH7
                  refine VC.sr ?_
                  refine VO.mb ?_
                  refine VO.nil ?_
                  refine VC.ret ?_
                  exact Exists.intro _ (And.intro (RetN.one Tryz.results69 (ResN.v rfl)) (by rw [prodF_at k0 (or2f (oin (by assumption)) (oin (by assumption))) (by omega) (by omega) hn (placeE_7' (by assumption) (by assumption) (by assumption)) (by decide)]))
                · have aH7 := aH7b
                  try simp only [qq] at aH7
                  refine VC.sr ?_
                  refine VO.vv (OpV.fieldAddrO 2 rfl Tryz.underlying152 rfl rfl Tryz.sizeOf3 rfl) ?_
                  refine VO.vv (OpV.load_own (i := 1) rfl hB Tryz.isAgg3 rfl rfl rfl (fun h => h)) ?_
                  refine VO.vv (OpV.fieldAddrO 1 rfl Tryz.underlying28 rfl rfl Tryz.sizeOf3 rfl) ?_
                  refine VO.vv (OpV.load_own (i := 0) rfl hB Tryz.isAgg3 rfl rfl rfl (fun h => h)) ?_
                  refine VO.op rfl (OpE.call rfl hB rfl Tryz.call157 rfl (SpecN.spec (rf_in)) ?_)
                  rintro _ rfl
                  refine VO.vv (OpV.not rfl rfl) ?_
                  refine VO.mw ?_
                  refine VO.opG rfl rfl rfl rfl (fun aK8b => ?_) (fun aK8b => ?_)
                  · replace aK8b : _ = false := aK8b
                    have aK8 := aK8b
                    try simp only [qq] at aK8
                    refine OpE.val (W := NoB) (OpV.fieldAddrO 3 rfl Tryz.underlying152 rfl rfl Tryz.sizeOf3 rfl) rfl ?_
                    refine VO.opY rfl rfl rfl rfl aK8b ?_
                    refine OpE.val (W := NoB) (OpV.load_own (i := 1) rfl hB Tryz.isAgg3 rfl rfl rfl (fun h => h)) rfl ?_
                    refine VO.opY rfl rfl rfl rfl aK8b ?_
                    refine OpE.val (W := NoB) (OpV.fieldAddrO 2 rfl Tryz.underlying28 rfl rfl Tryz.sizeOf3 rfl) rfl ?_
                    refine VO.opY rfl rfl rfl rfl aK8b ?_
                    refine OpE.val (W := NoB) (OpV.load_own (i := 0) rfl hB Tryz.isAgg3 rfl rfl rfl (fun h => h)) rfl ?_
                    refine VO.opY rfl rfl rfl rfl aK8b ?_
                    refine OpE.call rfl hB rfl Tryz.call157 rfl (SpecN.spec (rf_in)) ?_
                    rintro _ rfl
                    refine VO.opY rfl rfl rfl rfl aK8b ?_
                    refine OpE.val (W := NoB) (OpV.not rfl rfl) rfl ?_
                    refine VO.vv (OpV.pickF rfl rfl rfl rfl aK8b) ?_
                    refine VO.mw ?_
                    refine VO.opG rfl rfl rfl rfl (fun aK9b => ?_) (fun aK9b => ?_)
                    · replace aK9b : _ = false := aK9b
                      have aK9 := aK9b
                      try simp only [qq] at aK9
                      refine OpE.val (W := NoB) (OpV.fieldAddrO 4 rfl Tryz.underlying152 rfl rfl Tryz.sizeOf3 rfl) rfl ?_
                      refine VO.opY rfl rfl rfl rfl aK9b ?_
                      refine OpE.val (W := NoB) (OpV.load_own (i := 1) rfl hB Tryz.isAgg3 rfl rfl rfl (fun h => h)) rfl ?_
                      refine VO.opY rfl rfl rfl rfl aK9b ?_
                      refine OpE.call rfl hB rfl Tryz.call157 rfl (SpecN.spec (rf_in)) ?_
                      rintro _ rfl
                      refine VO.opY rfl rfl rfl rfl aK9b ?_
                      refine OpE.val (W := NoB) (OpV.not rfl rfl) rfl ?_
                      refine VO.vv (OpV.pickF rfl rfl rfl rfl aK9b) ?_
                      refine VO.mb ?_
                      refine VO.nil ?_
                      refine VC.cond rfl (fun aH10b => ?_) (fun aH10b => ?_)
                      · have aH10 := aH10b
                        try simp only [qq] at aH10
                        refine VC.sr ?_
                        refine VO.mb ?_
                        refine VO.nil ?_
                        refine VC.ret ?_
                        exact Exists.intro _ (And.intro (RetN.one Tryz.results69 (ResN.v rfl)) (by first | rw [prodF_at k0 (or2f (oin (by assumption)) (oin (by assumption))) (by omega) (by omega) hn (placeE_1 (by assumption) (by assumption) (lastP_ne (by assumption)) (or3a (oin (by assumption)))) (by decide)] | rw [prodF_at k0 (or2f (oin (by assumption)) (oin (by assumption))) (by omega) (by omega) hn (placeE_1 (by assumption) (by assumption) (lastP_ne (by assumption)) (or3b (oin (by assumption)))) (by decide)] | rw [prodF_at k0 (or2f (oin (by assumption)) (oin (by assumption))) (by omega) (by omega) hn (placeE_1 (by assumption) (by assumption) (lastP_ne (by assumption)) (or3c (oin (by assumption)))) (by decide)]))
                      · have aH10 := aH10b
                        try simp only [qq] at aH10
                        refine VC.skip ?_
                        refine VC.region ?_
                        refine VO.vv (OpV.fieldAddrO 0 rfl Tryz.underlying152 rfl rfl Tryz.sizeOf9 rfl) ?_
                        refine VO.vv (OpV.load_own (i := 1) rfl hB Tryz.isAgg9 rfl rfl rfl (fun h => h)) ?_
                        refine VO.mb ?_
                        refine VO.nil ?_
                        refine VC.region ?_
                        refine VO.vv (OpV.add rfl rfl rfl (by unfold fits; omega)) ?_
                        refine VO.mw ?_
                        refine VO.nil ?_
                        exact Exists.intro (⟨q + 1, by omega, lt_succ_cases hn (placeE_0 (by assumption) (by assumption) (lastP_ne (by assumption)) (or3f (oin (by assumption)) (oin (by assumption)) (oin (by assumption))))⟩) (And.intro (Le.mk hB [0] ⟨(by rw [lastP_succ]; rfl), rfl, rfl, rfl, rfl, trivial⟩ rfl rfl (Nat.le_refl _)) (by first | omega | (show _ < _; omega) | (simp only []; omega)))
                    · replace aK9b : _ = true := aK9b
                      have aK9 := aK9b
                      try simp only [qq] at aK9
                      refine VO.opX rfl rfl rfl rfl aK9b ?_
                      refine VO.opX rfl rfl rfl rfl aK9b ?_
                      refine VO.opX rfl rfl rfl rfl aK9b ?_
                      refine VO.vv (OpV.pickT rfl rfl rfl rfl aK9b) ?_
                      refine VO.mb ?_
                      refine VO.nil ?_
                      refine VC.condT rfl rfl ?_
                      refine VC.sr ?_
                      refine VO.mb ?_
                      refine VO.nil ?_
                      refine VC.ret ?_
                      exact Exists.intro _ (And.intro (RetN.one Tryz.results69 (ResN.v rfl)) (by first | rw [prodF_at k0 (or2f (oin (by assumption)) (oin (by assumption))) (by omega) (by omega) hn (placeE_1 (by assumption) (by assumption) (lastP_ne (by assumption)) (or3a (oin (by assumption)))) (by decide)] | rw [prodF_at k0 (or2f (oin (by assumption)) (oin (by assumption))) (by omega) (by omega) hn (placeE_1 (by assumption) (by assumption) (lastP_ne (by assumption)) (or3b (oin (by assumption)))) (by decide)] | rw [prodF_at k0 (or2f (oin (by assumption)) (oin (by assumption))) (by omega) (by omega) hn (placeE_1 (by assumption) (by assumption) (lastP_ne (by assumption)) (or3c (oin (by assumption)))) (by decide)]))
                  · replace aK8b : _ = true := aK8b
                    have aK8 := aK8b
                    try simp only [qq] at aK8
                    refine VO.opX rfl rfl rfl rfl aK8b ?_
                    refine VO.opX rfl rfl rfl rfl aK8b ?_
                    refine VO.opX rfl rfl rfl rfl aK8b ?_
                    refine VO.opX rfl rfl rfl rfl aK8b ?_
                    refine VO.opX rfl rfl rfl rfl aK8b ?_
                    refine VO.vv (OpV.pickT rfl rfl rfl rfl aK8b) ?_
                    refine VO.mw ?_
                    refine VO.opX rfl rfl rfl rfl rfl ?_
                    refine VO.opX rfl rfl rfl rfl rfl ?_
                    refine VO.opX rfl rfl rfl rfl rfl ?_
                    refine VO.opX rfl rfl rfl rfl rfl ?_
                    refine VO.vv (OpV.pickT rfl rfl rfl rfl rfl) ?_
                    refine VO.mb ?_
                    refine VO.nil ?_
                    refine VC.condT rfl rfl ?_
                    refine VC.sr ?_
                    refine VO.mb ?_
                    refine VO.nil ?_
                    refine VC.ret ?_
                    exact Exists.intro _ (And.intro (RetN.one Tryz.results69 (ResN.v rfl)) (by first | rw [prodF_at k0 (or2f (oin (by assumption)) (oin (by assumption))) (by omega) (by omega) hn (placeE_1 (by assumption) (by assumption) (lastP_ne (by assumption)) (or3a (oin (by assumption)))) (by decide)] | rw [prodF_at k0 (or2f (oin (by assumption)) (oin (by assumption))) (by omega) (by omega) hn (placeE_1 (by assumption) (by assumption) (lastP_ne (by assumption)) (or3b (oin (by assumption)))) (by decide)] | rw [prodF_at k0 (or2f (oin (by assumption)) (oin (by assumption))) (by omega) (by omega) hn (placeE_1 (by assumption) (by assumption) (lastP_ne (by assumption)) (or3c (oin (by assumption)))) (by decide)]))
            · replace aK5b : _ = true := aK5b
              have aK5 := aK5b
              try simp only [qq] at aK5
              refine VO.opX rfl rfl rfl rfl aK5b ?_
              refine VO.opX rfl rfl rfl rfl aK5b ?_
              refine VO.opX rfl rfl rfl rfl aK5b ?_
              refine VO.vv (OpV.pickT rfl rfl rfl rfl aK5b) ?_
              refine VO.mb ?_
              refine VO.nil ?_
              refine VC.condT rfl rfl ?_
              refine VC.sr ?_
              refine VO.mb ?_
              refine VO.nil ?_
              refine VC.ret ?_
              exact Exists.intro _ (And.intro (RetN.one Tryz.results69 (ResN.v rfl)) (by first | rw [prodF_at k0 (or2f (oin (by assumption)) (oin (by assumption))) (by omega) (by omega) hn (placeE_5a (by assumption)) (by decide)] | rw [prodF_at k0 (or2f (oin (by assumption)) (oin (by assumption))) (by omega) (by omega) hn (placeE_5b (by assumption)) (by decide)]))
          · have aH4 := aH4b
            try simp only [qq] at aH4
            refine VC.exit ?_
            refine VC.sr ?_
            refine VO.mb ?_
            refine VO.nil ?_
            refine VC.ret ?_
            exact Exists.intro _ (And.intro (RetN.one Tryz.results69 (ResN.v rfl)) (by rw [prodF_ok k0 (or2f (oin (by assumption)) (oin (by assumption))) (by omega) (fun j hj => hn j (by omega))]))
    · replace aK1b : _ = true := aK1b
      have aK1 := aK1b
      try simp only [qq] at aK1
      refine VO.opX rfl rfl rfl rfl aK1b ?_
      refine VO.opX rfl rfl rfl rfl aK1b ?_
      refine VO.opX rfl rfl rfl rfl aK1b ?_
      refine VO.vv (OpV.pickT rfl rfl rfl rfl aK1b) ?_
      refine VO.mb ?_
      refine VO.nil ?_
      refine VC.condT rfl rfl ?_
      refine VC.sr ?_
      refine VO.mb ?_
      refine VO.nil ?_
      refine VC.ret ?_
      exact Exists.intro _ (And.intro (RetN.one Tryz.results69 (ResN.v rfl)) (by first | rw [prodF_1 k0 (or2a (oin (by assumption)))] | rw [prodF_1 k0 (or2b (oin (by assumption)))]))
theorem panel_bodiesFault {l : List BodyS} (hs : SmB l) :
    SpecN Tryz.prog 164 [avL l] (fun y => y = avI (bodiesF l)) := by
  refine SpecN.of_VCN Tryz.func164 rfl Tryz.ntmps164 (Nle rfl) fun w A hB => ?_
  refine VC.seq ?_
  have hl := hs.len
  refine VC.region ?_
  refine VO.mb ?_
  refine VO.nil ?_
  refine VC.seq ?_
  refine VC.sr ?_
  refine VO.mw ?_
  refine VO.vv (OpV.len_im rfl Tryz.underlying51 rfl) ?_
  refine VO.vv (OpV.gtr rfl rfl rfl) ?_
  refine VO.nil ?_
  refine VC.cond rfl (fun aH1b => ?_) (fun aH1b => ?_)
  · have aH1 := aH1b
    try simp only [qq] at aH1
    refine VC.sr ?_
    refine VO.mb ?_
    refine VO.nil ?_
    refine VC.ret ?_
    exact Exists.intro _ (And.intro (RetN.one Tryz.results164 (ResN.v rfl)) (by rw [bodiesF_2 (by omega)]))
  · have aH1 := aH1b
    try simp only [qq] at aH1
    refine VC.skip ?_
    refine VC.seq ?_
    refine VC.sr ?_
    refine VO.mw ?_
    refine VO.vv (OpV.len_im rfl Tryz.underlying51 rfl) ?_
    refine VO.mw ?_
    refine VO.nil ?_
    refine VC.block ?_
    refine VC.loopK [(0, _), (8, _), (9, _)] ⟨rfl, rfl, rfl, trivial⟩ ({q : Nat // q ≤ l.length ∧ ∀ j, j < q → bodyE l j = 0}) (fun (iZ : {q : Nat // q ≤ l.length ∧ ∀ j, j < q → bodyE l j = 0}) => match iZ with | ⟨q, hq, hn⟩ => [(10, avI (q : Int))]) (fun (iZ : {q : Nat // q ≤ l.length ∧ ∀ j, j < q → bodyE l j = 0}) => match iZ with | ⟨q, hq, hn⟩ => []) (fun (iZ : {q : Nat // q ≤ l.length ∧ ∀ j, j < q → bodyE l j = 0}) => match iZ with | ⟨q, hq, hn⟩ => 0) (fun (iZ : {q : Nat // q ≤ l.length ∧ ∀ j, j < q → bodyE l j = 0}) => match iZ with | ⟨q, hq, hn⟩ => l.length - q) ⟨0, Nat.zero_le _, fun j hj => absurd hj (Nat.not_lt_zero j)⟩ (Le.mk hB [] ⟨rfl, rfl, rfl, rfl, trivial⟩ rfl rfl (Nat.le_refl _)) ?_
    rintro ⟨q, hq, hn⟩
    show VC _ _ _ _ ⟨[(10, avI (q : Int))] ++ [(0, _), (8, _), (9, _)], [], 0⟩
    refine VC.sr ?_
    refine VO.vv (OpV.lss rfl rfl rfl) ?_
    refine VO.nil ?_
    refine VC.seq ?_
    refine VC.cond rfl (fun aH2b => ?_) (fun aH2b => ?_)
    · have aH2 := aH2b
      try simp only [qq] at aH2
      refine VC.skip ?_
      refine VC.seq ?_
      refine VC.block ?_
      refine VC.sr ?_
      refine VO.mw ?_
      refine VO.vv (OpV.indexAddr_E rfl Tryz.underlying51 Tryz.sizeOf63 rfl rfl rfl (by omega)) ?_
      refine VO.vv (OpV.loadK_at rfl hB OutW.no Tryz.isAgg63 Tryz.sizeOf63 rfl rfl) ?_
      refine VO.op rfl (OpE.alloc rfl hB rfl Tryz.zeroValue63 rfl ?_)
      intro g4
      refine VO.mb ?_
      refine VO.op rfl (OpE.store (i := 0) rfl hB rfl Tryz.sizeOf63 rfl rfl rfl rfl rfl rfl (Nle rfl) trivial ?_)
      refine VO.nil ?_
      refine VC.block ?_
      refine VC.sr ?_
      refine VO.vv (OpV.fieldAddrO 0 rfl Tryz.underlying63 rfl rfl Tryz.sizeOf9 rfl) ?_
      refine VO.vv (OpV.load_own (i := 0) rfl hB Tryz.isAgg9 rfl rfl rfl (fun h => h)) ?_
      refine VO.op rfl (OpE.call rfl hB rfl Tryz.call230 rfl (SpecN.spec (kit_IsKey (by have := hs.part q; omega))) ?_)
      rintro _ rfl
      refine VO.vv (OpV.not rfl rfl) ?_
      refine VO.mb ?_
      refine VO.nil ?_
      refine VC.cond rfl (fun aH3b => ?_) (fun aH3b => ?_)
      · have aH3 := aH3b
        try simp only [qq] at aH3
        refine VC.sr ?_
        refine VO.mb ?_
        refine VO.nil ?_
        refine VC.ret ?_
        exact Exists.intro _ (And.intro (RetN.one Tryz.results164 (ResN.v rfl)) (by rw [bodiesF_at (by omega) (by omega) hn (bodyE_5 (by assumption)) (by decide)]))
      · have aH3 := aH3b
        try simp only [qq] at aH3
        refine VC.sr ?_
        refine VO.vv (OpV.fieldAddrO 1 rfl Tryz.underlying63 rfl rfl Tryz.sizeOf3 rfl) ?_
        refine VO.vv (OpV.load_own (i := 0) rfl hB Tryz.isAgg3 rfl rfl rfl (fun h => h)) ?_
        refine VO.op rfl (OpE.call rfl hB rfl Tryz.call160 rfl (SpecN.spec (panel_isSize)) ?_)
        rintro _ rfl
        refine VO.vv (OpV.not rfl rfl) ?_
        refine VO.mw ?_
        refine VO.opG rfl rfl rfl rfl (fun aK4b => ?_) (fun aK4b => ?_)
        · replace aK4b : _ = false := aK4b
          have aK4 := aK4b
          try simp only [qq] at aK4
          refine OpE.val (W := NoB) (OpV.fieldAddrO 2 rfl Tryz.underlying63 rfl rfl Tryz.sizeOf3 rfl) rfl ?_
          refine VO.opY rfl rfl rfl rfl aK4b ?_
          refine OpE.val (W := NoB) (OpV.load_own (i := 0) rfl hB Tryz.isAgg3 rfl rfl rfl (fun h => h)) rfl ?_
          refine VO.opY rfl rfl rfl rfl aK4b ?_
          refine OpE.call rfl hB rfl Tryz.call160 rfl (SpecN.spec (panel_isSize)) ?_
          rintro _ rfl
          refine VO.opY rfl rfl rfl rfl aK4b ?_
          refine OpE.val (W := NoB) (OpV.not rfl rfl) rfl ?_
          refine VO.vv (OpV.pickF rfl rfl rfl rfl aK4b) ?_
          refine VO.mb ?_
          refine VO.nil ?_
          refine VC.cond rfl (fun aH5b => ?_) (fun aH5b => ?_)
          · have aH5 := aH5b
            try simp only [qq] at aH5
            refine VC.sr ?_
            refine VO.mb ?_
            refine VO.nil ?_
            refine VC.ret ?_
            exact Exists.intro _ (And.intro (RetN.one Tryz.results164 (ResN.v rfl)) (by first | rw [bodiesF_at (by omega) (by omega) hn (bodyE_1 (by assumption) (or2a (by assumption))) (by decide)] | rw [bodiesF_at (by omega) (by omega) hn (bodyE_1 (by assumption) (or2b (by assumption))) (by decide)]))
          · have aH5 := aH5b
            try simp only [qq] at aH5
            refine VC.seq ?_
            refine VC.draw (fun _ => NoB) hB (by kernel_rfl) ?_
            refine VA.tk (i := 0) rfl (OpV.move (.inl rfl) rfl) ?_
            refine VA.tk (i := 1) rfl (OpV.gtr rfl rfl rfl) ?_
            refine VA.tk (i := 2) rfl (OpV.move (.inl rfl) rfl) ?_
            refine VA.split (t := 34) rfl (fun aK6b => ?_) (fun aK6b => ?_)
            · have aK6 := aK6b
              try simp only [qq] at aK6
              refine VA.takeY (i := 3) rfl (by kernel_rfl) (by kernel_rfl) (by kernel_rfl) rfl rfl rfl rfl aK6b (OpV.fieldAddrO 0 rfl Tryz.underlying63 rfl rfl Tryz.sizeOf9 rfl) ?_
              refine VA.takeY (i := 4) rfl (by kernel_rfl) (by kernel_rfl) (by kernel_rfl) rfl rfl rfl rfl aK6b (OpV.load_own (i := 0) rfl hB Tryz.isAgg9 rfl rfl rfl Wi.not0) ?_
              refine VA.takeY (i := 5) rfl (by kernel_rfl) (by kernel_rfl) (by kernel_rfl) rfl rfl rfl rfl aK6b (OpV.move (.inl rfl) rfl) ?_
              refine VA.takeY (i := 6) rfl (by kernel_rfl) (by kernel_rfl) (by kernel_rfl) rfl rfl rfl rfl aK6b (OpV.move (.inl rfl) rfl) ?_
              refine VA.takeY (i := 7) rfl (by kernel_rfl) (by kernel_rfl) (by kernel_rfl) rfl rfl rfl rfl aK6b (OpV.sub rfl rfl rfl (by unfold fits; omega)) ?_
              refine VA.takeY (i := 8) rfl (by kernel_rfl) (by kernel_rfl) (by kernel_rfl) rfl rfl rfl rfl aK6b (OpV.indexAddr_E rfl Tryz.underlying51 Tryz.sizeOf63 rfl rfl (show ((q : Int) - 1) = ((q - 1 : Nat) : Int) by omega) (by omega)) ?_
              refine VA.takeY (i := 9) rfl (by kernel_rfl) (by kernel_rfl) (by kernel_rfl) rfl rfl rfl rfl aK6b (OpV.fieldAddr_atO 0 rfl Tryz.underlying63 rfl rfl Tryz.sizeOf9 rfl rfl) ?_
              refine VA.takeY (i := 10) rfl (by kernel_rfl) (by kernel_rfl) (by kernel_rfl) rfl rfl rfl rfl aK6b (OpV.load_at rfl hB OutW.wi0 Tryz.isAgg9 rfl rfl) ?_
              refine VA.takeY (i := 11) rfl (by kernel_rfl) (by kernel_rfl) (by kernel_rfl) rfl rfl rfl rfl aK6b (OpV.sleq rfl rfl rfl) ?_
              refine VA.tk (i := 12) rfl (OpV.pickT rfl rfl rfl rfl aK6b) ?_
              refine VA.tk (i := 13) rfl (OpV.move (.inr rfl) rfl) ?_
              refine VA.done (by kernel_rfl) ?_
              refine VC.cond rfl (fun aH7b => ?_) (fun aH7b => ?_)
              · have aH7 := aH7b
                try simp only [qq] at aH7
                refine VC.sr ?_
                refine VO.mb ?_
                refine VO.nil ?_
                refine VC.ret ?_
                exact Exists.intro _ (And.intro (RetN.one Tryz.results164 (ResN.v rfl)) (by rw [bodiesF_at (by omega) (by omega) hn (bodyE_7 (by assumption) (or2f (by assumption) (by assumption)) (by omega) (by assumption)) (by decide)]))
              · have aH7 := aH7b
                try simp only [qq] at aH7
                refine VC.skip ?_
                refine VC.region ?_
                refine VO.vv (OpV.add rfl rfl rfl (by unfold fits; omega)) ?_
                refine VO.mw ?_
                refine VO.nil ?_
                exact Exists.intro (⟨q + 1, by omega, lt_succ_cases hn (bodyE_0 (by assumption) (or2f (by assumption) (by assumption)) (by first | (left; omega) | (right; assumption)))⟩) (And.intro (Le.mk hB [] ⟨rfl, rfl, rfl, rfl, trivial⟩ rfl rfl (Nat.le_refl _)) (by first | omega | (show _ < _; omega) | (simp only []; omega)))
            · have aK6 := aK6b
              try simp only [qq] at aK6
              refine VA.takeX (i := 3) rfl (by kernel_rfl) (by kernel_rfl) (by kernel_rfl) rfl rfl rfl rfl aK6b ?_
              refine VA.takeX (i := 4) rfl (by kernel_rfl) (by kernel_rfl) (by kernel_rfl) rfl rfl rfl rfl aK6b ?_
              refine VA.takeX (i := 5) rfl (by kernel_rfl) (by kernel_rfl) (by kernel_rfl) rfl rfl rfl rfl aK6b ?_
              refine VA.takeX (i := 6) rfl (by kernel_rfl) (by kernel_rfl) (by kernel_rfl) rfl rfl rfl rfl aK6b ?_
              refine VA.takeX (i := 7) rfl (by kernel_rfl) (by kernel_rfl) (by kernel_rfl) rfl rfl rfl rfl aK6b ?_
              refine VA.takeX (i := 8) rfl (by kernel_rfl) (by kernel_rfl) (by kernel_rfl) rfl rfl rfl rfl aK6b ?_
              refine VA.takeX (i := 9) rfl (by kernel_rfl) (by kernel_rfl) (by kernel_rfl) rfl rfl rfl rfl aK6b ?_
              refine VA.takeX (i := 10) rfl (by kernel_rfl) (by kernel_rfl) (by kernel_rfl) rfl rfl rfl rfl aK6b ?_
              refine VA.takeX (i := 11) rfl (by kernel_rfl) (by kernel_rfl) (by kernel_rfl) rfl rfl rfl rfl aK6b ?_
              refine VA.tk (i := 12) rfl (OpV.pickF rfl rfl rfl rfl aK6b) ?_
              refine VA.tk (i := 13) rfl (OpV.move (.inr rfl) rfl) ?_
              refine VA.done (by kernel_rfl) ?_
              refine VC.condF rfl rfl ?_
              refine VC.skip ?_
              refine VC.region ?_
              refine VO.vv (OpV.add rfl rfl rfl (by unfold fits; omega)) ?_
              refine VO.mw ?_
              refine VO.nil ?_
              exact Exists.intro (⟨q + 1, by omega, lt_succ_cases hn (bodyE_0 (by assumption) (or2f (by assumption) (by assumption)) (by first | (left; omega) | (right; assumption)))⟩) (And.intro (Le.mk hB [] ⟨rfl, rfl, rfl, rfl, trivial⟩ rfl rfl (Nat.le_refl _)) (by first | omega | (show _ < _; omega) | (simp only []; omega)))
        · replace aK4b : _ = true := aK4b
          have aK4 := aK4b
          try simp only [qq] at aK4
          refine VO.opX rfl rfl rfl rfl aK4b ?_
          refine VO.opX rfl rfl rfl rfl aK4b ?_
          refine VO.opX rfl rfl rfl rfl aK4b ?_
          refine VO.vv (OpV.pickT rfl rfl rfl rfl aK4b) ?_
          refine VO.mb ?_
          refine VO.nil ?_
          refine VC.condT rfl rfl ?_
          refine VC.sr ?_
          refine VO.mb ?_
          refine VO.nil ?_
          refine VC.ret ?_
          exact Exists.intro _ (And.intro (RetN.one Tryz.results164 (ResN.v rfl)) (by first | rw [bodiesF_at (by omega) (by omega) hn (bodyE_1 (by assumption) (or2a (by assumption))) (by decide)] | rw [bodiesF_at (by omega) (by omega) hn (bodyE_1 (by assumption) (or2b (by assumption))) (by decide)]))
    · have aH2 := aH2b
      try simp only [qq] at aH2
      refine VC.exit ?_
      refine VC.sr ?_
      refine VO.mb ?_
      refine VO.nil ?_
      refine VC.ret ?_
      exact Exists.intro _ (And.intro (RetN.one Tryz.results164 (ResN.v rfl)) (by rw [bodiesF_ok (by omega) (fun j hj => hn j (by omega))]))
end
end Go.Proofs.YtcploodfholkkaaGreatDoor
