/- Part 4 of a proof: the walks and laws that it needs. -/
import Derived.Shelf.SlIter.Nil
import Derived.Shelf.SortM.Plain
import Derived.Shelf.SortM.SortNone
import Derived.Ground.GgzProg
import Derived.Ground.SlgmProg
import Derived.Test.YtcploodfholkkaaGreatDoorProg
import Derived.StringKeys
import Derived.Laws.IdiomRangeMap
import Derived.Sort.Walk0
import Derived.Shelf.Strings.Builder1
import Derived.Shelf.Strings.Builder2
import Derived.Shelf.Strings.OnBuilder
import Derived.Shelf.Strings.Trim
import Derived.Shelf.Small.Utf8
import Derived.Shelf.Small.Bits
import Derived.Shelf.Small.Strs
import Derived.Shelf.Small.Wraps
import Derived.Shelf.Strconv.Atoi
import Derived.Shelf.Strconv.Itoa0
import Derived.Shelf.Strconv.Itoa1
import Derived.Shelf.LaysM
import Derived.Shelf.Strconv.Itoa2
import Derived.Shelf.Strconv.Itoa3
import Derived.Shelf.Strings.Search1
import Derived.Shelf.Strings.Search2
import Derived.Shelf.Strings.Search3
import Derived.Shelf.Strings.Cut
import Derived.Shelf.Strings.Count
import Derived.Shelf.Strings.Shaped
import Derived.Shelf.Sort.Plain
import Derived.Shelf.Strings.Prefix
import Derived.Shelf.Strings.Split
import Derived.Shelf.Strings.Runes
import Derived.Shelf.Strings.AsciiSet
import Derived.Shelf.Unicode.DecodeSlow
import Derived.Ground.SlsfProg
import Derived.Shelf.SlSortCmp.Insertion
import Derived.Shelf.SlSortCmp.SiftDown1
import Derived.Shelf.SlSortCmp.HeapSort1
import Derived.Shelf.SlSortCmp.Insertion1
import Derived.Shelf.SlSortCmp.Median1
import Derived.Shelf.SlSortCmp.Pivot1
import Derived.Shelf.SlSortCmp.ReverseRange1
import Derived.Shelf.SlSortCmp.PartialInsertion1
import Derived.Shelf.SlSortCmp.PartitionEqual1
import Derived.Shelf.SlSortCmp.Partition1
import Derived.Shelf.SlSortCmp.Pdq1
import Derived.Shelf.SlSortCmp.Whole1
import Derived.Shelf.SlSortCmp.NoneTotal
import Derived.Lib.SlicesCompact
import Derived.Below
import Derived.Test.YtcploodfholkkaaGreatDoorZK3
set_option linter.unusedVariables false
set_option linter.unusedSimpArgs false
namespace Go.Proofs.YtcploodfholkkaaGreatDoor
open Go.RowKit
set_option maxRecDepth 100000
section
def orders_EZ1 (p : Nat) (gr : Nat) (i : Nat) (l : List OrdrS) (capL : Nat) : List (Nat × AV) := [(0, sp p), (53, sp p), (64, sp p), (75, sp p), (82, sp p), (89, sp p), (48, (pO gr (0 + i * 5))), (49, (pO gr (0 + i * 5))), (50, (pO gr (0 + i * 5))), (51, (pO gr (0 + i * 5))), (52, (pO gr (0 + i * 5))), (57, avS (xO l i).key), (61, avS (xO l i).key), (68, avS (xO l i).product), (72, avS (xO l i).product), (79, avI (xO l i).count), (86, avI (xO l i).ready), (93, avI (xO l i).due), (97, avI (xO l i).due), (5, .v (.slice (some ⟨gr, 0, none⟩) l.length capL))]
set_option maxHeartbeats 40000000 in
theorem orders_E {p0 cap : Nat} {a0 : Option Addr} {p k m : Nat} {L : List Int} (hk : k ≤ 800000) (hm : m ≤ 20) (hp0 : p0 ≤ p) :
    SpecHX (TXI a0 L p0) Tryz.prog 100 [sp p, avI (m : Int)] [bxStr p a0 cap L k] (fun y hp' => y = avL (orV L k m).1 ∧ hp' = [bxStr p a0 cap L (orV L k m).2]) := by
  have e4 : pq4.length = 4 := rfl
  have e4' : rd4.length = 4 := rfl
  have e5 : du5.length = 5 := rfl
  have hr0 := rng_lo L k 0 m
  have hr1 := rng_hi L k 0 m (by omega)
  obtain ⟨N, hN⟩ : ∃ N, orM L k m = N := ⟨_, rfl⟩
  have hNr : rng L k 0 m = (N : Int) := by unfold orM at hN; omega
  refine SpecHX.of_VC txi_stab Tryz.func100 rfl Tryz.ntmps100 (Nle rfl) fun w A hB hGX => ?_
  have hnew : True := trivial
  refine VC.sr ?_
  refine VO.mb ?_
  refine VO.nil ?_
  refine VC.sr ?_
  refine VO.mb ?_
  refine VO.nil ?_
  refine VC.seq ?_
  refine VC.sr ?_
  refine VO.mw ?_
  refine VO.mw ?_
  refine VO.op rfl (OpE.callHX (rest := []) txi_stab hGX rfl hB rfl Tryz.call58 rfl rfl (range_X (by omega) (by omega) (by omega) (by omega) hp0) (List.Perm.refl _) (fun _ _ => trivial) ?_)
  rintro _ _ ⟨rfl, rfl⟩
  refine VO.le _ (Le.recast (t := 10) (y := avI (N : Int)) rfl (fun w Z u h => by rw [← hNr]; exact h)) ?_
  refine VO.mw ?_
  refine VO.nil ?_
  refine VC.block ?_
  refine VC.le _ (Le.nilRow 5 110) ?_
  refine VC.loopK [(0, _)] ⟨rfl, trivial⟩ ({t : Value × Nat // t.2 ≤ N}) (fun (iZ : {t : Value × Nat // t.2 ≤ N}) => match iZ with | ⟨⟨u, q⟩, hq⟩ => [(5, .v u), (10, avI (N : Int)), (11, avI (q : Int))]) (fun (iZ : {t : Value × Nat // t.2 ≤ N}) => match iZ with | ⟨⟨u, q⟩, hq⟩ => [bxStr p a0 cap L (k + 1 + 4 * q), .row u (orL L (k + 1) q).length 5 (rowL (orL L (k + 1) q)) 110]) (fun (iZ : {t : Value × Nat // t.2 ≤ N}) => match iZ with | ⟨⟨u, q⟩, hq⟩ => 0) (fun (iZ : {t : Value × Nat // t.2 ≤ N}) => match iZ with | ⟨⟨u, q⟩, hq⟩ => N - q) ⟨(.slice none 0 0, 0), Nat.zero_le _⟩ (Le.mk hB [0, 1] ⟨rfl, rfl, rfl, rfl, trivial⟩ rfl rfl (Nat.le_refl _)) ?_
  rintro ⟨⟨u, q⟩, hq⟩
  show VC _ _ _ _ ⟨[(5, .v u), (10, avI (N : Int)), (11, avI (q : Int))] ++ [(0, _)], [bxStr p a0 cap L (k + 1 + 4 * q), .row u (orL L (k + 1) q).length 5 (rowL (orL L (k + 1) q)) 110], 0⟩
  simp only at hq
  have hol := orL_len (L := L) (k := k + 1) q
  refine VC.sr ?_
  refine VO.vv (OpV.lss rfl rfl rfl) ?_
  refine VO.nil ?_
  refine VC.seq ?_
  refine VC.cond rfl (fun aH1b => ?_) (fun aH1b => ?_)
  · have aH1 := aH1b
    try simp only [qq] at aH1
    refine VC.skip ?_
    refine VC.seq ?_
    refine VC.block ?_
    refine VC.sr ?_
    refine VO.mw ?_
    refine VO.mb ?_
    refine VO.nil ?_
    refine VC.region ?_
    refine VO.mw ?_
    refine VO.mw ?_
    refine VO.vv (OpV.add rfl rfl rfl (by unfold fits; omega)) ?_
    refine VO.vv (OpV.conv rfl Tryz.underlying3 Tryz.underlying21 rfl (IntWalk.i32_in _ (by omega))) ?_
    refine VO.vv (OpV.convStr rfl Tryz.underlying21 Tryz.underlying9 rfl) ?_
    refine VO.vv (OpV.sadd rfl rfl rfl (by have := encO_small (97 + (q : Int)); have h1 : (⟨#[111]⟩ : ByteArray).size = 1 := rfl; omega)) ?_
    refine VO.mw ?_
    refine VO.op rfl (bS rfl hB rfl (by decide) rfl rfl ?_)
    refine VO.le _ (Le.lS (t := 21) (xs := pq4) rfl rfl) ?_
    refine VO.op rfl (OpE.callHX (rest := [_]) txi_stab hGX rfl hB rfl Tryz.call79 rfl rfl (some_X (xs := pq4) (by omega) (by omega) hp0) (List.Perm.refl _) (fun _ _ => trivial) ?_)
    rintro _ _ ⟨rfl, rfl⟩
    refine VO.mw ?_
    refine VO.op rfl (OpE.callHX (rest := [_]) txi_stab hGX rfl hB rfl Tryz.call58 rfl rfl (range_X (by omega) (by omega) (by omega) (by omega) hp0) (List.Perm.refl _) (fun _ _ => trivial) ?_)
    rintro _ _ ⟨rfl, rfl⟩
    refine VO.mw ?_
    refine VO.op rfl (bI rfl hB rfl (by decide) rfl rfl ?_)
    refine VO.le _ (Le.lI (t := 26) (xs := rd4) rfl rfl) ?_
    refine VO.op rfl (OpE.callHX (rest := [_]) txi_stab hGX rfl hB rfl Tryz.call77 rfl rfl (pick_E (xs := rd4) (by omega) (by omega) hp0) (List.Perm.refl _) (fun _ _ => trivial) ?_)
    rintro _ _ ⟨rfl, rfl⟩
    refine VO.mw ?_
    refine VO.op rfl (bI rfl hB rfl (by decide) rfl rfl ?_)
    refine VO.le _ (Le.lI (t := 29) (xs := du5) rfl rfl) ?_
    refine VO.op rfl (OpE.callHX (rest := [_]) txi_stab hGX rfl hB rfl Tryz.call77 rfl rfl (pick_E (xs := du5) (by omega) (by omega) hp0) (List.Perm.refl _) (fun _ _ => trivial) ?_)
    rintro _ _ ⟨rfl, rfl⟩
    refine VO.vv (OpV.build (pls := #[(0, 1), (1, 1), (2, 1), (3, 1), (4, 1)]) rfl Tryz.zeroValue110 Tryz.underlying110 (fun w => by kernel_rfl) rfl rfl) ?_
    refine VO.op rfl (OpE.buildSlice (zc := #[.string ⟨#[]⟩, .string ⟨#[]⟩, .int .i64 0, .int .i64 0, .int .i64 0]) rfl hB rfl Tryz.underlying93 Tryz.sizeOf110 Tryz.zeroValue110 (by decide) (by decide) (by kernel_rfl) rfl rfl ?_)
    refine VO.op rfl (OpE.append1 (i := 1) rfl hB rfl Tryz.underlying93 (infoOf Tryz.t110 5 (by kernel_rfl) rfl rfl) rfl (by decide) (by decide) rfl rfl rfl rfl (rowL_snoc (orL L (k + 1) q) (orNew L (k + 1) q)) (by omega) (fun _ _ => trivial) ?_)
    intro u2
    refine VO.mb ?_
    refine VO.nil ?_
    refine VC.region ?_
    refine VO.vv (OpV.add rfl rfl rfl (by unfold fits; omega)) ?_
    refine VO.mw ?_
    refine VO.nil ?_
    exact Exists.intro (⟨(u2, q + 1), by show q + 1 ≤ N; omega⟩) (And.intro (Le.mk hB [0, 1] ⟨rfl, rfl, rfl, rfl, trivial⟩ rfl (by dsimp only; rw [orL, List.length_append]; rfl) (Nat.le_refl _)) (by first | omega | (show _ < _; omega) | (simp only []; omega)))
  · have aH1 := aH1b
    try simp only [qq] at aH1
    obtain rfl : q = N := by omega
    obtain ⟨l, hl⟩ : ∃ o, orL L (k + 1) q = o := ⟨_, rfl⟩
    rw [hl] at hol ⊢
    obtain ⟨j, hj⟩ : ∃ j, k + 1 + 4 * q = j := ⟨_, rfl⟩
    rw [hj]
    have hV : orV L k m = orTail L l j := by unfold orV; rw [hN, hl, hj]
    refine VC.exit ?_
    refine VC.seq ?_
    refine VC.sr ?_
    refine VO.mw ?_
    refine VO.vv (OpV.len_row (i := 1) rfl Tryz.underlying93 rfl rfl) ?_
    refine VO.vv (OpV.gtr rfl rfl rfl) ?_
    refine VO.mw ?_
    refine VO.opG rfl rfl rfl rfl (fun aK2b => ?_) (fun aK2b => ?_)
    · replace aK2b : _ = true := aK2b
      have aK2 := aK2b
      try simp only [qq] at aK2
      refine OpE.val (W := NoB) (OpV.move (.inl rfl) rfl) rfl ?_
      refine VO.opY rfl rfl rfl rfl aK2b ?_
      refine OpE.callHX (rest := [_]) txi_stab hGX rfl hB rfl Tryz.call76 rfl rfl (flip_X (by omega) (by omega) hp0) (List.Perm.refl _) (fun _ _ => trivial) ?_
      rintro _ _ ⟨rfl, rfl⟩
      refine VO.vv (OpV.pickT rfl rfl rfl rfl aK2b) ?_
      refine VO.nil ?_
      refine VC.cond rfl (fun aH3b => ?_) (fun aH3b => ?_)
      · have aH3 := aH3b
        try simp only [qq] at aH3
        refine VC.seq ?_
        refine VC.asBox (i := 1) rfl (by omega) (fun gr capL hu hcap hmx => ?_)
        subst hu
        refine VC.region ?_
        refine VO.mw ?_
        refine VO.mw ?_
        refine VO.mw ?_
        refine VO.vv (OpV.len_v rfl Tryz.underlying93 rfl) ?_
        refine VO.op rfl (OpE.callHX (rest := [_]) txi_stab hGX rfl hB rfl Tryz.call78 rfl rfl (next_X hp0 (by omega) (by omega)) (List.Perm.refl _) (fun _ _ => trivial) ?_)
        rintro _ _ ⟨rfl, rfl⟩
        have hx1 := nxt_lo L (j + 1) l.length
        have hx2 := nxt_lt L (j + 1) l.length (by omega)
        obtain ⟨i, hi⟩ : ∃ i : Nat, nxt L (j + 1) l.length = i := ⟨(nxt L (j + 1) l.length).toNat, by omega⟩
        have hil : i < l.length := by omega
        refine VO.le _ (Le.recast (t := 46) (y := avI (i : Int)) rfl (fun w Z u h => by rw [← hi]; exact h)) ?_
        refine VO.vv (OpV.indexAddr_q rfl Tryz.underlying93 Tryz.sizeOf110 rfl rfl rfl (by omega)) ?_
        refine VO.mb ?_
        refine VO.nil ?_
        refine VC.hap (fun hap => ?_)
        have nrp := apart_ne hap (i := 1) (j := 0) rfl rfl (by decide)
        obtain ⟨r63, e63⟩ : ∃ r, someV L (j + 2) [(xO l i).key, (xO l i).key, ⟨#[]⟩, ⟨#[111, 97]⟩] = r := ⟨_, rfl⟩
        obtain ⟨r74, e74⟩ : ∃ r, someV L (j + 3) [(xO l i).product, (xO l i).product, ⟨#[122, 122]⟩, ⟨#[]⟩] = r := ⟨_, rfl⟩
        obtain ⟨r81, e81⟩ : ∃ r, pickV L (j + 4) [(xO l i).count, 0, 100001] = r := ⟨_, rfl⟩
        obtain ⟨r88, e88⟩ : ∃ r, pickV L (j + 5) [(xO l i).ready, -1, 345686400000] = r := ⟨_, rfl⟩
        obtain ⟨r99, e99⟩ : ∃ r, pickV L (j + 6) [(xO l i).due, (xO l i).due, 345686400000] = r := ⟨_, rfl⟩
        refine VC.draw (fun jj b => (jj ∈ [54, 57, 60, 63, 66] ∧ b = gr) ∨ (jj ∈ [15, 26, 33, 40, 51] ∧ b = p)) hB (by kernel_rfl) ?_
        refine VA.td (i := 0) rfl (OpV.move (.inl rfl) rfl) ?_
        refine VA.td (i := 1) rfl (OpV.move (.inl rfl) rfl) ?_
        refine VA.td (i := 2) rfl (OpV.move (.inl rfl) rfl) ?_
        refine VA.td (i := 3) rfl (OpV.move (.inl rfl) rfl) ?_
        refine VA.td (i := 4) rfl (OpV.move (.inl rfl) rfl) ?_
        refine VA.td (i := 5) rfl (OpV.move (.inl rfl) rfl) ?_
        refine VA.td (i := 6) rfl (OpV.move (.inl rfl) rfl) ?_
        refine VA.td (i := 7) rfl (OpV.nilCheck rfl rfl) ?_
        refine VA.td (i := 8) rfl (OpV.fieldAddrO 0 rfl Tryz.underlying110 rfl rfl Tryz.sizeOf9 rfl) ?_
        refine VA.td (i := 9) rfl (OpV.load_own (i := 1) rfl hB Tryz.isAgg9 rfl rfl (rowL_at rfl (by omega) (by decide)) (Wi.notSS (.inl (by decide +kernel)) nrp)) ?_
        refine VA.td (i := 10) rfl (OpV.move (.inl rfl) rfl) ?_
        refine VA.td (i := 11) rfl (OpV.nilCheck rfl rfl) ?_
        refine VA.td (i := 12) rfl (OpV.fieldAddrO 0 rfl Tryz.underlying110 rfl rfl Tryz.sizeOf9 rfl) ?_
        refine VA.td (i := 13) rfl (OpV.load_own (i := 1) rfl hB Tryz.isAgg9 rfl rfl (rowL_at rfl (by omega) (by decide)) (Wi.notSS (.inl (by decide +kernel)) nrp)) ?_
        refine VA.td (i := 16) rfl (OpV.move (.inl rfl) rfl) ?_
        refine VA.td (i := 17) rfl (OpV.move (.inl rfl) rfl) ?_
        refine VA.td (i := 18) rfl (OpV.nilCheck rfl rfl) ?_
        refine VA.td (i := 19) rfl (OpV.fieldAddrO 1 rfl Tryz.underlying110 rfl rfl Tryz.sizeOf9 rfl) ?_
        refine VA.td (i := 20) rfl (OpV.load_own (i := 1) rfl hB Tryz.isAgg9 rfl rfl (rowL_at rfl (by omega) (by decide)) (Wi.notSS (.inl (by decide +kernel)) nrp)) ?_
        refine VA.td (i := 21) rfl (OpV.move (.inl rfl) rfl) ?_
        refine VA.td (i := 22) rfl (OpV.nilCheck rfl rfl) ?_
        refine VA.td (i := 23) rfl (OpV.fieldAddrO 1 rfl Tryz.underlying110 rfl rfl Tryz.sizeOf9 rfl) ?_
        refine VA.td (i := 24) rfl (OpV.load_own (i := 1) rfl hB Tryz.isAgg9 rfl rfl (rowL_at rfl (by omega) (by decide)) (Wi.notSS (.inl (by decide +kernel)) nrp)) ?_
        refine VA.td (i := 27) rfl (OpV.move (.inl rfl) rfl) ?_
        refine VA.td (i := 28) rfl (OpV.move (.inl rfl) rfl) ?_
        refine VA.td (i := 29) rfl (OpV.nilCheck rfl rfl) ?_
        refine VA.td (i := 30) rfl (OpV.fieldAddrO 2 rfl Tryz.underlying110 rfl rfl Tryz.sizeOf3 rfl) ?_
        refine VA.td (i := 31) rfl (OpV.load_own (i := 1) rfl hB Tryz.isAgg3 rfl rfl (rowL_at rfl (by omega) (by decide)) (Wi.notSS (.inl (by decide +kernel)) nrp)) ?_
        refine VA.td (i := 34) rfl (OpV.move (.inl rfl) rfl) ?_
        refine VA.td (i := 35) rfl (OpV.move (.inl rfl) rfl) ?_
        refine VA.td (i := 36) rfl (OpV.nilCheck rfl rfl) ?_
        refine VA.td (i := 37) rfl (OpV.fieldAddrO 3 rfl Tryz.underlying110 rfl rfl Tryz.sizeOf3 rfl) ?_
        refine VA.td (i := 38) rfl (OpV.load_own (i := 1) rfl hB Tryz.isAgg3 rfl rfl (rowL_at rfl (by omega) (by decide)) (Wi.notSS (.inl (by decide +kernel)) nrp)) ?_
        refine VA.td (i := 41) rfl (OpV.move (.inl rfl) rfl) ?_
        refine VA.td (i := 42) rfl (OpV.move (.inl rfl) rfl) ?_
        refine VA.td (i := 43) rfl (OpV.nilCheck rfl rfl) ?_
        refine VA.td (i := 44) rfl (OpV.fieldAddrO 4 rfl Tryz.underlying110 rfl rfl Tryz.sizeOf3 rfl) ?_
        refine VA.td (i := 45) rfl (OpV.load_own (i := 1) rfl hB Tryz.isAgg3 rfl rfl (rowL_at rfl (by omega) (by decide)) (Wi.notSS (.inl (by decide +kernel)) nrp)) ?_
        refine VA.td (i := 46) rfl (OpV.move (.inl rfl) rfl) ?_
        refine VA.td (i := 47) rfl (OpV.nilCheck rfl rfl) ?_
        refine VA.td (i := 48) rfl (OpV.fieldAddrO 4 rfl Tryz.underlying110 rfl rfl Tryz.sizeOf3 rfl) ?_
        refine VA.td (i := 49) rfl (OpV.load_own (i := 1) rfl hB Tryz.isAgg3 rfl rfl (rowL_at rfl (by omega) (by decide)) (Wi.notSS (.inl (by decide +kernel)) nrp)) ?_
        refine VA.bind (fun F hF => ?_)
        have hS0 : F 13 (lsE 67 54 []) ⟨orders_EZ1 p gr i l capL ++ [(62, (avStrs [(xO l i).key, (xO l i).key, ⟨#[]⟩, ⟨#[111, 97]⟩])), (63, avS r63), (73, (avStrs [(xO l i).product, (xO l i).product, ⟨#[122, 122]⟩, ⟨#[]⟩])), (74, avS r74), (80, (avInts [(xO l i).count, 0, 100001])), (81, avI r81), (87, (avInts [(xO l i).ready, -1, 345686400000])), (88, avI r88), (98, (avInts [(xO l i).due, (xO l i).due, 345686400000])), (99, avI r99), (101, (pO gr (0 + i * 5 + 0)))], [bxStr p a0 cap L (j + 2 + 1 + 1 + 1 + 1 + 1), .box gr ⟨rowL l, 110, capL * 5⟩], 0⟩ := by
          rw [hF]
          refine VA.all (rs := [54]) (by decide +kernel) (by decide) ?_
          refine ⟨⟨_, rfl, .inl rfl, ?_⟩, trivial⟩
          refine OpE.store1 (i := 1) rfl hB rfl Tryz.sizeOf9 rfl rfl rfl rfl rfl rfl (rowL_in rfl (by omega) (by decide)) (rowL_set (x := ({l.getD i default with key := r63} : OrdrS)) rfl (by omega) (by decide) rfl (fun i hi hn => or_upd (by simp) (by simp) (by simp) (by simp) (by simp) i hi hn)) (by first | exact .inl ⟨by decide, rfl⟩) ?_
          refine VA.td (i := 55) rfl (OpV.nilCheck rfl rfl) ?_
          refine VA.td (i := 56) rfl (OpV.fieldAddrO 1 rfl Tryz.underlying110 rfl rfl Tryz.sizeOf9 rfl) ?_
          refine VA.all (rs := [57]) (by decide +kernel) (by decide) ?_
          refine ⟨⟨_, rfl, .inl rfl, ?_⟩, trivial⟩
          refine OpE.store1 (i := 1) rfl hB rfl Tryz.sizeOf9 rfl rfl rfl rfl rfl rfl (rowL_in rfl (by first | omega | (simp only [List.length_set]; omega)) (by decide)) (rowL_set (x := ({l.getD i default with key := r63, product := r74} : OrdrS)) rfl (by first | omega | (simp only [List.length_set]; omega)) (by decide) rfl (fun i hi hn => by rw [getSet_self (by first | omega | (simp only [List.length_set]; omega))]; exact or_upd (by simp) (by simp) (by simp) (by simp) (by simp) i hi hn)) (by first | exact .inl ⟨by decide, rfl⟩) ?_
          refine VA.td (i := 58) rfl (OpV.nilCheck rfl rfl) ?_
          refine VA.td (i := 59) rfl (OpV.fieldAddrO 2 rfl Tryz.underlying110 rfl rfl Tryz.sizeOf3 rfl) ?_
          refine VA.all (rs := [60]) (by decide +kernel) (by decide) ?_
          refine ⟨⟨_, rfl, .inl rfl, ?_⟩, trivial⟩
          refine OpE.store1 (i := 1) rfl hB rfl Tryz.sizeOf3 rfl rfl rfl rfl rfl rfl (rowL_in rfl (by first | omega | (simp only [List.length_set]; omega)) (by decide)) (rowL_set (x := ({l.getD i default with key := r63, product := r74, count := r81} : OrdrS)) rfl (by first | omega | (simp only [List.length_set]; omega)) (by decide) rfl (fun i hi hn => by rw [getSet_self (by first | omega | (simp only [List.length_set]; omega))]; exact or_upd (by simp) (by simp) (by simp) (by simp) (by simp) i hi hn)) (by first | exact .inl ⟨by decide, rfl⟩) ?_
          refine VA.td (i := 61) rfl (OpV.nilCheck rfl rfl) ?_
          refine VA.td (i := 62) rfl (OpV.fieldAddrO 3 rfl Tryz.underlying110 rfl rfl Tryz.sizeOf3 rfl) ?_
          refine VA.all (rs := [63]) (by decide +kernel) (by decide) ?_
          refine ⟨⟨_, rfl, .inl rfl, ?_⟩, trivial⟩
          refine OpE.store1 (i := 1) rfl hB rfl Tryz.sizeOf3 rfl rfl rfl rfl rfl rfl (rowL_in rfl (by first | omega | (simp only [List.length_set]; omega)) (by decide)) (rowL_set (x := ({l.getD i default with key := r63, product := r74, count := r81, ready := r88} : OrdrS)) rfl (by first | omega | (simp only [List.length_set]; omega)) (by decide) rfl (fun i hi hn => by rw [getSet_self (by first | omega | (simp only [List.length_set]; omega))]; exact or_upd (by simp) (by simp) (by simp) (by simp) (by simp) i hi hn)) (by first | exact .inl ⟨by decide, rfl⟩) ?_
          refine VA.td (i := 64) rfl (OpV.nilCheck rfl rfl) ?_
          refine VA.td (i := 65) rfl (OpV.fieldAddrO 4 rfl Tryz.underlying110 rfl rfl Tryz.sizeOf3 rfl) ?_
          refine VA.all (rs := [66]) (by decide +kernel) (by decide) ?_
          refine ⟨⟨_, rfl, .inl rfl, ?_⟩, trivial⟩
          refine OpE.store1 (i := 1) rfl hB rfl Tryz.sizeOf3 rfl rfl rfl rfl rfl rfl (rowL_in rfl (by first | omega | (simp only [List.length_set]; omega)) (by decide)) (rowL_set (x := ({l.getD i default with key := r63, product := r74, count := r81, ready := r88, due := r99} : OrdrS)) rfl (by first | omega | (simp only [List.length_set]; omega)) (by decide) rfl (fun i hi hn => by rw [getSet_self (by first | omega | (simp only [List.length_set]; omega))]; exact or_upd (by simp) (by simp) (by simp) (by simp) (by simp) i hi hn)) (by first | exact .inl ⟨by decide, rfl⟩) ?_
          refine VA.done (by decide +kernel) ?_
          refine VC.sr ?_
          refine VO.mw ?_
          refine VO.mb ?_
          refine VO.nil ?_
          refine VC.le _ (Le.boxT (t := 4) (i := 1) (n := l.length) (xs := (((((l.set i ({l.getD i default with key := r63} : OrdrS)).set i ({l.getD i default with key := r63, product := r74} : OrdrS)).set i ({l.getD i default with key := r63, product := r74, count := r81} : OrdrS)).set i ({l.getD i default with key := r63, product := r74, count := r81, ready := r88} : OrdrS)).set i ({l.getD i default with key := r63, product := r74, count := r81, ready := r88, due := r99} : OrdrS))) hB hnew rfl rfl (by simp) hcap hmx) ?_
          refine VC.ret ?_
          exact Exists.intro _ (And.intro (RetV.one Tryz.results100 (ResV.tmp rfl)) (by first | exact or_out (hV.trans (orTail_0 (by omega))) | exact or_out (hV.trans (orTail_1 (by omega) (by omega))) | exact or_out (hV.trans (orTail_2 (by omega) (by omega) hi e63 e74 e81 e88 e99))))
        have hS1 : F 16 (lsE 67 51 []) ⟨orders_EZ1 p gr i l capL ++ [(62, (avStrs [(xO l i).key, (xO l i).key, ⟨#[]⟩, ⟨#[111, 97]⟩])), (63, avS r63), (73, (avStrs [(xO l i).product, (xO l i).product, ⟨#[122, 122]⟩, ⟨#[]⟩])), (74, avS r74), (80, (avInts [(xO l i).count, 0, 100001])), (81, avI r81), (87, (avInts [(xO l i).ready, -1, 345686400000])), (88, avI r88), (98, (avInts [(xO l i).due, (xO l i).due, 345686400000]))], [bxStr p a0 cap L (j + 2 + 1 + 1 + 1 + 1), .box gr ⟨rowL l, 110, capL * 5⟩], 0⟩ := by
          rw [hF]
          refine VA.all (rs := [51]) (by decide +kernel) (by decide) ?_
          refine ⟨⟨_, rfl, .inl rfl, ?_⟩, trivial⟩
          refine OpE.callHX (rest := [_]) txi_stab hGX rfl hB rfl Tryz.call77 rfl rfl (pick_E (xs := [(xO l i).due, (xO l i).due, 345686400000]) (by omega) (by simp) hp0) (List.Perm.refl _) (fun b h => .inr ⟨by decide, blkStr h⟩) ?_
          rintro _ _ ⟨rfl, rfl⟩
          refine VA.le _ (Le.recast (t := 99) (y := avI r99) rfl (fun w Z u h => by rw [← e99]; exact h)) ?_
          refine VA.td (i := 52) rfl (OpV.nilCheck rfl rfl) ?_
          refine VA.td (i := 53) rfl (OpV.fieldAddrO 0 rfl Tryz.underlying110 rfl rfl Tryz.sizeOf9 rfl) ?_
          have hh := hS0 
          rw [hF] at hh
          exact VA.to hh (by decide +kernel) (Le.mk hB [0, 1] (by repeat first | refine ⟨rfl, ?_⟩ | trivial) rfl rfl (Nat.le_refl _))
        have hS2 : F 17 (lsE 67 50 []) ⟨orders_EZ1 p gr i l capL ++ [(62, (avStrs [(xO l i).key, (xO l i).key, ⟨#[]⟩, ⟨#[111, 97]⟩])), (63, avS r63), (73, (avStrs [(xO l i).product, (xO l i).product, ⟨#[122, 122]⟩, ⟨#[]⟩])), (74, avS r74), (80, (avInts [(xO l i).count, 0, 100001])), (81, avI r81), (87, (avInts [(xO l i).ready, -1, 345686400000])), (88, avI r88)], [bxStr p a0 cap L (j + 2 + 1 + 1 + 1 + 1), .box gr ⟨rowL l, 110, capL * 5⟩], 0⟩ := by
          rw [hF]
          refine VA.all (rs := [50]) (by decide +kernel) (by decide) ?_
          refine ⟨⟨_, rfl, .inl rfl, ?_⟩, trivial⟩
          refine bI rfl hB rfl (by decide) rfl rfl ?_
          refine VA.le _ (Le.lI (t := 98) (xs := [(xO l i).due, (xO l i).due, 345686400000]) rfl rfl) ?_
          have hh := hS1 
          rw [hF] at hh
          exact VA.to hh (by decide +kernel) (Le.mk hB [0, 1] (by repeat first | refine ⟨rfl, ?_⟩ | trivial) rfl rfl (Nat.le_refl _))
        have hS3 : F 17 (lsE 67 51 [40]) ⟨orders_EZ1 p gr i l capL ++ [(62, (avStrs [(xO l i).key, (xO l i).key, ⟨#[]⟩, ⟨#[111, 97]⟩])), (63, avS r63), (73, (avStrs [(xO l i).product, (xO l i).product, ⟨#[122, 122]⟩, ⟨#[]⟩])), (74, avS r74), (80, (avInts [(xO l i).count, 0, 100001])), (81, avI r81), (87, (avInts [(xO l i).ready, -1, 345686400000])), (98, (avInts [(xO l i).due, (xO l i).due, 345686400000]))], [bxStr p a0 cap L (j + 2 + 1 + 1 + 1), .box gr ⟨rowL l, 110, capL * 5⟩], 0⟩ := by
          rw [hF]
          refine VA.all (rs := [40]) (by decide +kernel) (by decide) ?_
          refine ⟨⟨_, rfl, .inl rfl, ?_⟩, trivial⟩
          refine OpE.callHX (rest := [_]) txi_stab hGX rfl hB rfl Tryz.call77 rfl rfl (pick_E (xs := [(xO l i).ready, -1, 345686400000]) (by omega) (by simp) hp0) (List.Perm.refl _) (fun b h => .inr ⟨by decide, blkStr h⟩) ?_
          rintro _ _ ⟨rfl, rfl⟩
          refine VA.le _ (Le.recast (t := 88) (y := avI r88) rfl (fun w Z u h => by rw [← e88]; exact h)) ?_
          have hh := hS1 
          rw [hF] at hh
          exact VA.to hh (by decide +kernel) (Le.mk hB [0, 1] (by repeat first | refine ⟨rfl, ?_⟩ | trivial) rfl rfl (Nat.le_refl _))
        have hS4 : F 18 (lsE 67 50 [40]) ⟨orders_EZ1 p gr i l capL ++ [(62, (avStrs [(xO l i).key, (xO l i).key, ⟨#[]⟩, ⟨#[111, 97]⟩])), (63, avS r63), (73, (avStrs [(xO l i).product, (xO l i).product, ⟨#[122, 122]⟩, ⟨#[]⟩])), (74, avS r74), (80, (avInts [(xO l i).count, 0, 100001])), (81, avI r81), (87, (avInts [(xO l i).ready, -1, 345686400000]))], [bxStr p a0 cap L (j + 2 + 1 + 1 + 1), .box gr ⟨rowL l, 110, capL * 5⟩], 0⟩ := by
          rw [hF]
          refine VA.all (rs := [40, 50]) (by decide +kernel) (by decide) ?_
          refine ⟨⟨_, rfl, .inl rfl, ?_⟩, ⟨_, rfl, .inl rfl, ?_⟩, trivial⟩
          ·
            refine OpE.callHX (rest := [_]) txi_stab hGX rfl hB rfl Tryz.call77 rfl rfl (pick_E (xs := [(xO l i).ready, -1, 345686400000]) (by omega) (by simp) hp0) (List.Perm.refl _) (fun b h => .inr ⟨by decide, blkStr h⟩) ?_
            rintro _ _ ⟨rfl, rfl⟩
            refine VA.le _ (Le.recast (t := 88) (y := avI r88) rfl (fun w Z u h => by rw [← e88]; exact h)) ?_
            have hh := hS2 
            rw [hF] at hh
            exact VA.to hh (by decide +kernel) (Le.mk hB [0, 1] (by repeat first | refine ⟨rfl, ?_⟩ | trivial) rfl rfl (Nat.le_refl _))
          ·
            refine bI rfl hB rfl (by decide) rfl rfl ?_
            refine VA.le _ (Le.lI (t := 98) (xs := [(xO l i).due, (xO l i).due, 345686400000]) rfl rfl) ?_
            have hh := hS3 
            rw [hF] at hh
            exact VA.to hh (by decide +kernel) (Le.mk hB [0, 1] (by repeat first | refine ⟨rfl, ?_⟩ | trivial) rfl rfl (Nat.le_refl _))
        have hS5 : F 18 (lsE 67 51 [39, 40]) ⟨orders_EZ1 p gr i l capL ++ [(62, (avStrs [(xO l i).key, (xO l i).key, ⟨#[]⟩, ⟨#[111, 97]⟩])), (63, avS r63), (73, (avStrs [(xO l i).product, (xO l i).product, ⟨#[122, 122]⟩, ⟨#[]⟩])), (74, avS r74), (80, (avInts [(xO l i).count, 0, 100001])), (81, avI r81), (98, (avInts [(xO l i).due, (xO l i).due, 345686400000]))], [bxStr p a0 cap L (j + 2 + 1 + 1 + 1), .box gr ⟨rowL l, 110, capL * 5⟩], 0⟩ := by
          rw [hF]
          refine VA.all (rs := [39]) (by decide +kernel) (by decide) ?_
          refine ⟨⟨_, rfl, .inl rfl, ?_⟩, trivial⟩
          refine bI rfl hB rfl (by decide) rfl rfl ?_
          refine VA.le _ (Le.lI (t := 87) (xs := [(xO l i).ready, -1, 345686400000]) rfl rfl) ?_
          have hh := hS3 
          rw [hF] at hh
          exact VA.to hh (by decide +kernel) (Le.mk hB [0, 1] (by repeat first | refine ⟨rfl, ?_⟩ | trivial) rfl rfl (Nat.le_refl _))
        have hS6 : F 18 (lsE 67 51 [33, 40]) ⟨orders_EZ1 p gr i l capL ++ [(62, (avStrs [(xO l i).key, (xO l i).key, ⟨#[]⟩, ⟨#[111, 97]⟩])), (63, avS r63), (73, (avStrs [(xO l i).product, (xO l i).product, ⟨#[122, 122]⟩, ⟨#[]⟩])), (74, avS r74), (80, (avInts [(xO l i).count, 0, 100001])), (87, (avInts [(xO l i).ready, -1, 345686400000])), (98, (avInts [(xO l i).due, (xO l i).due, 345686400000]))], [bxStr p a0 cap L (j + 2 + 1 + 1), .box gr ⟨rowL l, 110, capL * 5⟩], 0⟩ := by
          rw [hF]
          refine VA.all (rs := [33]) (by decide +kernel) (by decide) ?_
          refine ⟨⟨_, rfl, .inl rfl, ?_⟩, trivial⟩
          refine OpE.callHX (rest := [_]) txi_stab hGX rfl hB rfl Tryz.call77 rfl rfl (pick_E (xs := [(xO l i).count, 0, 100001]) (by omega) (by simp) hp0) (List.Perm.refl _) (fun b h => .inr ⟨by decide, blkStr h⟩) ?_
          rintro _ _ ⟨rfl, rfl⟩
          refine VA.le _ (Le.recast (t := 81) (y := avI r81) rfl (fun w Z u h => by rw [← e81]; exact h)) ?_
          have hh := hS3 
          rw [hF] at hh
          exact VA.to hh (by decide +kernel) (Le.mk hB [0, 1] (by repeat first | refine ⟨rfl, ?_⟩ | trivial) rfl rfl (Nat.le_refl _))
        have hS7 : F 19 (lsE 67 50 [39, 40]) ⟨orders_EZ1 p gr i l capL ++ [(62, (avStrs [(xO l i).key, (xO l i).key, ⟨#[]⟩, ⟨#[111, 97]⟩])), (63, avS r63), (73, (avStrs [(xO l i).product, (xO l i).product, ⟨#[122, 122]⟩, ⟨#[]⟩])), (74, avS r74), (80, (avInts [(xO l i).count, 0, 100001])), (81, avI r81)], [bxStr p a0 cap L (j + 2 + 1 + 1 + 1), .box gr ⟨rowL l, 110, capL * 5⟩], 0⟩ := by
          rw [hF]
          refine VA.all (rs := [39, 50]) (by decide +kernel) (by decide) ?_
          refine ⟨⟨_, rfl, .inl rfl, ?_⟩, ⟨_, rfl, .inl rfl, ?_⟩, trivial⟩
          ·
            refine bI rfl hB rfl (by decide) rfl rfl ?_
            refine VA.le _ (Le.lI (t := 87) (xs := [(xO l i).ready, -1, 345686400000]) rfl rfl) ?_
            have hh := hS4 
            rw [hF] at hh
            exact VA.to hh (by decide +kernel) (Le.mk hB [0, 1] (by repeat first | refine ⟨rfl, ?_⟩ | trivial) rfl rfl (Nat.le_refl _))
          ·
            refine bI rfl hB rfl (by decide) rfl rfl ?_
            refine VA.le _ (Le.lI (t := 98) (xs := [(xO l i).due, (xO l i).due, 345686400000]) rfl rfl) ?_
            have hh := hS5 
            rw [hF] at hh
            exact VA.to hh (by decide +kernel) (Le.mk hB [0, 1] (by repeat first | refine ⟨rfl, ?_⟩ | trivial) rfl rfl (Nat.le_refl _))
        have hS8 : F 19 (lsE 67 50 [33, 40]) ⟨orders_EZ1 p gr i l capL ++ [(62, (avStrs [(xO l i).key, (xO l i).key, ⟨#[]⟩, ⟨#[111, 97]⟩])), (63, avS r63), (73, (avStrs [(xO l i).product, (xO l i).product, ⟨#[122, 122]⟩, ⟨#[]⟩])), (74, avS r74), (80, (avInts [(xO l i).count, 0, 100001])), (87, (avInts [(xO l i).ready, -1, 345686400000]))], [bxStr p a0 cap L (j + 2 + 1 + 1), .box gr ⟨rowL l, 110, capL * 5⟩], 0⟩ := by
          rw [hF]
          refine VA.all (rs := [33, 50]) (by decide +kernel) (by decide) ?_
          refine ⟨⟨_, rfl, .inl rfl, ?_⟩, ⟨_, rfl, .inl rfl, ?_⟩, trivial⟩
          ·
            refine OpE.callHX (rest := [_]) txi_stab hGX rfl hB rfl Tryz.call77 rfl rfl (pick_E (xs := [(xO l i).count, 0, 100001]) (by omega) (by simp) hp0) (List.Perm.refl _) (fun b h => .inr ⟨by decide, blkStr h⟩) ?_
            rintro _ _ ⟨rfl, rfl⟩
            refine VA.le _ (Le.recast (t := 81) (y := avI r81) rfl (fun w Z u h => by rw [← e81]; exact h)) ?_
            have hh := hS4 
            rw [hF] at hh
            exact VA.to hh (by decide +kernel) (Le.mk hB [0, 1] (by repeat first | refine ⟨rfl, ?_⟩ | trivial) rfl rfl (Nat.le_refl _))
          ·
            refine bI rfl hB rfl (by decide) rfl rfl ?_
            refine VA.le _ (Le.lI (t := 98) (xs := [(xO l i).due, (xO l i).due, 345686400000]) rfl rfl) ?_
            have hh := hS6 
            rw [hF] at hh
            exact VA.to hh (by decide +kernel) (Le.mk hB [0, 1] (by repeat first | refine ⟨rfl, ?_⟩ | trivial) rfl rfl (Nat.le_refl _))
        have hS9 : F 19 (lsE 67 51 [33, 39, 40]) ⟨orders_EZ1 p gr i l capL ++ [(62, (avStrs [(xO l i).key, (xO l i).key, ⟨#[]⟩, ⟨#[111, 97]⟩])), (63, avS r63), (73, (avStrs [(xO l i).product, (xO l i).product, ⟨#[122, 122]⟩, ⟨#[]⟩])), (74, avS r74), (80, (avInts [(xO l i).count, 0, 100001])), (98, (avInts [(xO l i).due, (xO l i).due, 345686400000]))], [bxStr p a0 cap L (j + 2 + 1 + 1), .box gr ⟨rowL l, 110, capL * 5⟩], 0⟩ := by
          rw [hF]
          refine VA.all (rs := [33, 39]) (by decide +kernel) (by decide) ?_
          refine ⟨⟨_, rfl, .inl rfl, ?_⟩, ⟨_, rfl, .inl rfl, ?_⟩, trivial⟩
          ·
            refine OpE.callHX (rest := [_]) txi_stab hGX rfl hB rfl Tryz.call77 rfl rfl (pick_E (xs := [(xO l i).count, 0, 100001]) (by omega) (by simp) hp0) (List.Perm.refl _) (fun b h => .inr ⟨by decide, blkStr h⟩) ?_
            rintro _ _ ⟨rfl, rfl⟩
            refine VA.le _ (Le.recast (t := 81) (y := avI r81) rfl (fun w Z u h => by rw [← e81]; exact h)) ?_
            have hh := hS5 
            rw [hF] at hh
            exact VA.to hh (by decide +kernel) (Le.mk hB [0, 1] (by repeat first | refine ⟨rfl, ?_⟩ | trivial) rfl rfl (Nat.le_refl _))
          ·
            refine bI rfl hB rfl (by decide) rfl rfl ?_
            refine VA.le _ (Le.lI (t := 87) (xs := [(xO l i).ready, -1, 345686400000]) rfl rfl) ?_
            have hh := hS6 
            rw [hF] at hh
            exact VA.to hh (by decide +kernel) (Le.mk hB [0, 1] (by repeat first | refine ⟨rfl, ?_⟩ | trivial) rfl rfl (Nat.le_refl _))
        have hS10 : F 19 (lsE 67 51 [32, 33, 40]) ⟨orders_EZ1 p gr i l capL ++ [(62, (avStrs [(xO l i).key, (xO l i).key, ⟨#[]⟩, ⟨#[111, 97]⟩])), (63, avS r63), (73, (avStrs [(xO l i).product, (xO l i).product, ⟨#[122, 122]⟩, ⟨#[]⟩])), (74, avS r74), (87, (avInts [(xO l i).ready, -1, 345686400000])), (98, (avInts [(xO l i).due, (xO l i).due, 345686400000]))], [bxStr p a0 cap L (j + 2 + 1 + 1), .box gr ⟨rowL l, 110, capL * 5⟩], 0⟩ := by
          rw [hF]
          refine VA.all (rs := [32]) (by decide +kernel) (by decide) ?_
          refine ⟨⟨_, rfl, .inl rfl, ?_⟩, trivial⟩
          refine bI rfl hB rfl (by decide) rfl rfl ?_
          refine VA.le _ (Le.lI (t := 80) (xs := [(xO l i).count, 0, 100001]) rfl rfl) ?_
          have hh := hS6 
          rw [hF] at hh
          exact VA.to hh (by decide +kernel) (Le.mk hB [0, 1] (by repeat first | refine ⟨rfl, ?_⟩ | trivial) rfl rfl (Nat.le_refl _))
        have hS11 : F 19 (lsE 67 51 [26, 33, 40]) ⟨orders_EZ1 p gr i l capL ++ [(62, (avStrs [(xO l i).key, (xO l i).key, ⟨#[]⟩, ⟨#[111, 97]⟩])), (63, avS r63), (73, (avStrs [(xO l i).product, (xO l i).product, ⟨#[122, 122]⟩, ⟨#[]⟩])), (80, (avInts [(xO l i).count, 0, 100001])), (87, (avInts [(xO l i).ready, -1, 345686400000])), (98, (avInts [(xO l i).due, (xO l i).due, 345686400000]))], [bxStr p a0 cap L (j + 2 + 1), .box gr ⟨rowL l, 110, capL * 5⟩], 0⟩ := by
          rw [hF]
          refine VA.all (rs := [26]) (by decide +kernel) (by decide) ?_
          refine ⟨⟨_, rfl, .inl rfl, ?_⟩, trivial⟩
          refine OpE.callHX (rest := [_]) txi_stab hGX rfl hB rfl Tryz.call79 rfl rfl (some_X (xs := [(xO l i).product, (xO l i).product, ⟨#[122, 122]⟩, ⟨#[]⟩]) (by omega) (by simp) hp0) (List.Perm.refl _) (fun b h => .inr ⟨by decide, blkStr h⟩) ?_
          rintro _ _ ⟨rfl, rfl⟩
          refine VA.le _ (Le.recast (t := 74) (y := avS r74) rfl (fun w Z u h => by rw [← e74]; exact h)) ?_
          have hh := hS6 
          rw [hF] at hh
          exact VA.to hh (by decide +kernel) (Le.mk hB [0, 1] (by repeat first | refine ⟨rfl, ?_⟩ | trivial) rfl rfl (Nat.le_refl _))
        have hS12 : F 20 (lsE 67 50 [33, 39, 40]) ⟨orders_EZ1 p gr i l capL ++ [(62, (avStrs [(xO l i).key, (xO l i).key, ⟨#[]⟩, ⟨#[111, 97]⟩])), (63, avS r63), (73, (avStrs [(xO l i).product, (xO l i).product, ⟨#[122, 122]⟩, ⟨#[]⟩])), (74, avS r74), (80, (avInts [(xO l i).count, 0, 100001]))], [bxStr p a0 cap L (j + 2 + 1 + 1), .box gr ⟨rowL l, 110, capL * 5⟩], 0⟩ := by
          rw [hF]
          refine VA.all (rs := [33, 39, 50]) (by decide +kernel) (by decide) ?_
          refine ⟨⟨_, rfl, .inl rfl, ?_⟩, ⟨_, rfl, .inl rfl, ?_⟩, ⟨_, rfl, .inl rfl, ?_⟩, trivial⟩
          ·
            refine OpE.callHX (rest := [_]) txi_stab hGX rfl hB rfl Tryz.call77 rfl rfl (pick_E (xs := [(xO l i).count, 0, 100001]) (by omega) (by simp) hp0) (List.Perm.refl _) (fun b h => .inr ⟨by decide, blkStr h⟩) ?_
            rintro _ _ ⟨rfl, rfl⟩
            refine VA.le _ (Le.recast (t := 81) (y := avI r81) rfl (fun w Z u h => by rw [← e81]; exact h)) ?_
            have hh := hS7 
            rw [hF] at hh
            exact VA.to hh (by decide +kernel) (Le.mk hB [0, 1] (by repeat first | refine ⟨rfl, ?_⟩ | trivial) rfl rfl (Nat.le_refl _))
          ·
            refine bI rfl hB rfl (by decide) rfl rfl ?_
            refine VA.le _ (Le.lI (t := 87) (xs := [(xO l i).ready, -1, 345686400000]) rfl rfl) ?_
            have hh := hS8 
            rw [hF] at hh
            exact VA.to hh (by decide +kernel) (Le.mk hB [0, 1] (by repeat first | refine ⟨rfl, ?_⟩ | trivial) rfl rfl (Nat.le_refl _))
          ·
            refine bI rfl hB rfl (by decide) rfl rfl ?_
            refine VA.le _ (Le.lI (t := 98) (xs := [(xO l i).due, (xO l i).due, 345686400000]) rfl rfl) ?_
            have hh := hS9 
            rw [hF] at hh
            exact VA.to hh (by decide +kernel) (Le.mk hB [0, 1] (by repeat first | refine ⟨rfl, ?_⟩ | trivial) rfl rfl (Nat.le_refl _))
        have hS13 : F 20 (lsE 67 50 [32, 33, 40]) ⟨orders_EZ1 p gr i l capL ++ [(62, (avStrs [(xO l i).key, (xO l i).key, ⟨#[]⟩, ⟨#[111, 97]⟩])), (63, avS r63), (73, (avStrs [(xO l i).product, (xO l i).product, ⟨#[122, 122]⟩, ⟨#[]⟩])), (74, avS r74), (87, (avInts [(xO l i).ready, -1, 345686400000]))], [bxStr p a0 cap L (j + 2 + 1 + 1), .box gr ⟨rowL l, 110, capL * 5⟩], 0⟩ := by
          rw [hF]
          refine VA.all (rs := [32, 50]) (by decide +kernel) (by decide) ?_
          refine ⟨⟨_, rfl, .inl rfl, ?_⟩, ⟨_, rfl, .inl rfl, ?_⟩, trivial⟩
          ·
            refine bI rfl hB rfl (by decide) rfl rfl ?_
            refine VA.le _ (Le.lI (t := 80) (xs := [(xO l i).count, 0, 100001]) rfl rfl) ?_
            have hh := hS8 
            rw [hF] at hh
            exact VA.to hh (by decide +kernel) (Le.mk hB [0, 1] (by repeat first | refine ⟨rfl, ?_⟩ | trivial) rfl rfl (Nat.le_refl _))
          ·
            refine bI rfl hB rfl (by decide) rfl rfl ?_
            refine VA.le _ (Le.lI (t := 98) (xs := [(xO l i).due, (xO l i).due, 345686400000]) rfl rfl) ?_
            have hh := hS10 
            rw [hF] at hh
            exact VA.to hh (by decide +kernel) (Le.mk hB [0, 1] (by repeat first | refine ⟨rfl, ?_⟩ | trivial) rfl rfl (Nat.le_refl _))
        have hS14 : F 20 (lsE 67 51 [32, 33, 39, 40]) ⟨orders_EZ1 p gr i l capL ++ [(62, (avStrs [(xO l i).key, (xO l i).key, ⟨#[]⟩, ⟨#[111, 97]⟩])), (63, avS r63), (73, (avStrs [(xO l i).product, (xO l i).product, ⟨#[122, 122]⟩, ⟨#[]⟩])), (74, avS r74), (98, (avInts [(xO l i).due, (xO l i).due, 345686400000]))], [bxStr p a0 cap L (j + 2 + 1 + 1), .box gr ⟨rowL l, 110, capL * 5⟩], 0⟩ := by
          rw [hF]
          refine VA.all (rs := [32, 39]) (by decide +kernel) (by decide) ?_
          refine ⟨⟨_, rfl, .inl rfl, ?_⟩, ⟨_, rfl, .inl rfl, ?_⟩, trivial⟩
          ·
            refine bI rfl hB rfl (by decide) rfl rfl ?_
            refine VA.le _ (Le.lI (t := 80) (xs := [(xO l i).count, 0, 100001]) rfl rfl) ?_
            have hh := hS9 
            rw [hF] at hh
            exact VA.to hh (by decide +kernel) (Le.mk hB [0, 1] (by repeat first | refine ⟨rfl, ?_⟩ | trivial) rfl rfl (Nat.le_refl _))
          ·
            refine bI rfl hB rfl (by decide) rfl rfl ?_
            refine VA.le _ (Le.lI (t := 87) (xs := [(xO l i).ready, -1, 345686400000]) rfl rfl) ?_
            have hh := hS10 
            rw [hF] at hh
            exact VA.to hh (by decide +kernel) (Le.mk hB [0, 1] (by repeat first | refine ⟨rfl, ?_⟩ | trivial) rfl rfl (Nat.le_refl _))
        have hS15 : F 20 (lsE 67 50 [26, 33, 40]) ⟨orders_EZ1 p gr i l capL ++ [(62, (avStrs [(xO l i).key, (xO l i).key, ⟨#[]⟩, ⟨#[111, 97]⟩])), (63, avS r63), (73, (avStrs [(xO l i).product, (xO l i).product, ⟨#[122, 122]⟩, ⟨#[]⟩])), (80, (avInts [(xO l i).count, 0, 100001])), (87, (avInts [(xO l i).ready, -1, 345686400000]))], [bxStr p a0 cap L (j + 2 + 1), .box gr ⟨rowL l, 110, capL * 5⟩], 0⟩ := by
          rw [hF]
          refine VA.all (rs := [26, 50]) (by decide +kernel) (by decide) ?_
          refine ⟨⟨_, rfl, .inl rfl, ?_⟩, ⟨_, rfl, .inl rfl, ?_⟩, trivial⟩
          ·
            refine OpE.callHX (rest := [_]) txi_stab hGX rfl hB rfl Tryz.call79 rfl rfl (some_X (xs := [(xO l i).product, (xO l i).product, ⟨#[122, 122]⟩, ⟨#[]⟩]) (by omega) (by simp) hp0) (List.Perm.refl _) (fun b h => .inr ⟨by decide, blkStr h⟩) ?_
            rintro _ _ ⟨rfl, rfl⟩
            refine VA.le _ (Le.recast (t := 74) (y := avS r74) rfl (fun w Z u h => by rw [← e74]; exact h)) ?_
            have hh := hS8 
            rw [hF] at hh
            exact VA.to hh (by decide +kernel) (Le.mk hB [0, 1] (by repeat first | refine ⟨rfl, ?_⟩ | trivial) rfl rfl (Nat.le_refl _))
          ·
            refine bI rfl hB rfl (by decide) rfl rfl ?_
            refine VA.le _ (Le.lI (t := 98) (xs := [(xO l i).due, (xO l i).due, 345686400000]) rfl rfl) ?_
            have hh := hS11 
            rw [hF] at hh
            exact VA.to hh (by decide +kernel) (Le.mk hB [0, 1] (by repeat first | refine ⟨rfl, ?_⟩ | trivial) rfl rfl (Nat.le_refl _))
        have hS16 : F 20 (lsE 67 51 [26, 33, 39, 40]) ⟨orders_EZ1 p gr i l capL ++ [(62, (avStrs [(xO l i).key, (xO l i).key, ⟨#[]⟩, ⟨#[111, 97]⟩])), (63, avS r63), (73, (avStrs [(xO l i).product, (xO l i).product, ⟨#[122, 122]⟩, ⟨#[]⟩])), (80, (avInts [(xO l i).count, 0, 100001])), (98, (avInts [(xO l i).due, (xO l i).due, 345686400000]))], [bxStr p a0 cap L (j + 2 + 1), .box gr ⟨rowL l, 110, capL * 5⟩], 0⟩ := by
          rw [hF]
          refine VA.all (rs := [26, 39]) (by decide +kernel) (by decide) ?_
          refine ⟨⟨_, rfl, .inl rfl, ?_⟩, ⟨_, rfl, .inl rfl, ?_⟩, trivial⟩
          ·
            refine OpE.callHX (rest := [_]) txi_stab hGX rfl hB rfl Tryz.call79 rfl rfl (some_X (xs := [(xO l i).product, (xO l i).product, ⟨#[122, 122]⟩, ⟨#[]⟩]) (by omega) (by simp) hp0) (List.Perm.refl _) (fun b h => .inr ⟨by decide, blkStr h⟩) ?_
            rintro _ _ ⟨rfl, rfl⟩
            refine VA.le _ (Le.recast (t := 74) (y := avS r74) rfl (fun w Z u h => by rw [← e74]; exact h)) ?_
            have hh := hS9 
            rw [hF] at hh
            exact VA.to hh (by decide +kernel) (Le.mk hB [0, 1] (by repeat first | refine ⟨rfl, ?_⟩ | trivial) rfl rfl (Nat.le_refl _))
          ·
            refine bI rfl hB rfl (by decide) rfl rfl ?_
            refine VA.le _ (Le.lI (t := 87) (xs := [(xO l i).ready, -1, 345686400000]) rfl rfl) ?_
            have hh := hS11 
            rw [hF] at hh
            exact VA.to hh (by decide +kernel) (Le.mk hB [0, 1] (by repeat first | refine ⟨rfl, ?_⟩ | trivial) rfl rfl (Nat.le_refl _))
        have hS17 : F 20 (lsE 67 51 [26, 32, 33, 40]) ⟨orders_EZ1 p gr i l capL ++ [(62, (avStrs [(xO l i).key, (xO l i).key, ⟨#[]⟩, ⟨#[111, 97]⟩])), (63, avS r63), (73, (avStrs [(xO l i).product, (xO l i).product, ⟨#[122, 122]⟩, ⟨#[]⟩])), (87, (avInts [(xO l i).ready, -1, 345686400000])), (98, (avInts [(xO l i).due, (xO l i).due, 345686400000]))], [bxStr p a0 cap L (j + 2 + 1), .box gr ⟨rowL l, 110, capL * 5⟩], 0⟩ := by
          rw [hF]
          refine VA.all (rs := [26, 32]) (by decide +kernel) (by decide) ?_
          refine ⟨⟨_, rfl, .inl rfl, ?_⟩, ⟨_, rfl, .inl rfl, ?_⟩, trivial⟩
          ·
            refine OpE.callHX (rest := [_]) txi_stab hGX rfl hB rfl Tryz.call79 rfl rfl (some_X (xs := [(xO l i).product, (xO l i).product, ⟨#[122, 122]⟩, ⟨#[]⟩]) (by omega) (by simp) hp0) (List.Perm.refl _) (fun b h => .inr ⟨by decide, blkStr h⟩) ?_
            rintro _ _ ⟨rfl, rfl⟩
            refine VA.le _ (Le.recast (t := 74) (y := avS r74) rfl (fun w Z u h => by rw [← e74]; exact h)) ?_
            have hh := hS10 
            rw [hF] at hh
            exact VA.to hh (by decide +kernel) (Le.mk hB [0, 1] (by repeat first | refine ⟨rfl, ?_⟩ | trivial) rfl rfl (Nat.le_refl _))
          ·
            refine bI rfl hB rfl (by decide) rfl rfl ?_
            refine VA.le _ (Le.lI (t := 80) (xs := [(xO l i).count, 0, 100001]) rfl rfl) ?_
            have hh := hS11 
            rw [hF] at hh
            exact VA.to hh (by decide +kernel) (Le.mk hB [0, 1] (by repeat first | refine ⟨rfl, ?_⟩ | trivial) rfl rfl (Nat.le_refl _))
        have hS18 : F 20 (lsE 67 51 [25, 26, 33, 40]) ⟨orders_EZ1 p gr i l capL ++ [(62, (avStrs [(xO l i).key, (xO l i).key, ⟨#[]⟩, ⟨#[111, 97]⟩])), (63, avS r63), (80, (avInts [(xO l i).count, 0, 100001])), (87, (avInts [(xO l i).ready, -1, 345686400000])), (98, (avInts [(xO l i).due, (xO l i).due, 345686400000]))], [bxStr p a0 cap L (j + 2 + 1), .box gr ⟨rowL l, 110, capL * 5⟩], 0⟩ := by
          rw [hF]
          refine VA.all (rs := [25]) (by decide +kernel) (by decide) ?_
          refine ⟨⟨_, rfl, .inl rfl, ?_⟩, trivial⟩
          refine bS rfl hB rfl (by decide) rfl rfl ?_
          refine VA.le _ (Le.lS (t := 73) (xs := [(xO l i).product, (xO l i).product, ⟨#[122, 122]⟩, ⟨#[]⟩]) rfl rfl) ?_
          have hh := hS11 
          rw [hF] at hh
          exact VA.to hh (by decide +kernel) (Le.mk hB [0, 1] (by repeat first | refine ⟨rfl, ?_⟩ | trivial) rfl rfl (Nat.le_refl _))
        have hS19 : F 20 (lsE 67 51 [15, 26, 33, 40]) ⟨orders_EZ1 p gr i l capL ++ [(62, (avStrs [(xO l i).key, (xO l i).key, ⟨#[]⟩, ⟨#[111, 97]⟩])), (73, (avStrs [(xO l i).product, (xO l i).product, ⟨#[122, 122]⟩, ⟨#[]⟩])), (80, (avInts [(xO l i).count, 0, 100001])), (87, (avInts [(xO l i).ready, -1, 345686400000])), (98, (avInts [(xO l i).due, (xO l i).due, 345686400000]))], [bxStr p a0 cap L (j + 2), .box gr ⟨rowL l, 110, capL * 5⟩], 0⟩ := by
          rw [hF]
          refine VA.all (rs := [15]) (by decide +kernel) (by decide) ?_
          refine ⟨⟨_, rfl, .inl rfl, ?_⟩, trivial⟩
          refine OpE.callHX (rest := [_]) txi_stab hGX rfl hB rfl Tryz.call79 rfl rfl (some_X (xs := [(xO l i).key, (xO l i).key, ⟨#[]⟩, ⟨#[111, 97]⟩]) (by omega) (by simp) hp0) (List.Perm.refl _) (fun b h => .inr ⟨by decide, blkStr h⟩) ?_
          rintro _ _ ⟨rfl, rfl⟩
          refine VA.le _ (Le.recast (t := 63) (y := avS r63) rfl (fun w Z u h => by rw [← e63]; exact h)) ?_
          have hh := hS11 
          rw [hF] at hh
          exact VA.to hh (by decide +kernel) (Le.mk hB [0, 1] (by repeat first | refine ⟨rfl, ?_⟩ | trivial) rfl rfl (Nat.le_refl _))
        have hS20 : F 21 (lsE 67 50 [32, 33, 39, 40]) ⟨orders_EZ1 p gr i l capL ++ [(62, (avStrs [(xO l i).key, (xO l i).key, ⟨#[]⟩, ⟨#[111, 97]⟩])), (63, avS r63), (73, (avStrs [(xO l i).product, (xO l i).product, ⟨#[122, 122]⟩, ⟨#[]⟩])), (74, avS r74)], [bxStr p a0 cap L (j + 2 + 1 + 1), .box gr ⟨rowL l, 110, capL * 5⟩], 0⟩ := by
          rw [hF]
          refine VA.all (rs := [32, 39, 50]) (by decide +kernel) (by decide) ?_
          refine ⟨⟨_, rfl, .inl rfl, ?_⟩, ⟨_, rfl, .inl rfl, ?_⟩, ⟨_, rfl, .inl rfl, ?_⟩, trivial⟩
          ·
            refine bI rfl hB rfl (by decide) rfl rfl ?_
            refine VA.le _ (Le.lI (t := 80) (xs := [(xO l i).count, 0, 100001]) rfl rfl) ?_
            have hh := hS12 
            rw [hF] at hh
            exact VA.to hh (by decide +kernel) (Le.mk hB [0, 1] (by repeat first | refine ⟨rfl, ?_⟩ | trivial) rfl rfl (Nat.le_refl _))
          ·
            refine bI rfl hB rfl (by decide) rfl rfl ?_
            refine VA.le _ (Le.lI (t := 87) (xs := [(xO l i).ready, -1, 345686400000]) rfl rfl) ?_
            have hh := hS13 
            rw [hF] at hh
            exact VA.to hh (by decide +kernel) (Le.mk hB [0, 1] (by repeat first | refine ⟨rfl, ?_⟩ | trivial) rfl rfl (Nat.le_refl _))
          ·
            refine bI rfl hB rfl (by decide) rfl rfl ?_
            refine VA.le _ (Le.lI (t := 98) (xs := [(xO l i).due, (xO l i).due, 345686400000]) rfl rfl) ?_
            have hh := hS14 
            rw [hF] at hh
            exact VA.to hh (by decide +kernel) (Le.mk hB [0, 1] (by repeat first | refine ⟨rfl, ?_⟩ | trivial) rfl rfl (Nat.le_refl _))
        have hS21 : F 21 (lsE 67 50 [26, 33, 39, 40]) ⟨orders_EZ1 p gr i l capL ++ [(62, (avStrs [(xO l i).key, (xO l i).key, ⟨#[]⟩, ⟨#[111, 97]⟩])), (63, avS r63), (73, (avStrs [(xO l i).product, (xO l i).product, ⟨#[122, 122]⟩, ⟨#[]⟩])), (80, (avInts [(xO l i).count, 0, 100001]))], [bxStr p a0 cap L (j + 2 + 1), .box gr ⟨rowL l, 110, capL * 5⟩], 0⟩ := by
          rw [hF]
          refine VA.all (rs := [26, 39, 50]) (by decide +kernel) (by decide) ?_
          refine ⟨⟨_, rfl, .inl rfl, ?_⟩, ⟨_, rfl, .inl rfl, ?_⟩, ⟨_, rfl, .inl rfl, ?_⟩, trivial⟩
          ·
            refine OpE.callHX (rest := [_]) txi_stab hGX rfl hB rfl Tryz.call79 rfl rfl (some_X (xs := [(xO l i).product, (xO l i).product, ⟨#[122, 122]⟩, ⟨#[]⟩]) (by omega) (by simp) hp0) (List.Perm.refl _) (fun b h => .inr ⟨by decide, blkStr h⟩) ?_
            rintro _ _ ⟨rfl, rfl⟩
            refine VA.le _ (Le.recast (t := 74) (y := avS r74) rfl (fun w Z u h => by rw [← e74]; exact h)) ?_
            have hh := hS12 
            rw [hF] at hh
            exact VA.to hh (by decide +kernel) (Le.mk hB [0, 1] (by repeat first | refine ⟨rfl, ?_⟩ | trivial) rfl rfl (Nat.le_refl _))
          ·
            refine bI rfl hB rfl (by decide) rfl rfl ?_
            refine VA.le _ (Le.lI (t := 87) (xs := [(xO l i).ready, -1, 345686400000]) rfl rfl) ?_
            have hh := hS15 
            rw [hF] at hh
            exact VA.to hh (by decide +kernel) (Le.mk hB [0, 1] (by repeat first | refine ⟨rfl, ?_⟩ | trivial) rfl rfl (Nat.le_refl _))
          ·
            refine bI rfl hB rfl (by decide) rfl rfl ?_
            refine VA.le _ (Le.lI (t := 98) (xs := [(xO l i).due, (xO l i).due, 345686400000]) rfl rfl) ?_
            have hh := hS16 
            rw [hF] at hh
            exact VA.to hh (by decide +kernel) (Le.mk hB [0, 1] (by repeat first | refine ⟨rfl, ?_⟩ | trivial) rfl rfl (Nat.le_refl _))
        have hS22 : F 21 (lsE 67 50 [26, 32, 33, 40]) ⟨orders_EZ1 p gr i l capL ++ [(62, (avStrs [(xO l i).key, (xO l i).key, ⟨#[]⟩, ⟨#[111, 97]⟩])), (63, avS r63), (73, (avStrs [(xO l i).product, (xO l i).product, ⟨#[122, 122]⟩, ⟨#[]⟩])), (87, (avInts [(xO l i).ready, -1, 345686400000]))], [bxStr p a0 cap L (j + 2 + 1), .box gr ⟨rowL l, 110, capL * 5⟩], 0⟩ := by
          rw [hF]
          refine VA.all (rs := [26, 32, 50]) (by decide +kernel) (by decide) ?_
          refine ⟨⟨_, rfl, .inl rfl, ?_⟩, ⟨_, rfl, .inl rfl, ?_⟩, ⟨_, rfl, .inl rfl, ?_⟩, trivial⟩
          ·
            refine OpE.callHX (rest := [_]) txi_stab hGX rfl hB rfl Tryz.call79 rfl rfl (some_X (xs := [(xO l i).product, (xO l i).product, ⟨#[122, 122]⟩, ⟨#[]⟩]) (by omega) (by simp) hp0) (List.Perm.refl _) (fun b h => .inr ⟨by decide, blkStr h⟩) ?_
            rintro _ _ ⟨rfl, rfl⟩
            refine VA.le _ (Le.recast (t := 74) (y := avS r74) rfl (fun w Z u h => by rw [← e74]; exact h)) ?_
            have hh := hS13 
            rw [hF] at hh
            exact VA.to hh (by decide +kernel) (Le.mk hB [0, 1] (by repeat first | refine ⟨rfl, ?_⟩ | trivial) rfl rfl (Nat.le_refl _))
          ·
            refine bI rfl hB rfl (by decide) rfl rfl ?_
            refine VA.le _ (Le.lI (t := 80) (xs := [(xO l i).count, 0, 100001]) rfl rfl) ?_
            have hh := hS15 
            rw [hF] at hh
            exact VA.to hh (by decide +kernel) (Le.mk hB [0, 1] (by repeat first | refine ⟨rfl, ?_⟩ | trivial) rfl rfl (Nat.le_refl _))
          ·
            refine bI rfl hB rfl (by decide) rfl rfl ?_
            refine VA.le _ (Le.lI (t := 98) (xs := [(xO l i).due, (xO l i).due, 345686400000]) rfl rfl) ?_
            have hh := hS17 
            rw [hF] at hh
            exact VA.to hh (by decide +kernel) (Le.mk hB [0, 1] (by repeat first | refine ⟨rfl, ?_⟩ | trivial) rfl rfl (Nat.le_refl _))
        have hS23 : F 21 (lsE 67 51 [26, 32, 33, 39, 40]) ⟨orders_EZ1 p gr i l capL ++ [(62, (avStrs [(xO l i).key, (xO l i).key, ⟨#[]⟩, ⟨#[111, 97]⟩])), (63, avS r63), (73, (avStrs [(xO l i).product, (xO l i).product, ⟨#[122, 122]⟩, ⟨#[]⟩])), (98, (avInts [(xO l i).due, (xO l i).due, 345686400000]))], [bxStr p a0 cap L (j + 2 + 1), .box gr ⟨rowL l, 110, capL * 5⟩], 0⟩ := by
          rw [hF]
          refine VA.all (rs := [26, 32, 39]) (by decide +kernel) (by decide) ?_
          refine ⟨⟨_, rfl, .inl rfl, ?_⟩, ⟨_, rfl, .inl rfl, ?_⟩, ⟨_, rfl, .inl rfl, ?_⟩, trivial⟩
          ·
            refine OpE.callHX (rest := [_]) txi_stab hGX rfl hB rfl Tryz.call79 rfl rfl (some_X (xs := [(xO l i).product, (xO l i).product, ⟨#[122, 122]⟩, ⟨#[]⟩]) (by omega) (by simp) hp0) (List.Perm.refl _) (fun b h => .inr ⟨by decide, blkStr h⟩) ?_
            rintro _ _ ⟨rfl, rfl⟩
            refine VA.le _ (Le.recast (t := 74) (y := avS r74) rfl (fun w Z u h => by rw [← e74]; exact h)) ?_
            have hh := hS14 
            rw [hF] at hh
            exact VA.to hh (by decide +kernel) (Le.mk hB [0, 1] (by repeat first | refine ⟨rfl, ?_⟩ | trivial) rfl rfl (Nat.le_refl _))
          ·
            refine bI rfl hB rfl (by decide) rfl rfl ?_
            refine VA.le _ (Le.lI (t := 80) (xs := [(xO l i).count, 0, 100001]) rfl rfl) ?_
            have hh := hS16 
            rw [hF] at hh
            exact VA.to hh (by decide +kernel) (Le.mk hB [0, 1] (by repeat first | refine ⟨rfl, ?_⟩ | trivial) rfl rfl (Nat.le_refl _))
          ·
            refine bI rfl hB rfl (by decide) rfl rfl ?_
            refine VA.le _ (Le.lI (t := 87) (xs := [(xO l i).ready, -1, 345686400000]) rfl rfl) ?_
            have hh := hS17 
            rw [hF] at hh
            exact VA.to hh (by decide +kernel) (Le.mk hB [0, 1] (by repeat first | refine ⟨rfl, ?_⟩ | trivial) rfl rfl (Nat.le_refl _))
        have hS24 : F 21 (lsE 67 50 [25, 26, 33, 40]) ⟨orders_EZ1 p gr i l capL ++ [(62, (avStrs [(xO l i).key, (xO l i).key, ⟨#[]⟩, ⟨#[111, 97]⟩])), (63, avS r63), (80, (avInts [(xO l i).count, 0, 100001])), (87, (avInts [(xO l i).ready, -1, 345686400000]))], [bxStr p a0 cap L (j + 2 + 1), .box gr ⟨rowL l, 110, capL * 5⟩], 0⟩ := by
          rw [hF]
          refine VA.all (rs := [25, 50]) (by decide +kernel) (by decide) ?_
          refine ⟨⟨_, rfl, .inl rfl, ?_⟩, ⟨_, rfl, .inl rfl, ?_⟩, trivial⟩
          ·
            refine bS rfl hB rfl (by decide) rfl rfl ?_
            refine VA.le _ (Le.lS (t := 73) (xs := [(xO l i).product, (xO l i).product, ⟨#[122, 122]⟩, ⟨#[]⟩]) rfl rfl) ?_
            have hh := hS15 
            rw [hF] at hh
            exact VA.to hh (by decide +kernel) (Le.mk hB [0, 1] (by repeat first | refine ⟨rfl, ?_⟩ | trivial) rfl rfl (Nat.le_refl _))
          ·
            refine bI rfl hB rfl (by decide) rfl rfl ?_
            refine VA.le _ (Le.lI (t := 98) (xs := [(xO l i).due, (xO l i).due, 345686400000]) rfl rfl) ?_
            have hh := hS18 
            rw [hF] at hh
            exact VA.to hh (by decide +kernel) (Le.mk hB [0, 1] (by repeat first | refine ⟨rfl, ?_⟩ | trivial) rfl rfl (Nat.le_refl _))
        have hS25 : F 21 (lsE 67 51 [25, 26, 33, 39, 40]) ⟨orders_EZ1 p gr i l capL ++ [(62, (avStrs [(xO l i).key, (xO l i).key, ⟨#[]⟩, ⟨#[111, 97]⟩])), (63, avS r63), (80, (avInts [(xO l i).count, 0, 100001])), (98, (avInts [(xO l i).due, (xO l i).due, 345686400000]))], [bxStr p a0 cap L (j + 2 + 1), .box gr ⟨rowL l, 110, capL * 5⟩], 0⟩ := by
          rw [hF]
          refine VA.all (rs := [25, 39]) (by decide +kernel) (by decide) ?_
          refine ⟨⟨_, rfl, .inl rfl, ?_⟩, ⟨_, rfl, .inl rfl, ?_⟩, trivial⟩
          ·
            refine bS rfl hB rfl (by decide) rfl rfl ?_
            refine VA.le _ (Le.lS (t := 73) (xs := [(xO l i).product, (xO l i).product, ⟨#[122, 122]⟩, ⟨#[]⟩]) rfl rfl) ?_
            have hh := hS16 
            rw [hF] at hh
            exact VA.to hh (by decide +kernel) (Le.mk hB [0, 1] (by repeat first | refine ⟨rfl, ?_⟩ | trivial) rfl rfl (Nat.le_refl _))
          ·
            refine bI rfl hB rfl (by decide) rfl rfl ?_
            refine VA.le _ (Le.lI (t := 87) (xs := [(xO l i).ready, -1, 345686400000]) rfl rfl) ?_
            have hh := hS18 
            rw [hF] at hh
            exact VA.to hh (by decide +kernel) (Le.mk hB [0, 1] (by repeat first | refine ⟨rfl, ?_⟩ | trivial) rfl rfl (Nat.le_refl _))
        have hS26 : F 21 (lsE 67 51 [25, 26, 32, 33, 40]) ⟨orders_EZ1 p gr i l capL ++ [(62, (avStrs [(xO l i).key, (xO l i).key, ⟨#[]⟩, ⟨#[111, 97]⟩])), (63, avS r63), (87, (avInts [(xO l i).ready, -1, 345686400000])), (98, (avInts [(xO l i).due, (xO l i).due, 345686400000]))], [bxStr p a0 cap L (j + 2 + 1), .box gr ⟨rowL l, 110, capL * 5⟩], 0⟩ := by
          rw [hF]
          refine VA.all (rs := [25, 32]) (by decide +kernel) (by decide) ?_
          refine ⟨⟨_, rfl, .inl rfl, ?_⟩, ⟨_, rfl, .inl rfl, ?_⟩, trivial⟩
          ·
            refine bS rfl hB rfl (by decide) rfl rfl ?_
            refine VA.le _ (Le.lS (t := 73) (xs := [(xO l i).product, (xO l i).product, ⟨#[122, 122]⟩, ⟨#[]⟩]) rfl rfl) ?_
            have hh := hS17 
            rw [hF] at hh
            exact VA.to hh (by decide +kernel) (Le.mk hB [0, 1] (by repeat first | refine ⟨rfl, ?_⟩ | trivial) rfl rfl (Nat.le_refl _))
          ·
            refine bI rfl hB rfl (by decide) rfl rfl ?_
            refine VA.le _ (Le.lI (t := 80) (xs := [(xO l i).count, 0, 100001]) rfl rfl) ?_
            have hh := hS18 
            rw [hF] at hh
            exact VA.to hh (by decide +kernel) (Le.mk hB [0, 1] (by repeat first | refine ⟨rfl, ?_⟩ | trivial) rfl rfl (Nat.le_refl _))
        have hS27 : F 21 (lsE 67 50 [15, 26, 33, 40]) ⟨orders_EZ1 p gr i l capL ++ [(62, (avStrs [(xO l i).key, (xO l i).key, ⟨#[]⟩, ⟨#[111, 97]⟩])), (73, (avStrs [(xO l i).product, (xO l i).product, ⟨#[122, 122]⟩, ⟨#[]⟩])), (80, (avInts [(xO l i).count, 0, 100001])), (87, (avInts [(xO l i).ready, -1, 345686400000]))], [bxStr p a0 cap L (j + 2), .box gr ⟨rowL l, 110, capL * 5⟩], 0⟩ := by
          rw [hF]
          refine VA.all (rs := [15, 50]) (by decide +kernel) (by decide) ?_
          refine ⟨⟨_, rfl, .inl rfl, ?_⟩, ⟨_, rfl, .inl rfl, ?_⟩, trivial⟩
          ·
            refine OpE.callHX (rest := [_]) txi_stab hGX rfl hB rfl Tryz.call79 rfl rfl (some_X (xs := [(xO l i).key, (xO l i).key, ⟨#[]⟩, ⟨#[111, 97]⟩]) (by omega) (by simp) hp0) (List.Perm.refl _) (fun b h => .inr ⟨by decide, blkStr h⟩) ?_
            rintro _ _ ⟨rfl, rfl⟩
            refine VA.le _ (Le.recast (t := 63) (y := avS r63) rfl (fun w Z u h => by rw [← e63]; exact h)) ?_
            have hh := hS15 
            rw [hF] at hh
            exact VA.to hh (by decide +kernel) (Le.mk hB [0, 1] (by repeat first | refine ⟨rfl, ?_⟩ | trivial) rfl rfl (Nat.le_refl _))
          ·
            refine bI rfl hB rfl (by decide) rfl rfl ?_
            refine VA.le _ (Le.lI (t := 98) (xs := [(xO l i).due, (xO l i).due, 345686400000]) rfl rfl) ?_
            have hh := hS19 
            rw [hF] at hh
            exact VA.to hh (by decide +kernel) (Le.mk hB [0, 1] (by repeat first | refine ⟨rfl, ?_⟩ | trivial) rfl rfl (Nat.le_refl _))
        have hS28 : F 21 (lsE 67 51 [15, 26, 33, 39, 40]) ⟨orders_EZ1 p gr i l capL ++ [(62, (avStrs [(xO l i).key, (xO l i).key, ⟨#[]⟩, ⟨#[111, 97]⟩])), (73, (avStrs [(xO l i).product, (xO l i).product, ⟨#[122, 122]⟩, ⟨#[]⟩])), (80, (avInts [(xO l i).count, 0, 100001])), (98, (avInts [(xO l i).due, (xO l i).due, 345686400000]))], [bxStr p a0 cap L (j + 2), .box gr ⟨rowL l, 110, capL * 5⟩], 0⟩ := by
          rw [hF]
          refine VA.all (rs := [15, 39]) (by decide +kernel) (by decide) ?_
          refine ⟨⟨_, rfl, .inl rfl, ?_⟩, ⟨_, rfl, .inl rfl, ?_⟩, trivial⟩
          ·
            refine OpE.callHX (rest := [_]) txi_stab hGX rfl hB rfl Tryz.call79 rfl rfl (some_X (xs := [(xO l i).key, (xO l i).key, ⟨#[]⟩, ⟨#[111, 97]⟩]) (by omega) (by simp) hp0) (List.Perm.refl _) (fun b h => .inr ⟨by decide, blkStr h⟩) ?_
            rintro _ _ ⟨rfl, rfl⟩
            refine VA.le _ (Le.recast (t := 63) (y := avS r63) rfl (fun w Z u h => by rw [← e63]; exact h)) ?_
            have hh := hS16 
            rw [hF] at hh
            exact VA.to hh (by decide +kernel) (Le.mk hB [0, 1] (by repeat first | refine ⟨rfl, ?_⟩ | trivial) rfl rfl (Nat.le_refl _))
          ·
            refine bI rfl hB rfl (by decide) rfl rfl ?_
            refine VA.le _ (Le.lI (t := 87) (xs := [(xO l i).ready, -1, 345686400000]) rfl rfl) ?_
            have hh := hS19 
            rw [hF] at hh
            exact VA.to hh (by decide +kernel) (Le.mk hB [0, 1] (by repeat first | refine ⟨rfl, ?_⟩ | trivial) rfl rfl (Nat.le_refl _))
        have hS29 : F 21 (lsE 67 51 [15, 26, 32, 33, 40]) ⟨orders_EZ1 p gr i l capL ++ [(62, (avStrs [(xO l i).key, (xO l i).key, ⟨#[]⟩, ⟨#[111, 97]⟩])), (73, (avStrs [(xO l i).product, (xO l i).product, ⟨#[122, 122]⟩, ⟨#[]⟩])), (87, (avInts [(xO l i).ready, -1, 345686400000])), (98, (avInts [(xO l i).due, (xO l i).due, 345686400000]))], [bxStr p a0 cap L (j + 2), .box gr ⟨rowL l, 110, capL * 5⟩], 0⟩ := by
          rw [hF]
          refine VA.all (rs := [15, 32]) (by decide +kernel) (by decide) ?_
          refine ⟨⟨_, rfl, .inl rfl, ?_⟩, ⟨_, rfl, .inl rfl, ?_⟩, trivial⟩
          ·
            refine OpE.callHX (rest := [_]) txi_stab hGX rfl hB rfl Tryz.call79 rfl rfl (some_X (xs := [(xO l i).key, (xO l i).key, ⟨#[]⟩, ⟨#[111, 97]⟩]) (by omega) (by simp) hp0) (List.Perm.refl _) (fun b h => .inr ⟨by decide, blkStr h⟩) ?_
            rintro _ _ ⟨rfl, rfl⟩
            refine VA.le _ (Le.recast (t := 63) (y := avS r63) rfl (fun w Z u h => by rw [← e63]; exact h)) ?_
            have hh := hS17 
            rw [hF] at hh
            exact VA.to hh (by decide +kernel) (Le.mk hB [0, 1] (by repeat first | refine ⟨rfl, ?_⟩ | trivial) rfl rfl (Nat.le_refl _))
          ·
            refine bI rfl hB rfl (by decide) rfl rfl ?_
            refine VA.le _ (Le.lI (t := 80) (xs := [(xO l i).count, 0, 100001]) rfl rfl) ?_
            have hh := hS19 
            rw [hF] at hh
            exact VA.to hh (by decide +kernel) (Le.mk hB [0, 1] (by repeat first | refine ⟨rfl, ?_⟩ | trivial) rfl rfl (Nat.le_refl _))
        have hS30 : F 21 (lsE 67 51 [15, 25, 26, 33, 40]) ⟨orders_EZ1 p gr i l capL ++ [(62, (avStrs [(xO l i).key, (xO l i).key, ⟨#[]⟩, ⟨#[111, 97]⟩])), (80, (avInts [(xO l i).count, 0, 100001])), (87, (avInts [(xO l i).ready, -1, 345686400000])), (98, (avInts [(xO l i).due, (xO l i).due, 345686400000]))], [bxStr p a0 cap L (j + 2), .box gr ⟨rowL l, 110, capL * 5⟩], 0⟩ := by
          rw [hF]
          refine VA.all (rs := [15, 25]) (by decide +kernel) (by decide) ?_
          refine ⟨⟨_, rfl, .inl rfl, ?_⟩, ⟨_, rfl, .inl rfl, ?_⟩, trivial⟩
          ·
            refine OpE.callHX (rest := [_]) txi_stab hGX rfl hB rfl Tryz.call79 rfl rfl (some_X (xs := [(xO l i).key, (xO l i).key, ⟨#[]⟩, ⟨#[111, 97]⟩]) (by omega) (by simp) hp0) (List.Perm.refl _) (fun b h => .inr ⟨by decide, blkStr h⟩) ?_
            rintro _ _ ⟨rfl, rfl⟩
            refine VA.le _ (Le.recast (t := 63) (y := avS r63) rfl (fun w Z u h => by rw [← e63]; exact h)) ?_
            have hh := hS18 
            rw [hF] at hh
            exact VA.to hh (by decide +kernel) (Le.mk hB [0, 1] (by repeat first | refine ⟨rfl, ?_⟩ | trivial) rfl rfl (Nat.le_refl _))
          ·
            refine bS rfl hB rfl (by decide) rfl rfl ?_
            refine VA.le _ (Le.lS (t := 73) (xs := [(xO l i).product, (xO l i).product, ⟨#[122, 122]⟩, ⟨#[]⟩]) rfl rfl) ?_
            have hh := hS19 
            rw [hF] at hh
            exact VA.to hh (by decide +kernel) (Le.mk hB [0, 1] (by repeat first | refine ⟨rfl, ?_⟩ | trivial) rfl rfl (Nat.le_refl _))
        have hS31 : F 21 (lsE 67 51 [14, 15, 26, 33, 40]) ⟨orders_EZ1 p gr i l capL ++ [(73, (avStrs [(xO l i).product, (xO l i).product, ⟨#[122, 122]⟩, ⟨#[]⟩])), (80, (avInts [(xO l i).count, 0, 100001])), (87, (avInts [(xO l i).ready, -1, 345686400000])), (98, (avInts [(xO l i).due, (xO l i).due, 345686400000]))], [bxStr p a0 cap L (j + 2), .box gr ⟨rowL l, 110, capL * 5⟩], 0⟩ := by
          rw [hF]
          refine VA.all (rs := [14]) (by decide +kernel) (by decide) ?_
          refine ⟨⟨_, rfl, .inl rfl, ?_⟩, trivial⟩
          refine bS rfl hB rfl (by decide) rfl rfl ?_
          refine VA.le _ (Le.lS (t := 62) (xs := [(xO l i).key, (xO l i).key, ⟨#[]⟩, ⟨#[111, 97]⟩]) rfl rfl) ?_
          have hh := hS19 
          rw [hF] at hh
          exact VA.to hh (by decide +kernel) (Le.mk hB [0, 1] (by repeat first | refine ⟨rfl, ?_⟩ | trivial) rfl rfl (Nat.le_refl _))
        have hS32 : F 22 (lsE 67 50 [26, 32, 33, 39, 40]) ⟨orders_EZ1 p gr i l capL ++ [(62, (avStrs [(xO l i).key, (xO l i).key, ⟨#[]⟩, ⟨#[111, 97]⟩])), (63, avS r63), (73, (avStrs [(xO l i).product, (xO l i).product, ⟨#[122, 122]⟩, ⟨#[]⟩]))], [bxStr p a0 cap L (j + 2 + 1), .box gr ⟨rowL l, 110, capL * 5⟩], 0⟩ := by
          rw [hF]
          refine VA.all (rs := [26, 32, 39, 50]) (by decide +kernel) (by decide) ?_
          refine ⟨⟨_, rfl, .inl rfl, ?_⟩, ⟨_, rfl, .inl rfl, ?_⟩, ⟨_, rfl, .inl rfl, ?_⟩, ⟨_, rfl, .inl rfl, ?_⟩, trivial⟩
          ·
            refine OpE.callHX (rest := [_]) txi_stab hGX rfl hB rfl Tryz.call79 rfl rfl (some_X (xs := [(xO l i).product, (xO l i).product, ⟨#[122, 122]⟩, ⟨#[]⟩]) (by omega) (by simp) hp0) (List.Perm.refl _) (fun b h => .inr ⟨by decide, blkStr h⟩) ?_
            rintro _ _ ⟨rfl, rfl⟩
            refine VA.le _ (Le.recast (t := 74) (y := avS r74) rfl (fun w Z u h => by rw [← e74]; exact h)) ?_
            have hh := hS20 
            rw [hF] at hh
            exact VA.to hh (by decide +kernel) (Le.mk hB [0, 1] (by repeat first | refine ⟨rfl, ?_⟩ | trivial) rfl rfl (Nat.le_refl _))
          ·
            refine bI rfl hB rfl (by decide) rfl rfl ?_
            refine VA.le _ (Le.lI (t := 80) (xs := [(xO l i).count, 0, 100001]) rfl rfl) ?_
            have hh := hS21 
            rw [hF] at hh
            exact VA.to hh (by decide +kernel) (Le.mk hB [0, 1] (by repeat first | refine ⟨rfl, ?_⟩ | trivial) rfl rfl (Nat.le_refl _))
          ·
            refine bI rfl hB rfl (by decide) rfl rfl ?_
            refine VA.le _ (Le.lI (t := 87) (xs := [(xO l i).ready, -1, 345686400000]) rfl rfl) ?_
            have hh := hS22 
            rw [hF] at hh
            exact VA.to hh (by decide +kernel) (Le.mk hB [0, 1] (by repeat first | refine ⟨rfl, ?_⟩ | trivial) rfl rfl (Nat.le_refl _))
          ·
            refine bI rfl hB rfl (by decide) rfl rfl ?_
            refine VA.le _ (Le.lI (t := 98) (xs := [(xO l i).due, (xO l i).due, 345686400000]) rfl rfl) ?_
            have hh := hS23 
            rw [hF] at hh
            exact VA.to hh (by decide +kernel) (Le.mk hB [0, 1] (by repeat first | refine ⟨rfl, ?_⟩ | trivial) rfl rfl (Nat.le_refl _))
        have hS33 : F 22 (lsE 67 50 [25, 26, 33, 39, 40]) ⟨orders_EZ1 p gr i l capL ++ [(62, (avStrs [(xO l i).key, (xO l i).key, ⟨#[]⟩, ⟨#[111, 97]⟩])), (63, avS r63), (80, (avInts [(xO l i).count, 0, 100001]))], [bxStr p a0 cap L (j + 2 + 1), .box gr ⟨rowL l, 110, capL * 5⟩], 0⟩ := by
          rw [hF]
          refine VA.all (rs := [25, 39, 50]) (by decide +kernel) (by decide) ?_
          refine ⟨⟨_, rfl, .inl rfl, ?_⟩, ⟨_, rfl, .inl rfl, ?_⟩, ⟨_, rfl, .inl rfl, ?_⟩, trivial⟩
          ·
            refine bS rfl hB rfl (by decide) rfl rfl ?_
            refine VA.le _ (Le.lS (t := 73) (xs := [(xO l i).product, (xO l i).product, ⟨#[122, 122]⟩, ⟨#[]⟩]) rfl rfl) ?_
            have hh := hS21 
            rw [hF] at hh
            exact VA.to hh (by decide +kernel) (Le.mk hB [0, 1] (by repeat first | refine ⟨rfl, ?_⟩ | trivial) rfl rfl (Nat.le_refl _))
          ·
            refine bI rfl hB rfl (by decide) rfl rfl ?_
            refine VA.le _ (Le.lI (t := 87) (xs := [(xO l i).ready, -1, 345686400000]) rfl rfl) ?_
            have hh := hS24 
            rw [hF] at hh
            exact VA.to hh (by decide +kernel) (Le.mk hB [0, 1] (by repeat first | refine ⟨rfl, ?_⟩ | trivial) rfl rfl (Nat.le_refl _))
          ·
            refine bI rfl hB rfl (by decide) rfl rfl ?_
            refine VA.le _ (Le.lI (t := 98) (xs := [(xO l i).due, (xO l i).due, 345686400000]) rfl rfl) ?_
            have hh := hS25 
            rw [hF] at hh
            exact VA.to hh (by decide +kernel) (Le.mk hB [0, 1] (by repeat first | refine ⟨rfl, ?_⟩ | trivial) rfl rfl (Nat.le_refl _))
        have hS34 : F 22 (lsE 67 50 [25, 26, 32, 33, 40]) ⟨orders_EZ1 p gr i l capL ++ [(62, (avStrs [(xO l i).key, (xO l i).key, ⟨#[]⟩, ⟨#[111, 97]⟩])), (63, avS r63), (87, (avInts [(xO l i).ready, -1, 345686400000]))], [bxStr p a0 cap L (j + 2 + 1), .box gr ⟨rowL l, 110, capL * 5⟩], 0⟩ := by
          rw [hF]
          refine VA.all (rs := [25, 32, 50]) (by decide +kernel) (by decide) ?_
          refine ⟨⟨_, rfl, .inl rfl, ?_⟩, ⟨_, rfl, .inl rfl, ?_⟩, ⟨_, rfl, .inl rfl, ?_⟩, trivial⟩
          ·
            refine bS rfl hB rfl (by decide) rfl rfl ?_
            refine VA.le _ (Le.lS (t := 73) (xs := [(xO l i).product, (xO l i).product, ⟨#[122, 122]⟩, ⟨#[]⟩]) rfl rfl) ?_
            have hh := hS22 
            rw [hF] at hh
            exact VA.to hh (by decide +kernel) (Le.mk hB [0, 1] (by repeat first | refine ⟨rfl, ?_⟩ | trivial) rfl rfl (Nat.le_refl _))
          ·
            refine bI rfl hB rfl (by decide) rfl rfl ?_
            refine VA.le _ (Le.lI (t := 80) (xs := [(xO l i).count, 0, 100001]) rfl rfl) ?_
            have hh := hS24 
            rw [hF] at hh
            exact VA.to hh (by decide +kernel) (Le.mk hB [0, 1] (by repeat first | refine ⟨rfl, ?_⟩ | trivial) rfl rfl (Nat.le_refl _))
          ·
            refine bI rfl hB rfl (by decide) rfl rfl ?_
            refine VA.le _ (Le.lI (t := 98) (xs := [(xO l i).due, (xO l i).due, 345686400000]) rfl rfl) ?_
            have hh := hS26 
            rw [hF] at hh
            exact VA.to hh (by decide +kernel) (Le.mk hB [0, 1] (by repeat first | refine ⟨rfl, ?_⟩ | trivial) rfl rfl (Nat.le_refl _))
        have hS35 : F 22 (lsE 67 51 [25, 26, 32, 33, 39, 40]) ⟨orders_EZ1 p gr i l capL ++ [(62, (avStrs [(xO l i).key, (xO l i).key, ⟨#[]⟩, ⟨#[111, 97]⟩])), (63, avS r63), (98, (avInts [(xO l i).due, (xO l i).due, 345686400000]))], [bxStr p a0 cap L (j + 2 + 1), .box gr ⟨rowL l, 110, capL * 5⟩], 0⟩ := by
          rw [hF]
          refine VA.all (rs := [25, 32, 39]) (by decide +kernel) (by decide) ?_
          refine ⟨⟨_, rfl, .inl rfl, ?_⟩, ⟨_, rfl, .inl rfl, ?_⟩, ⟨_, rfl, .inl rfl, ?_⟩, trivial⟩
          ·
            refine bS rfl hB rfl (by decide) rfl rfl ?_
            refine VA.le _ (Le.lS (t := 73) (xs := [(xO l i).product, (xO l i).product, ⟨#[122, 122]⟩, ⟨#[]⟩]) rfl rfl) ?_
            have hh := hS23 
            rw [hF] at hh
            exact VA.to hh (by decide +kernel) (Le.mk hB [0, 1] (by repeat first | refine ⟨rfl, ?_⟩ | trivial) rfl rfl (Nat.le_refl _))
          ·
            refine bI rfl hB rfl (by decide) rfl rfl ?_
            refine VA.le _ (Le.lI (t := 80) (xs := [(xO l i).count, 0, 100001]) rfl rfl) ?_
            have hh := hS25 
            rw [hF] at hh
            exact VA.to hh (by decide +kernel) (Le.mk hB [0, 1] (by repeat first | refine ⟨rfl, ?_⟩ | trivial) rfl rfl (Nat.le_refl _))
          ·
            refine bI rfl hB rfl (by decide) rfl rfl ?_
            refine VA.le _ (Le.lI (t := 87) (xs := [(xO l i).ready, -1, 345686400000]) rfl rfl) ?_
            have hh := hS26 
            rw [hF] at hh
            exact VA.to hh (by decide +kernel) (Le.mk hB [0, 1] (by repeat first | refine ⟨rfl, ?_⟩ | trivial) rfl rfl (Nat.le_refl _))
        have hS36 : F 22 (lsE 67 50 [15, 26, 33, 39, 40]) ⟨orders_EZ1 p gr i l capL ++ [(62, (avStrs [(xO l i).key, (xO l i).key, ⟨#[]⟩, ⟨#[111, 97]⟩])), (73, (avStrs [(xO l i).product, (xO l i).product, ⟨#[122, 122]⟩, ⟨#[]⟩])), (80, (avInts [(xO l i).count, 0, 100001]))], [bxStr p a0 cap L (j + 2), .box gr ⟨rowL l, 110, capL * 5⟩], 0⟩ := by
          rw [hF]
          refine VA.all (rs := [15, 39, 50]) (by decide +kernel) (by decide) ?_
          refine ⟨⟨_, rfl, .inl rfl, ?_⟩, ⟨_, rfl, .inl rfl, ?_⟩, ⟨_, rfl, .inl rfl, ?_⟩, trivial⟩
          ·
            refine OpE.callHX (rest := [_]) txi_stab hGX rfl hB rfl Tryz.call79 rfl rfl (some_X (xs := [(xO l i).key, (xO l i).key, ⟨#[]⟩, ⟨#[111, 97]⟩]) (by omega) (by simp) hp0) (List.Perm.refl _) (fun b h => .inr ⟨by decide, blkStr h⟩) ?_
            rintro _ _ ⟨rfl, rfl⟩
            refine VA.le _ (Le.recast (t := 63) (y := avS r63) rfl (fun w Z u h => by rw [← e63]; exact h)) ?_
            have hh := hS21 
            rw [hF] at hh
            exact VA.to hh (by decide +kernel) (Le.mk hB [0, 1] (by repeat first | refine ⟨rfl, ?_⟩ | trivial) rfl rfl (Nat.le_refl _))
          ·
            refine bI rfl hB rfl (by decide) rfl rfl ?_
            refine VA.le _ (Le.lI (t := 87) (xs := [(xO l i).ready, -1, 345686400000]) rfl rfl) ?_
            have hh := hS27 
            rw [hF] at hh
            exact VA.to hh (by decide +kernel) (Le.mk hB [0, 1] (by repeat first | refine ⟨rfl, ?_⟩ | trivial) rfl rfl (Nat.le_refl _))
          ·
            refine bI rfl hB rfl (by decide) rfl rfl ?_
            refine VA.le _ (Le.lI (t := 98) (xs := [(xO l i).due, (xO l i).due, 345686400000]) rfl rfl) ?_
            have hh := hS28 
            rw [hF] at hh
            exact VA.to hh (by decide +kernel) (Le.mk hB [0, 1] (by repeat first | refine ⟨rfl, ?_⟩ | trivial) rfl rfl (Nat.le_refl _))
        have hS37 : F 22 (lsE 67 50 [15, 26, 32, 33, 40]) ⟨orders_EZ1 p gr i l capL ++ [(62, (avStrs [(xO l i).key, (xO l i).key, ⟨#[]⟩, ⟨#[111, 97]⟩])), (73, (avStrs [(xO l i).product, (xO l i).product, ⟨#[122, 122]⟩, ⟨#[]⟩])), (87, (avInts [(xO l i).ready, -1, 345686400000]))], [bxStr p a0 cap L (j + 2), .box gr ⟨rowL l, 110, capL * 5⟩], 0⟩ := by
          rw [hF]
          refine VA.all (rs := [15, 32, 50]) (by decide +kernel) (by decide) ?_
          refine ⟨⟨_, rfl, .inl rfl, ?_⟩, ⟨_, rfl, .inl rfl, ?_⟩, ⟨_, rfl, .inl rfl, ?_⟩, trivial⟩
          ·
            refine OpE.callHX (rest := [_]) txi_stab hGX rfl hB rfl Tryz.call79 rfl rfl (some_X (xs := [(xO l i).key, (xO l i).key, ⟨#[]⟩, ⟨#[111, 97]⟩]) (by omega) (by simp) hp0) (List.Perm.refl _) (fun b h => .inr ⟨by decide, blkStr h⟩) ?_
            rintro _ _ ⟨rfl, rfl⟩
            refine VA.le _ (Le.recast (t := 63) (y := avS r63) rfl (fun w Z u h => by rw [← e63]; exact h)) ?_
            have hh := hS22 
            rw [hF] at hh
            exact VA.to hh (by decide +kernel) (Le.mk hB [0, 1] (by repeat first | refine ⟨rfl, ?_⟩ | trivial) rfl rfl (Nat.le_refl _))
          ·
            refine bI rfl hB rfl (by decide) rfl rfl ?_
            refine VA.le _ (Le.lI (t := 80) (xs := [(xO l i).count, 0, 100001]) rfl rfl) ?_
            have hh := hS27 
            rw [hF] at hh
            exact VA.to hh (by decide +kernel) (Le.mk hB [0, 1] (by repeat first | refine ⟨rfl, ?_⟩ | trivial) rfl rfl (Nat.le_refl _))
          ·
            refine bI rfl hB rfl (by decide) rfl rfl ?_
            refine VA.le _ (Le.lI (t := 98) (xs := [(xO l i).due, (xO l i).due, 345686400000]) rfl rfl) ?_
            have hh := hS29 
            rw [hF] at hh
            exact VA.to hh (by decide +kernel) (Le.mk hB [0, 1] (by repeat first | refine ⟨rfl, ?_⟩ | trivial) rfl rfl (Nat.le_refl _))
        have hS38 : F 22 (lsE 67 51 [15, 26, 32, 33, 39, 40]) ⟨orders_EZ1 p gr i l capL ++ [(62, (avStrs [(xO l i).key, (xO l i).key, ⟨#[]⟩, ⟨#[111, 97]⟩])), (73, (avStrs [(xO l i).product, (xO l i).product, ⟨#[122, 122]⟩, ⟨#[]⟩])), (98, (avInts [(xO l i).due, (xO l i).due, 345686400000]))], [bxStr p a0 cap L (j + 2), .box gr ⟨rowL l, 110, capL * 5⟩], 0⟩ := by
          rw [hF]
          refine VA.all (rs := [15, 32, 39]) (by decide +kernel) (by decide) ?_
          refine ⟨⟨_, rfl, .inl rfl, ?_⟩, ⟨_, rfl, .inl rfl, ?_⟩, ⟨_, rfl, .inl rfl, ?_⟩, trivial⟩
          ·
            refine OpE.callHX (rest := [_]) txi_stab hGX rfl hB rfl Tryz.call79 rfl rfl (some_X (xs := [(xO l i).key, (xO l i).key, ⟨#[]⟩, ⟨#[111, 97]⟩]) (by omega) (by simp) hp0) (List.Perm.refl _) (fun b h => .inr ⟨by decide, blkStr h⟩) ?_
            rintro _ _ ⟨rfl, rfl⟩
            refine VA.le _ (Le.recast (t := 63) (y := avS r63) rfl (fun w Z u h => by rw [← e63]; exact h)) ?_
            have hh := hS23 
            rw [hF] at hh
            exact VA.to hh (by decide +kernel) (Le.mk hB [0, 1] (by repeat first | refine ⟨rfl, ?_⟩ | trivial) rfl rfl (Nat.le_refl _))
          ·
            refine bI rfl hB rfl (by decide) rfl rfl ?_
            refine VA.le _ (Le.lI (t := 80) (xs := [(xO l i).count, 0, 100001]) rfl rfl) ?_
            have hh := hS28 
            rw [hF] at hh
            exact VA.to hh (by decide +kernel) (Le.mk hB [0, 1] (by repeat first | refine ⟨rfl, ?_⟩ | trivial) rfl rfl (Nat.le_refl _))
          ·
            refine bI rfl hB rfl (by decide) rfl rfl ?_
            refine VA.le _ (Le.lI (t := 87) (xs := [(xO l i).ready, -1, 345686400000]) rfl rfl) ?_
            have hh := hS29 
            rw [hF] at hh
            exact VA.to hh (by decide +kernel) (Le.mk hB [0, 1] (by repeat first | refine ⟨rfl, ?_⟩ | trivial) rfl rfl (Nat.le_refl _))
        have hS39 : F 22 (lsE 67 50 [15, 25, 26, 33, 40]) ⟨orders_EZ1 p gr i l capL ++ [(62, (avStrs [(xO l i).key, (xO l i).key, ⟨#[]⟩, ⟨#[111, 97]⟩])), (80, (avInts [(xO l i).count, 0, 100001])), (87, (avInts [(xO l i).ready, -1, 345686400000]))], [bxStr p a0 cap L (j + 2), .box gr ⟨rowL l, 110, capL * 5⟩], 0⟩ := by
          rw [hF]
          refine VA.all (rs := [15, 25, 50]) (by decide +kernel) (by decide) ?_
          refine ⟨⟨_, rfl, .inl rfl, ?_⟩, ⟨_, rfl, .inl rfl, ?_⟩, ⟨_, rfl, .inl rfl, ?_⟩, trivial⟩
          ·
            refine OpE.callHX (rest := [_]) txi_stab hGX rfl hB rfl Tryz.call79 rfl rfl (some_X (xs := [(xO l i).key, (xO l i).key, ⟨#[]⟩, ⟨#[111, 97]⟩]) (by omega) (by simp) hp0) (List.Perm.refl _) (fun b h => .inr ⟨by decide, blkStr h⟩) ?_
            rintro _ _ ⟨rfl, rfl⟩
            refine VA.le _ (Le.recast (t := 63) (y := avS r63) rfl (fun w Z u h => by rw [← e63]; exact h)) ?_
            have hh := hS24 
            rw [hF] at hh
            exact VA.to hh (by decide +kernel) (Le.mk hB [0, 1] (by repeat first | refine ⟨rfl, ?_⟩ | trivial) rfl rfl (Nat.le_refl _))
          ·
            refine bS rfl hB rfl (by decide) rfl rfl ?_
            refine VA.le _ (Le.lS (t := 73) (xs := [(xO l i).product, (xO l i).product, ⟨#[122, 122]⟩, ⟨#[]⟩]) rfl rfl) ?_
            have hh := hS27 
            rw [hF] at hh
            exact VA.to hh (by decide +kernel) (Le.mk hB [0, 1] (by repeat first | refine ⟨rfl, ?_⟩ | trivial) rfl rfl (Nat.le_refl _))
          ·
            refine bI rfl hB rfl (by decide) rfl rfl ?_
            refine VA.le _ (Le.lI (t := 98) (xs := [(xO l i).due, (xO l i).due, 345686400000]) rfl rfl) ?_
            have hh := hS30 
            rw [hF] at hh
            exact VA.to hh (by decide +kernel) (Le.mk hB [0, 1] (by repeat first | refine ⟨rfl, ?_⟩ | trivial) rfl rfl (Nat.le_refl _))
        have hS40 : F 22 (lsE 67 51 [15, 25, 26, 33, 39, 40]) ⟨orders_EZ1 p gr i l capL ++ [(62, (avStrs [(xO l i).key, (xO l i).key, ⟨#[]⟩, ⟨#[111, 97]⟩])), (80, (avInts [(xO l i).count, 0, 100001])), (98, (avInts [(xO l i).due, (xO l i).due, 345686400000]))], [bxStr p a0 cap L (j + 2), .box gr ⟨rowL l, 110, capL * 5⟩], 0⟩ := by
          rw [hF]
          refine VA.all (rs := [15, 25, 39]) (by decide +kernel) (by decide) ?_
          refine ⟨⟨_, rfl, .inl rfl, ?_⟩, ⟨_, rfl, .inl rfl, ?_⟩, ⟨_, rfl, .inl rfl, ?_⟩, trivial⟩
          ·
            refine OpE.callHX (rest := [_]) txi_stab hGX rfl hB rfl Tryz.call79 rfl rfl (some_X (xs := [(xO l i).key, (xO l i).key, ⟨#[]⟩, ⟨#[111, 97]⟩]) (by omega) (by simp) hp0) (List.Perm.refl _) (fun b h => .inr ⟨by decide, blkStr h⟩) ?_
            rintro _ _ ⟨rfl, rfl⟩
            refine VA.le _ (Le.recast (t := 63) (y := avS r63) rfl (fun w Z u h => by rw [← e63]; exact h)) ?_
            have hh := hS25 
            rw [hF] at hh
            exact VA.to hh (by decide +kernel) (Le.mk hB [0, 1] (by repeat first | refine ⟨rfl, ?_⟩ | trivial) rfl rfl (Nat.le_refl _))
          ·
            refine bS rfl hB rfl (by decide) rfl rfl ?_
            refine VA.le _ (Le.lS (t := 73) (xs := [(xO l i).product, (xO l i).product, ⟨#[122, 122]⟩, ⟨#[]⟩]) rfl rfl) ?_
            have hh := hS28 
            rw [hF] at hh
            exact VA.to hh (by decide +kernel) (Le.mk hB [0, 1] (by repeat first | refine ⟨rfl, ?_⟩ | trivial) rfl rfl (Nat.le_refl _))
          ·
            refine bI rfl hB rfl (by decide) rfl rfl ?_
            refine VA.le _ (Le.lI (t := 87) (xs := [(xO l i).ready, -1, 345686400000]) rfl rfl) ?_
            have hh := hS30 
            rw [hF] at hh
            exact VA.to hh (by decide +kernel) (Le.mk hB [0, 1] (by repeat first | refine ⟨rfl, ?_⟩ | trivial) rfl rfl (Nat.le_refl _))
        have hS41 : F 22 (lsE 67 51 [15, 25, 26, 32, 33, 40]) ⟨orders_EZ1 p gr i l capL ++ [(62, (avStrs [(xO l i).key, (xO l i).key, ⟨#[]⟩, ⟨#[111, 97]⟩])), (87, (avInts [(xO l i).ready, -1, 345686400000])), (98, (avInts [(xO l i).due, (xO l i).due, 345686400000]))], [bxStr p a0 cap L (j + 2), .box gr ⟨rowL l, 110, capL * 5⟩], 0⟩ := by
          rw [hF]
          refine VA.all (rs := [15, 25, 32]) (by decide +kernel) (by decide) ?_
          refine ⟨⟨_, rfl, .inl rfl, ?_⟩, ⟨_, rfl, .inl rfl, ?_⟩, ⟨_, rfl, .inl rfl, ?_⟩, trivial⟩
          ·
            refine OpE.callHX (rest := [_]) txi_stab hGX rfl hB rfl Tryz.call79 rfl rfl (some_X (xs := [(xO l i).key, (xO l i).key, ⟨#[]⟩, ⟨#[111, 97]⟩]) (by omega) (by simp) hp0) (List.Perm.refl _) (fun b h => .inr ⟨by decide, blkStr h⟩) ?_
            rintro _ _ ⟨rfl, rfl⟩
            refine VA.le _ (Le.recast (t := 63) (y := avS r63) rfl (fun w Z u h => by rw [← e63]; exact h)) ?_
            have hh := hS26 
            rw [hF] at hh
            exact VA.to hh (by decide +kernel) (Le.mk hB [0, 1] (by repeat first | refine ⟨rfl, ?_⟩ | trivial) rfl rfl (Nat.le_refl _))
          ·
            refine bS rfl hB rfl (by decide) rfl rfl ?_
            refine VA.le _ (Le.lS (t := 73) (xs := [(xO l i).product, (xO l i).product, ⟨#[122, 122]⟩, ⟨#[]⟩]) rfl rfl) ?_
            have hh := hS29 
            rw [hF] at hh
            exact VA.to hh (by decide +kernel) (Le.mk hB [0, 1] (by repeat first | refine ⟨rfl, ?_⟩ | trivial) rfl rfl (Nat.le_refl _))
          ·
            refine bI rfl hB rfl (by decide) rfl rfl ?_
            refine VA.le _ (Le.lI (t := 80) (xs := [(xO l i).count, 0, 100001]) rfl rfl) ?_
            have hh := hS30 
            rw [hF] at hh
            exact VA.to hh (by decide +kernel) (Le.mk hB [0, 1] (by repeat first | refine ⟨rfl, ?_⟩ | trivial) rfl rfl (Nat.le_refl _))
        have hS42 : F 22 (lsE 67 50 [14, 15, 26, 33, 40]) ⟨orders_EZ1 p gr i l capL ++ [(73, (avStrs [(xO l i).product, (xO l i).product, ⟨#[122, 122]⟩, ⟨#[]⟩])), (80, (avInts [(xO l i).count, 0, 100001])), (87, (avInts [(xO l i).ready, -1, 345686400000]))], [bxStr p a0 cap L (j + 2), .box gr ⟨rowL l, 110, capL * 5⟩], 0⟩ := by
          rw [hF]
          refine VA.all (rs := [14, 50]) (by decide +kernel) (by decide) ?_
          refine ⟨⟨_, rfl, .inl rfl, ?_⟩, ⟨_, rfl, .inl rfl, ?_⟩, trivial⟩
          ·
            refine bS rfl hB rfl (by decide) rfl rfl ?_
            refine VA.le _ (Le.lS (t := 62) (xs := [(xO l i).key, (xO l i).key, ⟨#[]⟩, ⟨#[111, 97]⟩]) rfl rfl) ?_
            have hh := hS27 
            rw [hF] at hh
            exact VA.to hh (by decide +kernel) (Le.mk hB [0, 1] (by repeat first | refine ⟨rfl, ?_⟩ | trivial) rfl rfl (Nat.le_refl _))
          ·
            refine bI rfl hB rfl (by decide) rfl rfl ?_
            refine VA.le _ (Le.lI (t := 98) (xs := [(xO l i).due, (xO l i).due, 345686400000]) rfl rfl) ?_
            have hh := hS31 
            rw [hF] at hh
            exact VA.to hh (by decide +kernel) (Le.mk hB [0, 1] (by repeat first | refine ⟨rfl, ?_⟩ | trivial) rfl rfl (Nat.le_refl _))
        have hS43 : F 22 (lsE 67 51 [14, 15, 26, 33, 39, 40]) ⟨orders_EZ1 p gr i l capL ++ [(73, (avStrs [(xO l i).product, (xO l i).product, ⟨#[122, 122]⟩, ⟨#[]⟩])), (80, (avInts [(xO l i).count, 0, 100001])), (98, (avInts [(xO l i).due, (xO l i).due, 345686400000]))], [bxStr p a0 cap L (j + 2), .box gr ⟨rowL l, 110, capL * 5⟩], 0⟩ := by
          rw [hF]
          refine VA.all (rs := [14, 39]) (by decide +kernel) (by decide) ?_
          refine ⟨⟨_, rfl, .inl rfl, ?_⟩, ⟨_, rfl, .inl rfl, ?_⟩, trivial⟩
          ·
            refine bS rfl hB rfl (by decide) rfl rfl ?_
            refine VA.le _ (Le.lS (t := 62) (xs := [(xO l i).key, (xO l i).key, ⟨#[]⟩, ⟨#[111, 97]⟩]) rfl rfl) ?_
            have hh := hS28 
            rw [hF] at hh
            exact VA.to hh (by decide +kernel) (Le.mk hB [0, 1] (by repeat first | refine ⟨rfl, ?_⟩ | trivial) rfl rfl (Nat.le_refl _))
          ·
            refine bI rfl hB rfl (by decide) rfl rfl ?_
            refine VA.le _ (Le.lI (t := 87) (xs := [(xO l i).ready, -1, 345686400000]) rfl rfl) ?_
            have hh := hS31 
            rw [hF] at hh
            exact VA.to hh (by decide +kernel) (Le.mk hB [0, 1] (by repeat first | refine ⟨rfl, ?_⟩ | trivial) rfl rfl (Nat.le_refl _))
        have hS44 : F 22 (lsE 67 51 [14, 15, 26, 32, 33, 40]) ⟨orders_EZ1 p gr i l capL ++ [(73, (avStrs [(xO l i).product, (xO l i).product, ⟨#[122, 122]⟩, ⟨#[]⟩])), (87, (avInts [(xO l i).ready, -1, 345686400000])), (98, (avInts [(xO l i).due, (xO l i).due, 345686400000]))], [bxStr p a0 cap L (j + 2), .box gr ⟨rowL l, 110, capL * 5⟩], 0⟩ := by
          rw [hF]
          refine VA.all (rs := [14, 32]) (by decide +kernel) (by decide) ?_
          refine ⟨⟨_, rfl, .inl rfl, ?_⟩, ⟨_, rfl, .inl rfl, ?_⟩, trivial⟩
          ·
            refine bS rfl hB rfl (by decide) rfl rfl ?_
            refine VA.le _ (Le.lS (t := 62) (xs := [(xO l i).key, (xO l i).key, ⟨#[]⟩, ⟨#[111, 97]⟩]) rfl rfl) ?_
            have hh := hS29 
            rw [hF] at hh
            exact VA.to hh (by decide +kernel) (Le.mk hB [0, 1] (by repeat first | refine ⟨rfl, ?_⟩ | trivial) rfl rfl (Nat.le_refl _))
          ·
            refine bI rfl hB rfl (by decide) rfl rfl ?_
            refine VA.le _ (Le.lI (t := 80) (xs := [(xO l i).count, 0, 100001]) rfl rfl) ?_
            have hh := hS31 
            rw [hF] at hh
            exact VA.to hh (by decide +kernel) (Le.mk hB [0, 1] (by repeat first | refine ⟨rfl, ?_⟩ | trivial) rfl rfl (Nat.le_refl _))
        have hS45 : F 22 (lsE 67 51 [14, 15, 25, 26, 33, 40]) ⟨orders_EZ1 p gr i l capL ++ [(80, (avInts [(xO l i).count, 0, 100001])), (87, (avInts [(xO l i).ready, -1, 345686400000])), (98, (avInts [(xO l i).due, (xO l i).due, 345686400000]))], [bxStr p a0 cap L (j + 2), .box gr ⟨rowL l, 110, capL * 5⟩], 0⟩ := by
          rw [hF]
          refine VA.all (rs := [14, 25]) (by decide +kernel) (by decide) ?_
          refine ⟨⟨_, rfl, .inl rfl, ?_⟩, ⟨_, rfl, .inl rfl, ?_⟩, trivial⟩
          ·
            refine bS rfl hB rfl (by decide) rfl rfl ?_
            refine VA.le _ (Le.lS (t := 62) (xs := [(xO l i).key, (xO l i).key, ⟨#[]⟩, ⟨#[111, 97]⟩]) rfl rfl) ?_
            have hh := hS30 
            rw [hF] at hh
            exact VA.to hh (by decide +kernel) (Le.mk hB [0, 1] (by repeat first | refine ⟨rfl, ?_⟩ | trivial) rfl rfl (Nat.le_refl _))
          ·
            refine bS rfl hB rfl (by decide) rfl rfl ?_
            refine VA.le _ (Le.lS (t := 73) (xs := [(xO l i).product, (xO l i).product, ⟨#[122, 122]⟩, ⟨#[]⟩]) rfl rfl) ?_
            have hh := hS31 
            rw [hF] at hh
            exact VA.to hh (by decide +kernel) (Le.mk hB [0, 1] (by repeat first | refine ⟨rfl, ?_⟩ | trivial) rfl rfl (Nat.le_refl _))
        have hS46 : F 23 (lsE 67 50 [25, 26, 32, 33, 39, 40]) ⟨orders_EZ1 p gr i l capL ++ [(62, (avStrs [(xO l i).key, (xO l i).key, ⟨#[]⟩, ⟨#[111, 97]⟩])), (63, avS r63)], [bxStr p a0 cap L (j + 2 + 1), .box gr ⟨rowL l, 110, capL * 5⟩], 0⟩ := by
          rw [hF]
          refine VA.all (rs := [25, 32, 39, 50]) (by decide +kernel) (by decide) ?_
          refine ⟨⟨_, rfl, .inl rfl, ?_⟩, ⟨_, rfl, .inl rfl, ?_⟩, ⟨_, rfl, .inl rfl, ?_⟩, ⟨_, rfl, .inl rfl, ?_⟩, trivial⟩
          ·
            refine bS rfl hB rfl (by decide) rfl rfl ?_
            refine VA.le _ (Le.lS (t := 73) (xs := [(xO l i).product, (xO l i).product, ⟨#[122, 122]⟩, ⟨#[]⟩]) rfl rfl) ?_
            have hh := hS32 
            rw [hF] at hh
            exact VA.to hh (by decide +kernel) (Le.mk hB [0, 1] (by repeat first | refine ⟨rfl, ?_⟩ | trivial) rfl rfl (Nat.le_refl _))
          ·
            refine bI rfl hB rfl (by decide) rfl rfl ?_
            refine VA.le _ (Le.lI (t := 80) (xs := [(xO l i).count, 0, 100001]) rfl rfl) ?_
            have hh := hS33 
            rw [hF] at hh
            exact VA.to hh (by decide +kernel) (Le.mk hB [0, 1] (by repeat first | refine ⟨rfl, ?_⟩ | trivial) rfl rfl (Nat.le_refl _))
          ·
            refine bI rfl hB rfl (by decide) rfl rfl ?_
            refine VA.le _ (Le.lI (t := 87) (xs := [(xO l i).ready, -1, 345686400000]) rfl rfl) ?_
            have hh := hS34 
            rw [hF] at hh
            exact VA.to hh (by decide +kernel) (Le.mk hB [0, 1] (by repeat first | refine ⟨rfl, ?_⟩ | trivial) rfl rfl (Nat.le_refl _))
          ·
            refine bI rfl hB rfl (by decide) rfl rfl ?_
            refine VA.le _ (Le.lI (t := 98) (xs := [(xO l i).due, (xO l i).due, 345686400000]) rfl rfl) ?_
            have hh := hS35 
            rw [hF] at hh
            exact VA.to hh (by decide +kernel) (Le.mk hB [0, 1] (by repeat first | refine ⟨rfl, ?_⟩ | trivial) rfl rfl (Nat.le_refl _))
        have hS47 : F 23 (lsE 67 50 [15, 26, 32, 33, 39, 40]) ⟨orders_EZ1 p gr i l capL ++ [(62, (avStrs [(xO l i).key, (xO l i).key, ⟨#[]⟩, ⟨#[111, 97]⟩])), (73, (avStrs [(xO l i).product, (xO l i).product, ⟨#[122, 122]⟩, ⟨#[]⟩]))], [bxStr p a0 cap L (j + 2), .box gr ⟨rowL l, 110, capL * 5⟩], 0⟩ := by
          rw [hF]
          refine VA.all (rs := [15, 32, 39, 50]) (by decide +kernel) (by decide) ?_
          refine ⟨⟨_, rfl, .inl rfl, ?_⟩, ⟨_, rfl, .inl rfl, ?_⟩, ⟨_, rfl, .inl rfl, ?_⟩, ⟨_, rfl, .inl rfl, ?_⟩, trivial⟩
          ·
            refine OpE.callHX (rest := [_]) txi_stab hGX rfl hB rfl Tryz.call79 rfl rfl (some_X (xs := [(xO l i).key, (xO l i).key, ⟨#[]⟩, ⟨#[111, 97]⟩]) (by omega) (by simp) hp0) (List.Perm.refl _) (fun b h => .inr ⟨by decide, blkStr h⟩) ?_
            rintro _ _ ⟨rfl, rfl⟩
            refine VA.le _ (Le.recast (t := 63) (y := avS r63) rfl (fun w Z u h => by rw [← e63]; exact h)) ?_
            have hh := hS32 
            rw [hF] at hh
            exact VA.to hh (by decide +kernel) (Le.mk hB [0, 1] (by repeat first | refine ⟨rfl, ?_⟩ | trivial) rfl rfl (Nat.le_refl _))
          ·
            refine bI rfl hB rfl (by decide) rfl rfl ?_
            refine VA.le _ (Le.lI (t := 80) (xs := [(xO l i).count, 0, 100001]) rfl rfl) ?_
            have hh := hS36 
            rw [hF] at hh
            exact VA.to hh (by decide +kernel) (Le.mk hB [0, 1] (by repeat first | refine ⟨rfl, ?_⟩ | trivial) rfl rfl (Nat.le_refl _))
          ·
            refine bI rfl hB rfl (by decide) rfl rfl ?_
            refine VA.le _ (Le.lI (t := 87) (xs := [(xO l i).ready, -1, 345686400000]) rfl rfl) ?_
            have hh := hS37 
            rw [hF] at hh
            exact VA.to hh (by decide +kernel) (Le.mk hB [0, 1] (by repeat first | refine ⟨rfl, ?_⟩ | trivial) rfl rfl (Nat.le_refl _))
          ·
            refine bI rfl hB rfl (by decide) rfl rfl ?_
            refine VA.le _ (Le.lI (t := 98) (xs := [(xO l i).due, (xO l i).due, 345686400000]) rfl rfl) ?_
            have hh := hS38 
            rw [hF] at hh
            exact VA.to hh (by decide +kernel) (Le.mk hB [0, 1] (by repeat first | refine ⟨rfl, ?_⟩ | trivial) rfl rfl (Nat.le_refl _))
        have hS48 : F 23 (lsE 67 50 [15, 25, 26, 33, 39, 40]) ⟨orders_EZ1 p gr i l capL ++ [(62, (avStrs [(xO l i).key, (xO l i).key, ⟨#[]⟩, ⟨#[111, 97]⟩])), (80, (avInts [(xO l i).count, 0, 100001]))], [bxStr p a0 cap L (j + 2), .box gr ⟨rowL l, 110, capL * 5⟩], 0⟩ := by
          rw [hF]
          refine VA.all (rs := [15, 25, 39, 50]) (by decide +kernel) (by decide) ?_
          refine ⟨⟨_, rfl, .inl rfl, ?_⟩, ⟨_, rfl, .inl rfl, ?_⟩, ⟨_, rfl, .inl rfl, ?_⟩, ⟨_, rfl, .inl rfl, ?_⟩, trivial⟩
          ·
            refine OpE.callHX (rest := [_]) txi_stab hGX rfl hB rfl Tryz.call79 rfl rfl (some_X (xs := [(xO l i).key, (xO l i).key, ⟨#[]⟩, ⟨#[111, 97]⟩]) (by omega) (by simp) hp0) (List.Perm.refl _) (fun b h => .inr ⟨by decide, blkStr h⟩) ?_
            rintro _ _ ⟨rfl, rfl⟩
            refine VA.le _ (Le.recast (t := 63) (y := avS r63) rfl (fun w Z u h => by rw [← e63]; exact h)) ?_
            have hh := hS33 
            rw [hF] at hh
            exact VA.to hh (by decide +kernel) (Le.mk hB [0, 1] (by repeat first | refine ⟨rfl, ?_⟩ | trivial) rfl rfl (Nat.le_refl _))
          ·
            refine bS rfl hB rfl (by decide) rfl rfl ?_
            refine VA.le _ (Le.lS (t := 73) (xs := [(xO l i).product, (xO l i).product, ⟨#[122, 122]⟩, ⟨#[]⟩]) rfl rfl) ?_
            have hh := hS36 
            rw [hF] at hh
            exact VA.to hh (by decide +kernel) (Le.mk hB [0, 1] (by repeat first | refine ⟨rfl, ?_⟩ | trivial) rfl rfl (Nat.le_refl _))
          ·
            refine bI rfl hB rfl (by decide) rfl rfl ?_
            refine VA.le _ (Le.lI (t := 87) (xs := [(xO l i).ready, -1, 345686400000]) rfl rfl) ?_
            have hh := hS39 
            rw [hF] at hh
            exact VA.to hh (by decide +kernel) (Le.mk hB [0, 1] (by repeat first | refine ⟨rfl, ?_⟩ | trivial) rfl rfl (Nat.le_refl _))
          ·
            refine bI rfl hB rfl (by decide) rfl rfl ?_
            refine VA.le _ (Le.lI (t := 98) (xs := [(xO l i).due, (xO l i).due, 345686400000]) rfl rfl) ?_
            have hh := hS40 
            rw [hF] at hh
            exact VA.to hh (by decide +kernel) (Le.mk hB [0, 1] (by repeat first | refine ⟨rfl, ?_⟩ | trivial) rfl rfl (Nat.le_refl _))
        have hS49 : F 23 (lsE 67 50 [15, 25, 26, 32, 33, 40]) ⟨orders_EZ1 p gr i l capL ++ [(62, (avStrs [(xO l i).key, (xO l i).key, ⟨#[]⟩, ⟨#[111, 97]⟩])), (87, (avInts [(xO l i).ready, -1, 345686400000]))], [bxStr p a0 cap L (j + 2), .box gr ⟨rowL l, 110, capL * 5⟩], 0⟩ := by
          rw [hF]
          refine VA.all (rs := [15, 25, 32, 50]) (by decide +kernel) (by decide) ?_
          refine ⟨⟨_, rfl, .inl rfl, ?_⟩, ⟨_, rfl, .inl rfl, ?_⟩, ⟨_, rfl, .inl rfl, ?_⟩, ⟨_, rfl, .inl rfl, ?_⟩, trivial⟩
          ·
            refine OpE.callHX (rest := [_]) txi_stab hGX rfl hB rfl Tryz.call79 rfl rfl (some_X (xs := [(xO l i).key, (xO l i).key, ⟨#[]⟩, ⟨#[111, 97]⟩]) (by omega) (by simp) hp0) (List.Perm.refl _) (fun b h => .inr ⟨by decide, blkStr h⟩) ?_
            rintro _ _ ⟨rfl, rfl⟩
            refine VA.le _ (Le.recast (t := 63) (y := avS r63) rfl (fun w Z u h => by rw [← e63]; exact h)) ?_
            have hh := hS34 
            rw [hF] at hh
            exact VA.to hh (by decide +kernel) (Le.mk hB [0, 1] (by repeat first | refine ⟨rfl, ?_⟩ | trivial) rfl rfl (Nat.le_refl _))
          ·
            refine bS rfl hB rfl (by decide) rfl rfl ?_
            refine VA.le _ (Le.lS (t := 73) (xs := [(xO l i).product, (xO l i).product, ⟨#[122, 122]⟩, ⟨#[]⟩]) rfl rfl) ?_
            have hh := hS37 
            rw [hF] at hh
            exact VA.to hh (by decide +kernel) (Le.mk hB [0, 1] (by repeat first | refine ⟨rfl, ?_⟩ | trivial) rfl rfl (Nat.le_refl _))
          ·
            refine bI rfl hB rfl (by decide) rfl rfl ?_
            refine VA.le _ (Le.lI (t := 80) (xs := [(xO l i).count, 0, 100001]) rfl rfl) ?_
            have hh := hS39 
            rw [hF] at hh
            exact VA.to hh (by decide +kernel) (Le.mk hB [0, 1] (by repeat first | refine ⟨rfl, ?_⟩ | trivial) rfl rfl (Nat.le_refl _))
          ·
            refine bI rfl hB rfl (by decide) rfl rfl ?_
            refine VA.le _ (Le.lI (t := 98) (xs := [(xO l i).due, (xO l i).due, 345686400000]) rfl rfl) ?_
            have hh := hS41 
            rw [hF] at hh
            exact VA.to hh (by decide +kernel) (Le.mk hB [0, 1] (by repeat first | refine ⟨rfl, ?_⟩ | trivial) rfl rfl (Nat.le_refl _))
        have hS50 : F 23 (lsE 67 51 [15, 25, 26, 32, 33, 39, 40]) ⟨orders_EZ1 p gr i l capL ++ [(62, (avStrs [(xO l i).key, (xO l i).key, ⟨#[]⟩, ⟨#[111, 97]⟩])), (98, (avInts [(xO l i).due, (xO l i).due, 345686400000]))], [bxStr p a0 cap L (j + 2), .box gr ⟨rowL l, 110, capL * 5⟩], 0⟩ := by
          rw [hF]
          refine VA.all (rs := [15, 25, 32, 39]) (by decide +kernel) (by decide) ?_
          refine ⟨⟨_, rfl, .inl rfl, ?_⟩, ⟨_, rfl, .inl rfl, ?_⟩, ⟨_, rfl, .inl rfl, ?_⟩, ⟨_, rfl, .inl rfl, ?_⟩, trivial⟩
          ·
            refine OpE.callHX (rest := [_]) txi_stab hGX rfl hB rfl Tryz.call79 rfl rfl (some_X (xs := [(xO l i).key, (xO l i).key, ⟨#[]⟩, ⟨#[111, 97]⟩]) (by omega) (by simp) hp0) (List.Perm.refl _) (fun b h => .inr ⟨by decide, blkStr h⟩) ?_
            rintro _ _ ⟨rfl, rfl⟩
            refine VA.le _ (Le.recast (t := 63) (y := avS r63) rfl (fun w Z u h => by rw [← e63]; exact h)) ?_
            have hh := hS35 
            rw [hF] at hh
            exact VA.to hh (by decide +kernel) (Le.mk hB [0, 1] (by repeat first | refine ⟨rfl, ?_⟩ | trivial) rfl rfl (Nat.le_refl _))
          ·
            refine bS rfl hB rfl (by decide) rfl rfl ?_
            refine VA.le _ (Le.lS (t := 73) (xs := [(xO l i).product, (xO l i).product, ⟨#[122, 122]⟩, ⟨#[]⟩]) rfl rfl) ?_
            have hh := hS38 
            rw [hF] at hh
            exact VA.to hh (by decide +kernel) (Le.mk hB [0, 1] (by repeat first | refine ⟨rfl, ?_⟩ | trivial) rfl rfl (Nat.le_refl _))
          ·
            refine bI rfl hB rfl (by decide) rfl rfl ?_
            refine VA.le _ (Le.lI (t := 80) (xs := [(xO l i).count, 0, 100001]) rfl rfl) ?_
            have hh := hS40 
            rw [hF] at hh
            exact VA.to hh (by decide +kernel) (Le.mk hB [0, 1] (by repeat first | refine ⟨rfl, ?_⟩ | trivial) rfl rfl (Nat.le_refl _))
          ·
            refine bI rfl hB rfl (by decide) rfl rfl ?_
            refine VA.le _ (Le.lI (t := 87) (xs := [(xO l i).ready, -1, 345686400000]) rfl rfl) ?_
            have hh := hS41 
            rw [hF] at hh
            exact VA.to hh (by decide +kernel) (Le.mk hB [0, 1] (by repeat first | refine ⟨rfl, ?_⟩ | trivial) rfl rfl (Nat.le_refl _))
        have hS51 : F 23 (lsE 67 50 [14, 15, 26, 33, 39, 40]) ⟨orders_EZ1 p gr i l capL ++ [(73, (avStrs [(xO l i).product, (xO l i).product, ⟨#[122, 122]⟩, ⟨#[]⟩])), (80, (avInts [(xO l i).count, 0, 100001]))], [bxStr p a0 cap L (j + 2), .box gr ⟨rowL l, 110, capL * 5⟩], 0⟩ := by
          rw [hF]
          refine VA.all (rs := [14, 39, 50]) (by decide +kernel) (by decide) ?_
          refine ⟨⟨_, rfl, .inl rfl, ?_⟩, ⟨_, rfl, .inl rfl, ?_⟩, ⟨_, rfl, .inl rfl, ?_⟩, trivial⟩
          ·
            refine bS rfl hB rfl (by decide) rfl rfl ?_
            refine VA.le _ (Le.lS (t := 62) (xs := [(xO l i).key, (xO l i).key, ⟨#[]⟩, ⟨#[111, 97]⟩]) rfl rfl) ?_
            have hh := hS36 
            rw [hF] at hh
            exact VA.to hh (by decide +kernel) (Le.mk hB [0, 1] (by repeat first | refine ⟨rfl, ?_⟩ | trivial) rfl rfl (Nat.le_refl _))
          ·
            refine bI rfl hB rfl (by decide) rfl rfl ?_
            refine VA.le _ (Le.lI (t := 87) (xs := [(xO l i).ready, -1, 345686400000]) rfl rfl) ?_
            have hh := hS42 
            rw [hF] at hh
            exact VA.to hh (by decide +kernel) (Le.mk hB [0, 1] (by repeat first | refine ⟨rfl, ?_⟩ | trivial) rfl rfl (Nat.le_refl _))
          ·
            refine bI rfl hB rfl (by decide) rfl rfl ?_
            refine VA.le _ (Le.lI (t := 98) (xs := [(xO l i).due, (xO l i).due, 345686400000]) rfl rfl) ?_
            have hh := hS43 
            rw [hF] at hh
            exact VA.to hh (by decide +kernel) (Le.mk hB [0, 1] (by repeat first | refine ⟨rfl, ?_⟩ | trivial) rfl rfl (Nat.le_refl _))
        have hS52 : F 23 (lsE 67 50 [14, 15, 26, 32, 33, 40]) ⟨orders_EZ1 p gr i l capL ++ [(73, (avStrs [(xO l i).product, (xO l i).product, ⟨#[122, 122]⟩, ⟨#[]⟩])), (87, (avInts [(xO l i).ready, -1, 345686400000]))], [bxStr p a0 cap L (j + 2), .box gr ⟨rowL l, 110, capL * 5⟩], 0⟩ := by
          rw [hF]
          refine VA.all (rs := [14, 32, 50]) (by decide +kernel) (by decide) ?_
          refine ⟨⟨_, rfl, .inl rfl, ?_⟩, ⟨_, rfl, .inl rfl, ?_⟩, ⟨_, rfl, .inl rfl, ?_⟩, trivial⟩
          ·
            refine bS rfl hB rfl (by decide) rfl rfl ?_
            refine VA.le _ (Le.lS (t := 62) (xs := [(xO l i).key, (xO l i).key, ⟨#[]⟩, ⟨#[111, 97]⟩]) rfl rfl) ?_
            have hh := hS37 
            rw [hF] at hh
            exact VA.to hh (by decide +kernel) (Le.mk hB [0, 1] (by repeat first | refine ⟨rfl, ?_⟩ | trivial) rfl rfl (Nat.le_refl _))
          ·
            refine bI rfl hB rfl (by decide) rfl rfl ?_
            refine VA.le _ (Le.lI (t := 80) (xs := [(xO l i).count, 0, 100001]) rfl rfl) ?_
            have hh := hS42 
            rw [hF] at hh
            exact VA.to hh (by decide +kernel) (Le.mk hB [0, 1] (by repeat first | refine ⟨rfl, ?_⟩ | trivial) rfl rfl (Nat.le_refl _))
          ·
            refine bI rfl hB rfl (by decide) rfl rfl ?_
            refine VA.le _ (Le.lI (t := 98) (xs := [(xO l i).due, (xO l i).due, 345686400000]) rfl rfl) ?_
            have hh := hS44 
            rw [hF] at hh
            exact VA.to hh (by decide +kernel) (Le.mk hB [0, 1] (by repeat first | refine ⟨rfl, ?_⟩ | trivial) rfl rfl (Nat.le_refl _))
        have hS53 : F 23 (lsE 67 51 [14, 15, 26, 32, 33, 39, 40]) ⟨orders_EZ1 p gr i l capL ++ [(73, (avStrs [(xO l i).product, (xO l i).product, ⟨#[122, 122]⟩, ⟨#[]⟩])), (98, (avInts [(xO l i).due, (xO l i).due, 345686400000]))], [bxStr p a0 cap L (j + 2), .box gr ⟨rowL l, 110, capL * 5⟩], 0⟩ := by
          rw [hF]
          refine VA.all (rs := [14, 32, 39]) (by decide +kernel) (by decide) ?_
          refine ⟨⟨_, rfl, .inl rfl, ?_⟩, ⟨_, rfl, .inl rfl, ?_⟩, ⟨_, rfl, .inl rfl, ?_⟩, trivial⟩
          ·
            refine bS rfl hB rfl (by decide) rfl rfl ?_
            refine VA.le _ (Le.lS (t := 62) (xs := [(xO l i).key, (xO l i).key, ⟨#[]⟩, ⟨#[111, 97]⟩]) rfl rfl) ?_
            have hh := hS38 
            rw [hF] at hh
            exact VA.to hh (by decide +kernel) (Le.mk hB [0, 1] (by repeat first | refine ⟨rfl, ?_⟩ | trivial) rfl rfl (Nat.le_refl _))
          ·
            refine bI rfl hB rfl (by decide) rfl rfl ?_
            refine VA.le _ (Le.lI (t := 80) (xs := [(xO l i).count, 0, 100001]) rfl rfl) ?_
            have hh := hS43 
            rw [hF] at hh
            exact VA.to hh (by decide +kernel) (Le.mk hB [0, 1] (by repeat first | refine ⟨rfl, ?_⟩ | trivial) rfl rfl (Nat.le_refl _))
          ·
            refine bI rfl hB rfl (by decide) rfl rfl ?_
            refine VA.le _ (Le.lI (t := 87) (xs := [(xO l i).ready, -1, 345686400000]) rfl rfl) ?_
            have hh := hS44 
            rw [hF] at hh
            exact VA.to hh (by decide +kernel) (Le.mk hB [0, 1] (by repeat first | refine ⟨rfl, ?_⟩ | trivial) rfl rfl (Nat.le_refl _))
        have hS54 : F 23 (lsE 67 50 [14, 15, 25, 26, 33, 40]) ⟨orders_EZ1 p gr i l capL ++ [(80, (avInts [(xO l i).count, 0, 100001])), (87, (avInts [(xO l i).ready, -1, 345686400000]))], [bxStr p a0 cap L (j + 2), .box gr ⟨rowL l, 110, capL * 5⟩], 0⟩ := by
          rw [hF]
          refine VA.all (rs := [14, 25, 50]) (by decide +kernel) (by decide) ?_
          refine ⟨⟨_, rfl, .inl rfl, ?_⟩, ⟨_, rfl, .inl rfl, ?_⟩, ⟨_, rfl, .inl rfl, ?_⟩, trivial⟩
          ·
            refine bS rfl hB rfl (by decide) rfl rfl ?_
            refine VA.le _ (Le.lS (t := 62) (xs := [(xO l i).key, (xO l i).key, ⟨#[]⟩, ⟨#[111, 97]⟩]) rfl rfl) ?_
            have hh := hS39 
            rw [hF] at hh
            exact VA.to hh (by decide +kernel) (Le.mk hB [0, 1] (by repeat first | refine ⟨rfl, ?_⟩ | trivial) rfl rfl (Nat.le_refl _))
          ·
            refine bS rfl hB rfl (by decide) rfl rfl ?_
            refine VA.le _ (Le.lS (t := 73) (xs := [(xO l i).product, (xO l i).product, ⟨#[122, 122]⟩, ⟨#[]⟩]) rfl rfl) ?_
            have hh := hS42 
            rw [hF] at hh
            exact VA.to hh (by decide +kernel) (Le.mk hB [0, 1] (by repeat first | refine ⟨rfl, ?_⟩ | trivial) rfl rfl (Nat.le_refl _))
          ·
            refine bI rfl hB rfl (by decide) rfl rfl ?_
            refine VA.le _ (Le.lI (t := 98) (xs := [(xO l i).due, (xO l i).due, 345686400000]) rfl rfl) ?_
            have hh := hS45 
            rw [hF] at hh
            exact VA.to hh (by decide +kernel) (Le.mk hB [0, 1] (by repeat first | refine ⟨rfl, ?_⟩ | trivial) rfl rfl (Nat.le_refl _))
        have hS55 : F 23 (lsE 67 51 [14, 15, 25, 26, 33, 39, 40]) ⟨orders_EZ1 p gr i l capL ++ [(80, (avInts [(xO l i).count, 0, 100001])), (98, (avInts [(xO l i).due, (xO l i).due, 345686400000]))], [bxStr p a0 cap L (j + 2), .box gr ⟨rowL l, 110, capL * 5⟩], 0⟩ := by
          rw [hF]
          refine VA.all (rs := [14, 25, 39]) (by decide +kernel) (by decide) ?_
          refine ⟨⟨_, rfl, .inl rfl, ?_⟩, ⟨_, rfl, .inl rfl, ?_⟩, ⟨_, rfl, .inl rfl, ?_⟩, trivial⟩
          ·
            refine bS rfl hB rfl (by decide) rfl rfl ?_
            refine VA.le _ (Le.lS (t := 62) (xs := [(xO l i).key, (xO l i).key, ⟨#[]⟩, ⟨#[111, 97]⟩]) rfl rfl) ?_
            have hh := hS40 
            rw [hF] at hh
            exact VA.to hh (by decide +kernel) (Le.mk hB [0, 1] (by repeat first | refine ⟨rfl, ?_⟩ | trivial) rfl rfl (Nat.le_refl _))
          ·
            refine bS rfl hB rfl (by decide) rfl rfl ?_
            refine VA.le _ (Le.lS (t := 73) (xs := [(xO l i).product, (xO l i).product, ⟨#[122, 122]⟩, ⟨#[]⟩]) rfl rfl) ?_
            have hh := hS43 
            rw [hF] at hh
            exact VA.to hh (by decide +kernel) (Le.mk hB [0, 1] (by repeat first | refine ⟨rfl, ?_⟩ | trivial) rfl rfl (Nat.le_refl _))
          ·
            refine bI rfl hB rfl (by decide) rfl rfl ?_
            refine VA.le _ (Le.lI (t := 87) (xs := [(xO l i).ready, -1, 345686400000]) rfl rfl) ?_
            have hh := hS45 
            rw [hF] at hh
            exact VA.to hh (by decide +kernel) (Le.mk hB [0, 1] (by repeat first | refine ⟨rfl, ?_⟩ | trivial) rfl rfl (Nat.le_refl _))
        have hS56 : F 23 (lsE 67 51 [14, 15, 25, 26, 32, 33, 40]) ⟨orders_EZ1 p gr i l capL ++ [(87, (avInts [(xO l i).ready, -1, 345686400000])), (98, (avInts [(xO l i).due, (xO l i).due, 345686400000]))], [bxStr p a0 cap L (j + 2), .box gr ⟨rowL l, 110, capL * 5⟩], 0⟩ := by
          rw [hF]
          refine VA.all (rs := [14, 25, 32]) (by decide +kernel) (by decide) ?_
          refine ⟨⟨_, rfl, .inl rfl, ?_⟩, ⟨_, rfl, .inl rfl, ?_⟩, ⟨_, rfl, .inl rfl, ?_⟩, trivial⟩
          ·
            refine bS rfl hB rfl (by decide) rfl rfl ?_
            refine VA.le _ (Le.lS (t := 62) (xs := [(xO l i).key, (xO l i).key, ⟨#[]⟩, ⟨#[111, 97]⟩]) rfl rfl) ?_
            have hh := hS41 
            rw [hF] at hh
            exact VA.to hh (by decide +kernel) (Le.mk hB [0, 1] (by repeat first | refine ⟨rfl, ?_⟩ | trivial) rfl rfl (Nat.le_refl _))
          ·
            refine bS rfl hB rfl (by decide) rfl rfl ?_
            refine VA.le _ (Le.lS (t := 73) (xs := [(xO l i).product, (xO l i).product, ⟨#[122, 122]⟩, ⟨#[]⟩]) rfl rfl) ?_
            have hh := hS44 
            rw [hF] at hh
            exact VA.to hh (by decide +kernel) (Le.mk hB [0, 1] (by repeat first | refine ⟨rfl, ?_⟩ | trivial) rfl rfl (Nat.le_refl _))
          ·
            refine bI rfl hB rfl (by decide) rfl rfl ?_
            refine VA.le _ (Le.lI (t := 80) (xs := [(xO l i).count, 0, 100001]) rfl rfl) ?_
            have hh := hS45 
            rw [hF] at hh
            exact VA.to hh (by decide +kernel) (Le.mk hB [0, 1] (by repeat first | refine ⟨rfl, ?_⟩ | trivial) rfl rfl (Nat.le_refl _))
        have hS57 : F 24 (lsE 67 50 [15, 25, 26, 32, 33, 39, 40]) ⟨orders_EZ1 p gr i l capL ++ [(62, (avStrs [(xO l i).key, (xO l i).key, ⟨#[]⟩, ⟨#[111, 97]⟩]))], [bxStr p a0 cap L (j + 2), .box gr ⟨rowL l, 110, capL * 5⟩], 0⟩ := by
          rw [hF]
          refine VA.all (rs := [15, 25, 32, 39, 50]) (by decide +kernel) (by decide) ?_
          refine ⟨⟨_, rfl, .inl rfl, ?_⟩, ⟨_, rfl, .inl rfl, ?_⟩, ⟨_, rfl, .inl rfl, ?_⟩, ⟨_, rfl, .inl rfl, ?_⟩, ⟨_, rfl, .inl rfl, ?_⟩, trivial⟩
          ·
            refine OpE.callHX (rest := [_]) txi_stab hGX rfl hB rfl Tryz.call79 rfl rfl (some_X (xs := [(xO l i).key, (xO l i).key, ⟨#[]⟩, ⟨#[111, 97]⟩]) (by omega) (by simp) hp0) (List.Perm.refl _) (fun b h => .inr ⟨by decide, blkStr h⟩) ?_
            rintro _ _ ⟨rfl, rfl⟩
            refine VA.le _ (Le.recast (t := 63) (y := avS r63) rfl (fun w Z u h => by rw [← e63]; exact h)) ?_
            have hh := hS46 
            rw [hF] at hh
            exact VA.to hh (by decide +kernel) (Le.mk hB [0, 1] (by repeat first | refine ⟨rfl, ?_⟩ | trivial) rfl rfl (Nat.le_refl _))
          ·
            refine bS rfl hB rfl (by decide) rfl rfl ?_
            refine VA.le _ (Le.lS (t := 73) (xs := [(xO l i).product, (xO l i).product, ⟨#[122, 122]⟩, ⟨#[]⟩]) rfl rfl) ?_
            have hh := hS47 
            rw [hF] at hh
            exact VA.to hh (by decide +kernel) (Le.mk hB [0, 1] (by repeat first | refine ⟨rfl, ?_⟩ | trivial) rfl rfl (Nat.le_refl _))
          ·
            refine bI rfl hB rfl (by decide) rfl rfl ?_
            refine VA.le _ (Le.lI (t := 80) (xs := [(xO l i).count, 0, 100001]) rfl rfl) ?_
            have hh := hS48 
            rw [hF] at hh
            exact VA.to hh (by decide +kernel) (Le.mk hB [0, 1] (by repeat first | refine ⟨rfl, ?_⟩ | trivial) rfl rfl (Nat.le_refl _))
          ·
            refine bI rfl hB rfl (by decide) rfl rfl ?_
            refine VA.le _ (Le.lI (t := 87) (xs := [(xO l i).ready, -1, 345686400000]) rfl rfl) ?_
            have hh := hS49 
            rw [hF] at hh
            exact VA.to hh (by decide +kernel) (Le.mk hB [0, 1] (by repeat first | refine ⟨rfl, ?_⟩ | trivial) rfl rfl (Nat.le_refl _))
          ·
            refine bI rfl hB rfl (by decide) rfl rfl ?_
            refine VA.le _ (Le.lI (t := 98) (xs := [(xO l i).due, (xO l i).due, 345686400000]) rfl rfl) ?_
            have hh := hS50 
            rw [hF] at hh
            exact VA.to hh (by decide +kernel) (Le.mk hB [0, 1] (by repeat first | refine ⟨rfl, ?_⟩ | trivial) rfl rfl (Nat.le_refl _))
        have hS58 : F 24 (lsE 67 50 [14, 15, 26, 32, 33, 39, 40]) ⟨orders_EZ1 p gr i l capL ++ [(73, (avStrs [(xO l i).product, (xO l i).product, ⟨#[122, 122]⟩, ⟨#[]⟩]))], [bxStr p a0 cap L (j + 2), .box gr ⟨rowL l, 110, capL * 5⟩], 0⟩ := by
          rw [hF]
          refine VA.all (rs := [14, 32, 39, 50]) (by decide +kernel) (by decide) ?_
          refine ⟨⟨_, rfl, .inl rfl, ?_⟩, ⟨_, rfl, .inl rfl, ?_⟩, ⟨_, rfl, .inl rfl, ?_⟩, ⟨_, rfl, .inl rfl, ?_⟩, trivial⟩
          ·
            refine bS rfl hB rfl (by decide) rfl rfl ?_
            refine VA.le _ (Le.lS (t := 62) (xs := [(xO l i).key, (xO l i).key, ⟨#[]⟩, ⟨#[111, 97]⟩]) rfl rfl) ?_
            have hh := hS47 
            rw [hF] at hh
            exact VA.to hh (by decide +kernel) (Le.mk hB [0, 1] (by repeat first | refine ⟨rfl, ?_⟩ | trivial) rfl rfl (Nat.le_refl _))
          ·
            refine bI rfl hB rfl (by decide) rfl rfl ?_
            refine VA.le _ (Le.lI (t := 80) (xs := [(xO l i).count, 0, 100001]) rfl rfl) ?_
            have hh := hS51 
            rw [hF] at hh
            exact VA.to hh (by decide +kernel) (Le.mk hB [0, 1] (by repeat first | refine ⟨rfl, ?_⟩ | trivial) rfl rfl (Nat.le_refl _))
          ·
            refine bI rfl hB rfl (by decide) rfl rfl ?_
            refine VA.le _ (Le.lI (t := 87) (xs := [(xO l i).ready, -1, 345686400000]) rfl rfl) ?_
            have hh := hS52 
            rw [hF] at hh
            exact VA.to hh (by decide +kernel) (Le.mk hB [0, 1] (by repeat first | refine ⟨rfl, ?_⟩ | trivial) rfl rfl (Nat.le_refl _))
          ·
            refine bI rfl hB rfl (by decide) rfl rfl ?_
            refine VA.le _ (Le.lI (t := 98) (xs := [(xO l i).due, (xO l i).due, 345686400000]) rfl rfl) ?_
            have hh := hS53 
            rw [hF] at hh
            exact VA.to hh (by decide +kernel) (Le.mk hB [0, 1] (by repeat first | refine ⟨rfl, ?_⟩ | trivial) rfl rfl (Nat.le_refl _))
        have hS59 : F 24 (lsE 67 50 [14, 15, 25, 26, 33, 39, 40]) ⟨orders_EZ1 p gr i l capL ++ [(80, (avInts [(xO l i).count, 0, 100001]))], [bxStr p a0 cap L (j + 2), .box gr ⟨rowL l, 110, capL * 5⟩], 0⟩ := by
          rw [hF]
          refine VA.all (rs := [14, 25, 39, 50]) (by decide +kernel) (by decide) ?_
          refine ⟨⟨_, rfl, .inl rfl, ?_⟩, ⟨_, rfl, .inl rfl, ?_⟩, ⟨_, rfl, .inl rfl, ?_⟩, ⟨_, rfl, .inl rfl, ?_⟩, trivial⟩
          ·
            refine bS rfl hB rfl (by decide) rfl rfl ?_
            refine VA.le _ (Le.lS (t := 62) (xs := [(xO l i).key, (xO l i).key, ⟨#[]⟩, ⟨#[111, 97]⟩]) rfl rfl) ?_
            have hh := hS48 
            rw [hF] at hh
            exact VA.to hh (by decide +kernel) (Le.mk hB [0, 1] (by repeat first | refine ⟨rfl, ?_⟩ | trivial) rfl rfl (Nat.le_refl _))
          ·
            refine bS rfl hB rfl (by decide) rfl rfl ?_
            refine VA.le _ (Le.lS (t := 73) (xs := [(xO l i).product, (xO l i).product, ⟨#[122, 122]⟩, ⟨#[]⟩]) rfl rfl) ?_
            have hh := hS51 
            rw [hF] at hh
            exact VA.to hh (by decide +kernel) (Le.mk hB [0, 1] (by repeat first | refine ⟨rfl, ?_⟩ | trivial) rfl rfl (Nat.le_refl _))
          ·
            refine bI rfl hB rfl (by decide) rfl rfl ?_
            refine VA.le _ (Le.lI (t := 87) (xs := [(xO l i).ready, -1, 345686400000]) rfl rfl) ?_
            have hh := hS54 
            rw [hF] at hh
            exact VA.to hh (by decide +kernel) (Le.mk hB [0, 1] (by repeat first | refine ⟨rfl, ?_⟩ | trivial) rfl rfl (Nat.le_refl _))
          ·
            refine bI rfl hB rfl (by decide) rfl rfl ?_
            refine VA.le _ (Le.lI (t := 98) (xs := [(xO l i).due, (xO l i).due, 345686400000]) rfl rfl) ?_
            have hh := hS55 
            rw [hF] at hh
            exact VA.to hh (by decide +kernel) (Le.mk hB [0, 1] (by repeat first | refine ⟨rfl, ?_⟩ | trivial) rfl rfl (Nat.le_refl _))
        have hS60 : F 24 (lsE 67 50 [14, 15, 25, 26, 32, 33, 40]) ⟨orders_EZ1 p gr i l capL ++ [(87, (avInts [(xO l i).ready, -1, 345686400000]))], [bxStr p a0 cap L (j + 2), .box gr ⟨rowL l, 110, capL * 5⟩], 0⟩ := by
          rw [hF]
          refine VA.all (rs := [14, 25, 32, 50]) (by decide +kernel) (by decide) ?_
          refine ⟨⟨_, rfl, .inl rfl, ?_⟩, ⟨_, rfl, .inl rfl, ?_⟩, ⟨_, rfl, .inl rfl, ?_⟩, ⟨_, rfl, .inl rfl, ?_⟩, trivial⟩
          ·
            refine bS rfl hB rfl (by decide) rfl rfl ?_
            refine VA.le _ (Le.lS (t := 62) (xs := [(xO l i).key, (xO l i).key, ⟨#[]⟩, ⟨#[111, 97]⟩]) rfl rfl) ?_
            have hh := hS49 
            rw [hF] at hh
            exact VA.to hh (by decide +kernel) (Le.mk hB [0, 1] (by repeat first | refine ⟨rfl, ?_⟩ | trivial) rfl rfl (Nat.le_refl _))
          ·
            refine bS rfl hB rfl (by decide) rfl rfl ?_
            refine VA.le _ (Le.lS (t := 73) (xs := [(xO l i).product, (xO l i).product, ⟨#[122, 122]⟩, ⟨#[]⟩]) rfl rfl) ?_
            have hh := hS52 
            rw [hF] at hh
            exact VA.to hh (by decide +kernel) (Le.mk hB [0, 1] (by repeat first | refine ⟨rfl, ?_⟩ | trivial) rfl rfl (Nat.le_refl _))
          ·
            refine bI rfl hB rfl (by decide) rfl rfl ?_
            refine VA.le _ (Le.lI (t := 80) (xs := [(xO l i).count, 0, 100001]) rfl rfl) ?_
            have hh := hS54 
            rw [hF] at hh
            exact VA.to hh (by decide +kernel) (Le.mk hB [0, 1] (by repeat first | refine ⟨rfl, ?_⟩ | trivial) rfl rfl (Nat.le_refl _))
          ·
            refine bI rfl hB rfl (by decide) rfl rfl ?_
            refine VA.le _ (Le.lI (t := 98) (xs := [(xO l i).due, (xO l i).due, 345686400000]) rfl rfl) ?_
            have hh := hS56 
            rw [hF] at hh
            exact VA.to hh (by decide +kernel) (Le.mk hB [0, 1] (by repeat first | refine ⟨rfl, ?_⟩ | trivial) rfl rfl (Nat.le_refl _))
        have hS61 : F 24 (lsE 67 51 [14, 15, 25, 26, 32, 33, 39, 40]) ⟨orders_EZ1 p gr i l capL ++ [(98, (avInts [(xO l i).due, (xO l i).due, 345686400000]))], [bxStr p a0 cap L (j + 2), .box gr ⟨rowL l, 110, capL * 5⟩], 0⟩ := by
          rw [hF]
          refine VA.all (rs := [14, 25, 32, 39]) (by decide +kernel) (by decide) ?_
          refine ⟨⟨_, rfl, .inl rfl, ?_⟩, ⟨_, rfl, .inl rfl, ?_⟩, ⟨_, rfl, .inl rfl, ?_⟩, ⟨_, rfl, .inl rfl, ?_⟩, trivial⟩
          ·
            refine bS rfl hB rfl (by decide) rfl rfl ?_
            refine VA.le _ (Le.lS (t := 62) (xs := [(xO l i).key, (xO l i).key, ⟨#[]⟩, ⟨#[111, 97]⟩]) rfl rfl) ?_
            have hh := hS50 
            rw [hF] at hh
            exact VA.to hh (by decide +kernel) (Le.mk hB [0, 1] (by repeat first | refine ⟨rfl, ?_⟩ | trivial) rfl rfl (Nat.le_refl _))
          ·
            refine bS rfl hB rfl (by decide) rfl rfl ?_
            refine VA.le _ (Le.lS (t := 73) (xs := [(xO l i).product, (xO l i).product, ⟨#[122, 122]⟩, ⟨#[]⟩]) rfl rfl) ?_
            have hh := hS53 
            rw [hF] at hh
            exact VA.to hh (by decide +kernel) (Le.mk hB [0, 1] (by repeat first | refine ⟨rfl, ?_⟩ | trivial) rfl rfl (Nat.le_refl _))
          ·
            refine bI rfl hB rfl (by decide) rfl rfl ?_
            refine VA.le _ (Le.lI (t := 80) (xs := [(xO l i).count, 0, 100001]) rfl rfl) ?_
            have hh := hS55 
            rw [hF] at hh
            exact VA.to hh (by decide +kernel) (Le.mk hB [0, 1] (by repeat first | refine ⟨rfl, ?_⟩ | trivial) rfl rfl (Nat.le_refl _))
          ·
            refine bI rfl hB rfl (by decide) rfl rfl ?_
            refine VA.le _ (Le.lI (t := 87) (xs := [(xO l i).ready, -1, 345686400000]) rfl rfl) ?_
            have hh := hS56 
            rw [hF] at hh
            exact VA.to hh (by decide +kernel) (Le.mk hB [0, 1] (by repeat first | refine ⟨rfl, ?_⟩ | trivial) rfl rfl (Nat.le_refl _))
        have hS62 : F 25 (lsE 67 50 [14, 15, 25, 26, 32, 33, 39, 40]) ⟨orders_EZ1 p gr i l capL, [bxStr p a0 cap L (j + 2), .box gr ⟨rowL l, 110, capL * 5⟩], 0⟩ := by
          rw [hF]
          refine VA.all (rs := [14, 25, 32, 39, 50]) (by decide +kernel) (by decide) ?_
          refine ⟨⟨_, rfl, .inl rfl, ?_⟩, ⟨_, rfl, .inl rfl, ?_⟩, ⟨_, rfl, .inl rfl, ?_⟩, ⟨_, rfl, .inl rfl, ?_⟩, ⟨_, rfl, .inl rfl, ?_⟩, trivial⟩
          ·
            refine bS rfl hB rfl (by decide) rfl rfl ?_
            refine VA.le _ (Le.lS (t := 62) (xs := [(xO l i).key, (xO l i).key, ⟨#[]⟩, ⟨#[111, 97]⟩]) rfl rfl) ?_
            have hh := hS57 
            rw [hF] at hh
            exact VA.to hh (by decide +kernel) (Le.mk hB [0, 1] (by repeat first | refine ⟨rfl, ?_⟩ | trivial) rfl rfl (Nat.le_refl _))
          ·
            refine bS rfl hB rfl (by decide) rfl rfl ?_
            refine VA.le _ (Le.lS (t := 73) (xs := [(xO l i).product, (xO l i).product, ⟨#[122, 122]⟩, ⟨#[]⟩]) rfl rfl) ?_
            have hh := hS58 
            rw [hF] at hh
            exact VA.to hh (by decide +kernel) (Le.mk hB [0, 1] (by repeat first | refine ⟨rfl, ?_⟩ | trivial) rfl rfl (Nat.le_refl _))
          ·
            refine bI rfl hB rfl (by decide) rfl rfl ?_
            refine VA.le _ (Le.lI (t := 80) (xs := [(xO l i).count, 0, 100001]) rfl rfl) ?_
            have hh := hS59 
            rw [hF] at hh
            exact VA.to hh (by decide +kernel) (Le.mk hB [0, 1] (by repeat first | refine ⟨rfl, ?_⟩ | trivial) rfl rfl (Nat.le_refl _))
          ·
            refine bI rfl hB rfl (by decide) rfl rfl ?_
            refine VA.le _ (Le.lI (t := 87) (xs := [(xO l i).ready, -1, 345686400000]) rfl rfl) ?_
            have hh := hS60 
            rw [hF] at hh
            exact VA.to hh (by decide +kernel) (Le.mk hB [0, 1] (by repeat first | refine ⟨rfl, ?_⟩ | trivial) rfl rfl (Nat.le_refl _))
          ·
            refine bI rfl hB rfl (by decide) rfl rfl ?_
            refine VA.le _ (Le.lI (t := 98) (xs := [(xO l i).due, (xO l i).due, 345686400000]) rfl rfl) ?_
            have hh := hS61 
            rw [hF] at hh
            exact VA.to hh (by decide +kernel) (Le.mk hB [0, 1] (by repeat first | refine ⟨rfl, ?_⟩ | trivial) rfl rfl (Nat.le_refl _))
        rw [hF]
        have hh := hS62 
        rw [hF] at hh
        exact VA.to hh (by decide +kernel) (Le.mk hB [0, 1] (by repeat first | refine ⟨rfl, ?_⟩ | trivial) rfl rfl (Nat.le_refl _))
      · have aH3 := aH3b
        try simp only [qq] at aH3
        refine VC.skip ?_
        refine VC.sr ?_
        refine VO.mw ?_
        refine VO.mb ?_
        refine VO.nil ?_
        refine VC.le _ (Le.rowT (t := 4) (i := 1) (n := l.length) (xs := l) hB hnew rfl rfl rfl) ?_
        refine VC.ret ?_
        exact Exists.intro _ (And.intro (RetV.one Tryz.results100 (ResV.tmp rfl)) (by first | exact or_out (hV.trans (orTail_0 (by omega))) | exact or_out (hV.trans (orTail_1 (by omega) (by omega))) | exact or_out (hV.trans (orTail_2 (by omega) (by omega) hi e63 e74 e81 e88 e99))))
    · replace aK2b : _ = false := aK2b
      have aK2 := aK2b
      try simp only [qq] at aK2
      refine VO.opX rfl rfl rfl rfl aK2b ?_
      refine VO.vv (OpV.pickF rfl rfl rfl rfl aK2b) ?_
      refine VO.nil ?_
      refine VC.condF rfl rfl ?_
      refine VC.skip ?_
      refine VC.sr ?_
      refine VO.mw ?_
      refine VO.mb ?_
      refine VO.nil ?_
      refine VC.le _ (Le.rowT (t := 4) (i := 1) (n := l.length) (xs := l) hB hnew rfl rfl rfl) ?_
      refine VC.ret ?_
      exact Exists.intro _ (And.intro (RetV.one Tryz.results100 (ResV.tmp rfl)) (by first | exact or_out (hV.trans (orTail_0 (by omega))) | exact or_out (hV.trans (orTail_1 (by omega) (by omega))) | exact or_out (hV.trans (orTail_2 (by omega) (by omega) hi e63 e74 e81 e88 e99))))
end
section
theorem pc_get4 {l : List PaceS} {i : Nat} (h : ∀ x ∈ l, x.needs.length ≤ 4) : (l.getD i default).needs.length ≤ 4 := by
 rw [List.getD_eq_getElem?_getD]
 cases hi : l[i]? with
 | none => exact Nat.zero_le _
 | some x => exact h x (List.mem_of_getElem? hi)
theorem pc_need {l : List PaceS} {i : Nat} {x y : PaceS} (h : ∀ x ∈ l, PcOk 4 x) (hx : x.needs = (l.getD i default).needs) (hy : y.needs = (l.getD i default).needs) : ∀ z ∈ (l.set i x).set i y, z.needs.length ≤ 4 := fun z hz => by
 have hg := (PcOk.getD h i).2.1
 rcases List.mem_or_eq_of_mem_set hz with hz | rfl
 ·rcases List.mem_or_eq_of_mem_set hz with hz | rfl
  ·exact (h z hz).2.1
  ·rw [hx]; exact hg
 ·rw [hy]; exact hg
set_option maxHeartbeats 40000000 in
theorem paces_E {p0 cap : Nat} {a0 : Option Addr} {p k : Nat} {L : List Int} (hk : k ≤ 800000) (hp0 : p0 ≤ p) :
    SpecHX (TXI a0 L p0) Tryz.prog 99 [sp p] [bxStr p a0 cap L k] (fun y hp' => y = avL (pcV L k).1 ∧ hp' = [bxStr p a0 cap L (pcV L k).2]) := by
  have e4 : cy4.length = 4 := rfl
  have e2 : azE.length = 2 := rfl
  have e2' : zoE.length = 2 := rfl
  refine SpecHX.of_VC txi_stab Tryz.func99 rfl Tryz.ntmps99 (Nle rfl) fun w A hB hGX => ?_
  have hnew : True := trivial
  refine VC.sr ?_
  refine VO.mb ?_
  refine VO.nil ?_
  refine VC.sr ?_
  refine VO.mb ?_
  refine VO.nil ?_
  refine VC.seq ?_
  refine VC.sr ?_
  refine VO.op rfl (bS rfl hB rfl (by decide) rfl rfl ?_)
  refine VO.le _ (Le.lS (t := 10) (xs := k3P) rfl rfl) ?_
  refine VO.vv (OpV.len_im rfl Tryz.underlying82 rfl) ?_
  refine VO.mw ?_
  refine VO.nil ?_
  refine VC.block ?_
  refine VC.le _ (Le.nilRow 3 115) ?_
  refine VC.loopK [(0, _)] ⟨rfl, trivial⟩ ({t : Value × (List PaceS × Nat) × Nat // t.2.2 ≤ 3 ∧ t.2.1 = pcL L k t.2.2}) (fun (iZ : {t : Value × (List PaceS × Nat) × Nat // t.2.2 ≤ 3 ∧ t.2.1 = pcL L k t.2.2}) => match iZ with | ⟨⟨u, ⟨l, j⟩, q⟩, hq, hlj⟩ => [(3, .v u), (10, avStrs k3P), (11, avI 3), (12, avI (q : Int))]) (fun (iZ : {t : Value × (List PaceS × Nat) × Nat // t.2.2 ≤ 3 ∧ t.2.1 = pcL L k t.2.2}) => match iZ with | ⟨⟨u, ⟨l, j⟩, q⟩, hq, hlj⟩ => [bxStr p a0 cap L j, .row u l.length 3 (rowL l) 115]) (fun (iZ : {t : Value × (List PaceS × Nat) × Nat // t.2.2 ≤ 3 ∧ t.2.1 = pcL L k t.2.2}) => match iZ with | ⟨⟨u, ⟨l, j⟩, q⟩, hq, hlj⟩ => 0) (fun (iZ : {t : Value × (List PaceS × Nat) × Nat // t.2.2 ≤ 3 ∧ t.2.1 = pcL L k t.2.2}) => match iZ with | ⟨⟨u, ⟨l, j⟩, q⟩, hq, hlj⟩ => 3 - q) ⟨(.slice none 0 0, ([], k), 0), Nat.zero_le _, rfl⟩ (Le.mk hB [0, 1] ⟨rfl, rfl, rfl, rfl, rfl, trivial⟩ rfl rfl (Nat.le_refl _)) ?_
  rintro ⟨⟨u, ⟨l, j⟩, q⟩, hq, hlj⟩
  show VC _ _ _ _ ⟨[(3, .v u), (10, avStrs k3P), (11, avI 3), (12, avI (q : Int))] ++ [(0, _)], [bxStr p a0 cap L j, .row u l.length 3 (rowL l) 115], 0⟩
  simp only at hq hlj
  have hB0 := pcL_ok (L := L) (k := k) q
  rw [← hlj] at hB0
  obtain ⟨hl, hj, hok⟩ := hB0
  simp only at hl hj hok
  refine VC.sr ?_
  refine VO.vv (OpV.lss rfl rfl rfl) ?_
  refine VO.nil ?_
  refine VC.seq ?_
  refine VC.cond rfl (fun aH1b => ?_) (fun aH1b => ?_)
  · have aH1 := aH1b
    try simp only [qq] at aH1
    refine VC.skip ?_
    refine VC.seq ?_
    refine VC.block ?_
    refine VC.sr ?_
    refine VO.vv (OpV.indexAddr_1 rfl Tryz.underlying82 Tryz.sizeOf9 rfl rfl rfl (by show _ < 3; omega)) ?_
    refine VO.vv (OpV.load_at rfl hB OutW.no Tryz.isAgg9 rfl rfl) ?_
    refine VO.mb ?_
    refine VO.nil ?_
    refine VC.seq ?_
    refine VC.sr ?_
    refine VO.mw ?_
    refine VO.op rfl (OpE.callHX (rest := [_]) txi_stab hGX rfl hB rfl Tryz.call76 rfl rfl (flip_X (by omega) (by omega) hp0) (List.Perm.refl _) (fun _ _ => trivial) ?_)
    rintro _ _ ⟨rfl, rfl⟩
    refine VO.nil ?_
    refine VC.cond rfl (fun h1b => ?_) (fun h1b => ?_)
    · have h1 := h1b
      try simp only [qq] at h1
      refine VC.exit ?_
      refine VC.region ?_
      refine VO.vv (OpV.add rfl rfl rfl (by unfold fits; omega)) ?_
      refine VO.mw ?_
      refine VO.nil ?_
      exact Exists.intro (⟨(u, (l, j + 1), q + 1), by show q + 1 ≤ 3; omega, by show _ = pcIn L q (pcL L k q); rw [← hlj]; exact (pcIn_n (by omega)).symm⟩) (And.intro (Le.mk hB [0, 1] ⟨rfl, rfl, rfl, rfl, rfl, trivial⟩ rfl (by dsimp only; first | rfl | (rw [List.length_append]; rfl)) (Nat.le_refl _)) (by first | omega | (show _ < _; omega) | (simp only []; omega)))
    · have h1 := h1b
      try simp only [qq] at h1
      refine VC.skip ?_
      refine VC.sr ?_
      refine VO.mw ?_
      refine VO.mw ?_
      refine VO.op rfl (bI rfl hB rfl (by decide) rfl rfl ?_)
      refine VO.le _ (Le.lI (t := 20) (xs := cy4) rfl rfl) ?_
      refine VO.op rfl (OpE.callHX (rest := [_]) txi_stab hGX rfl hB rfl Tryz.call77 rfl rfl (pick_E (xs := cy4) (by omega) (by omega) hp0) (List.Perm.refl _) (fun _ _ => trivial) ?_)
      rintro _ _ ⟨rfl, rfl⟩
      obtain ⟨r21, h21⟩ : ∃ z, pickV L (j + 1) cy4 = z := ⟨_, rfl⟩
      refine VO.le _ (Le.recast (t := 21) (y := avI r21) rfl (fun w Z u h => by rw [← h21]; exact h)) ?_
      refine VO.vv (OpV.build (pls := #[(0, 1), (1, 1), (2, 1)]) rfl Tryz.zeroValue115 Tryz.underlying115 (fun w => by kernel_rfl) rfl rfl) ?_
      refine VO.op rfl (OpE.alloc rfl hB rfl Tryz.zeroValue115 rfl ?_)
      intro g6
      refine VO.op rfl (OpE.store (i := 2) rfl hB rfl Tryz.sizeOf115 rfl rfl rfl rfl rfl rfl (Nle rfl) trivial ?_)
      refine VO.nil ?_
      refine VC.seq ?_
      refine VC.sr ?_
      refine VO.op rfl (bS rfl hB rfl (by decide) rfl rfl ?_)
      refine VO.le _ (Le.lS (t := 23) (xs := k4P) rfl rfl) ?_
      refine VO.vv (OpV.len_im rfl Tryz.underlying82 rfl) ?_
      refine VO.mw ?_
      refine VO.nil ?_
      refine VC.block ?_
      obtain ⟨j0, ej0⟩ : ∃ z, j = z := ⟨_, rfl⟩
      have h1j : nxt L j0 5 ≠ 0 := by rw [← ej0]; omega
      rw [ej0] at h21 hj hlj
      refine VC.le _ (Le.nilRow 2 90) ?_
      refine VC.loopK [(0, _)] ⟨rfl, trivial⟩ ({t : (Option Addr × Nat) × (List NeedS × Nat) × Nat // t.2.2 ≤ 4 ∧ t.2.1 = pnL L (j0 + 2) t.2.2}) (fun (iZ : {t : (Option Addr × Nat) × (List NeedS × Nat) × Nat // t.2.2 ≤ 4 ∧ t.2.1 = pnL L (j0 + 2) t.2.2}) => match iZ with | ⟨⟨⟨b, c⟩, ⟨ns, j⟩, r⟩, hr, hns⟩ => [(3, .v u), (6, .v (.pointer (some ⟨g6, 0, none⟩))), (10, avStrs k3P), (11, avI 3), (12, avI (q : Int)), (23, avStrs k4P), (24, avI 4), (25, avI (r : Int))]) (fun (iZ : {t : (Option Addr × Nat) × (List NeedS × Nat) × Nat // t.2.2 ≤ 4 ∧ t.2.1 = pnL L (j0 + 2) t.2.2}) => match iZ with | ⟨⟨⟨b, c⟩, ⟨ns, j⟩, r⟩, hr, hns⟩ => [bxStr p a0 cap L j, .row u l.length 3 (rowL l) 115, .box g6 ⟨[avS (k3P.getD q ByteArray.empty), avI r21, .v (.slice b ns.length c)], 115, 3⟩, .row (.slice b ns.length c) ns.length 2 (rowL ns) 90]) (fun (iZ : {t : (Option Addr × Nat) × (List NeedS × Nat) × Nat // t.2.2 ≤ 4 ∧ t.2.1 = pnL L (j0 + 2) t.2.2}) => match iZ with | ⟨⟨⟨b, c⟩, ⟨ns, j⟩, r⟩, hr, hns⟩ => 0) (fun (iZ : {t : (Option Addr × Nat) × (List NeedS × Nat) × Nat // t.2.2 ≤ 4 ∧ t.2.1 = pnL L (j0 + 2) t.2.2}) => match iZ with | ⟨⟨⟨b, c⟩, ⟨ns, j⟩, r⟩, hr, hns⟩ => 4 - r) ⟨((none, 0), ([], j + 2), 0), Nat.zero_le _, by rw [ej0]; rfl⟩ (Le.mk hB [0, 1, 2, 3] (by repeat first | refine ⟨rfl, ?_⟩ | trivial) rfl rfl (Nat.le_refl _)) ?_
      rintro ⟨⟨⟨b, c⟩, ⟨ns, j⟩, r⟩, hr, hns⟩
      show VC _ _ _ _ ⟨[(3, .v u), (6, .v (.pointer (some ⟨g6, 0, none⟩))), (10, avStrs k3P), (11, avI 3), (12, avI (q : Int)), (23, avStrs k4P), (24, avI 4), (25, avI (r : Int))] ++ [(0, _)], [bxStr p a0 cap L j, .row u l.length 3 (rowL l) 115, .box g6 ⟨[avS (k3P.getD q ByteArray.empty), avI r21, .v (.slice b ns.length c)], 115, 3⟩, .row (.slice b ns.length c) ns.length 2 (rowL ns) 90], 0⟩
      simp only at hr hns
      have hB1 := pnL_ok (L := L) (k := j0 + 2) r
      rw [← hns] at hB1
      obtain ⟨hnl0, hj1⟩ := hB1
      simp only at hnl0 hj1
      have hnl := hnl0.1
      refine VC.sr ?_
      refine VO.vv (OpV.lss rfl rfl rfl) ?_
      refine VO.nil ?_
      refine VC.seq ?_
      refine VC.cond rfl (fun aH2b => ?_) (fun aH2b => ?_)
      · have aH2 := aH2b
        try simp only [qq] at aH2
        refine VC.skip ?_
        refine VC.seq ?_
        refine VC.block ?_
        refine VC.sr ?_
        refine VO.vv (OpV.indexAddr_1 rfl Tryz.underlying82 Tryz.sizeOf9 rfl rfl rfl (by show _ < 4; omega)) ?_
        refine VO.vv (OpV.load_at rfl hB OutW.no Tryz.isAgg9 rfl rfl) ?_
        refine VO.mb ?_
        refine VO.nil ?_
        refine VC.sr ?_
        refine VO.mw ?_
        refine VO.op rfl (OpE.callHX (rest := [_, _, _]) txi_stab hGX rfl hB rfl Tryz.call76 rfl rfl (flip_X (by omega) (by omega) hp0) (List.Perm.refl _) (fun _ _ => trivial) ?_)
        rintro _ _ ⟨rfl, rfl⟩
        refine VO.nil ?_
        refine VC.cond rfl (fun h3b => ?_) (fun h3b => ?_)
        · have h3 := h3b
          try simp only [qq] at h3
          refine VC.hap (fun hap => ?_)
          have n6p := apart_ne hap (i := 2) (j := 0) rfl rfl (by decide)
          refine VC.draw (fun jj b => (jj = 9 ∧ b = g6) ∨ (jj = 7 ∧ b ≠ g6 ∧ b ≠ p) ∨ (jj ∈ [4] ∧ b = p)) hB (by kernel_rfl) ?_
          refine VA.td (i := 0) rfl (OpV.fieldAddrO 2 rfl Tryz.underlying115 rfl rfl Tryz.sizeOf68 rfl) ?_
          refine VA.td (i := 1) rfl (OpV.load_own (i := 2) rfl hB Tryz.isAgg68 rfl rfl rfl (Wi.notS3 (.inl (by decide +kernel)) (.inr fun h => h.1 rfl) n6p)) ?_
          refine VA.td (i := 2) rfl (OpV.move (.inl rfl) rfl) ?_
          refine VA.td (i := 3) rfl (OpV.move (.inl rfl) rfl) ?_
          refine VA.all (rs := [4]) (by decide +kernel) (by decide) ?_
          refine ⟨⟨_, rfl, .inl rfl, ?_⟩, trivial⟩
          refine OpE.callHX (rest := [_, _, _]) txi_stab hGX rfl hB rfl Tryz.call58 rfl rfl (range_X (by omega) (by omega) (by omega) (by omega) hp0) (List.Perm.refl _) (fun b h => .inr (.inr ⟨by decide, blkStr h⟩)) ?_
          rintro _ _ ⟨rfl, rfl⟩
          refine VA.td (i := 5) rfl (OpV.build (pls := #[(0, 1), (1, 1)]) rfl Tryz.zeroValue90 Tryz.underlying90 (fun w => by kernel_rfl) rfl rfl) ?_
          refine VA.all (rs := [6]) (by decide +kernel) (by decide) ?_
          refine ⟨⟨_, rfl, .inl rfl, ?_⟩, trivial⟩
          refine OpE.buildSlice (zc := #[.string ⟨#[]⟩, .int .i64 0]) rfl hB rfl Tryz.underlying68 Tryz.sizeOf90 Tryz.zeroValue90 (by decide) (by decide) (by kernel_rfl) rfl rfl ?_
          refine VA.all (rs := [7]) (by decide +kernel) (by decide) ?_
          refine ⟨⟨_, rfl, .inl rfl, ?_⟩, trivial⟩
          refine OpE.hap (fun hap => ?_)
          refine OpE.append1S (i := 3) rfl hB rfl Tryz.underlying68 (infoOf Tryz.t90 2 (by kernel_rfl) rfl rfl) rfl (by decide) (by decide) rfl rfl rfl rfl (rowL_snoc ns (⟨k4P.getD r ByteArray.empty, rng L (j + 1) 1 4⟩ : NeedS)) (by omega) (fun g' hg => .inr (.inl ⟨rfl, apart_ne hap (i := 3) (j := 2) hg rfl (by decide), apart_ne hap (i := 3) (j := 0) hg rfl (by decide)⟩)) ?_
          intro b2 c2
          refine VA.td (i := 8) rfl (OpV.fieldAddrO 2 rfl Tryz.underlying115 rfl rfl Tryz.sizeOf68 rfl) ?_
          refine VA.all (rs := [9]) (by decide +kernel) (by decide) ?_
          refine ⟨⟨_, rfl, .inl rfl, ?_⟩, trivial⟩
          refine OpE.hap (fun hap => ?_)
          refine OpE.store (i := 2) rfl hB rfl Tryz.sizeOf68 rfl rfl rfl rfl rfl rfl (Nle rfl) (.inl ⟨rfl, rfl⟩) ?_
          refine VA.done (by decide +kernel) ?_
          refine VC.region ?_
          refine VO.vv (OpV.add rfl rfl rfl (by unfold fits; omega)) ?_
          refine VO.mw ?_
          refine VO.nil ?_
          exact Exists.intro (⟨((b2, c2), (ns ++ [⟨k4P.getD r ByteArray.empty, rng L (j + 1) 1 4⟩], j + 2), r + 1), by show r + 1 ≤ 4; omega, by show _ = pnIn L r (pnL L (j0 + 2) r); rw [← hns]; exact (pnIn_y (by omega)).symm⟩) (And.intro (Le.mk hB [0, 1, 2, 3] (by repeat first | refine ⟨rfl, ?_⟩ | trivial) rfl (by dsimp only; first | rfl | (rw [List.length_append]; rfl)) (Nat.le_refl _)) (by first | omega | (show _ < _; omega) | (simp only []; omega)))
        · have h3 := h3b
          try simp only [qq] at h3
          refine VC.skip ?_
          refine VC.region ?_
          refine VO.vv (OpV.add rfl rfl rfl (by unfold fits; omega)) ?_
          refine VO.mw ?_
          refine VO.nil ?_
          exact Exists.intro (⟨((b, c), (ns, j + 1), r + 1), by show r + 1 ≤ 4; omega, by show _ = pnIn L r (pnL L (j0 + 2) r); rw [← hns]; exact (pnIn_n (by omega)).symm⟩) (And.intro (Le.mk hB [0, 1, 2, 3] (by repeat first | refine ⟨rfl, ?_⟩ | trivial) rfl (by dsimp only; first | rfl | (rw [List.length_append]; rfl)) (Nat.le_refl _)) (by first | omega | (show _ < _; omega) | (simp only []; omega)))
      · have aH2 := aH2b
        try simp only [qq] at aH2
        obtain rfl : r = 4 := by omega
        refine VC.exit ?_
        refine VC.le _ (Le.cellRow (i := 2) (k := 3) (j := 2) (y := avL ns) hB rfl rfl rfl (by omega) (fun w Z u h => Rep.rowL (xs := ns) rfl h)) ?_
        refine VC.region ?_
        refine VO.mw ?_
        refine VO.vv (OpV.loadK_own (i := 2) rfl hB Tryz.isAgg115 Tryz.sizeOf115 rfl rfl rfl (fun h => h)) ?_
        refine VO.op rfl (OpE.buildSlice (zc := #[.string ⟨#[]⟩, .int .i64 0, .slice none 0 0]) rfl hB rfl Tryz.underlying92 Tryz.sizeOf115 Tryz.zeroValue115 (by decide) (by decide) (by kernel_rfl) rfl rfl ?_)
        refine VO.op rfl (OpE.append1 (i := 1) rfl hB rfl Tryz.underlying92 (infoOf Tryz.t115 3 (by kernel_rfl) rfl rfl) rfl (by decide) (by decide) rfl rfl rfl rfl (rowL_snoc l (⟨k3P.getD q ByteArray.empty, r21, ns⟩ : PaceS)) (by omega) (fun _ _ => trivial) ?_)
        intro u2
        refine VO.mb ?_
        refine VO.nil ?_
        refine VC.region ?_
        refine VO.vv (OpV.add rfl rfl rfl (by unfold fits; omega)) ?_
        refine VO.mw ?_
        refine VO.nil ?_
        exact Exists.intro (⟨(u2, (l ++ [⟨k3P.getD q ByteArray.empty, r21, ns⟩], j), q + 1), by show q + 1 ≤ 3; omega, by show _ = pcIn L q (pcL L k q); rw [← hlj]; exact (pcIn_y h1j h21 hns).symm⟩) (And.intro (Le.mk hB [0, 1] ⟨rfl, rfl, rfl, rfl, rfl, trivial⟩ rfl (by dsimp only; first | rfl | (rw [List.length_append]; rfl)) (Nat.le_refl _)) (by first | omega | (show _ < _; omega) | (simp only []; omega)))
  · have aH1 := aH1b
    try simp only [qq] at aH1
    obtain rfl : q = 3 := by omega
    have hV : pcV L k = pcTail L l j := by unfold pcV; rw [← hlj]
    refine VC.exit ?_
    refine VC.seq ?_
    refine VC.sr ?_
    refine VO.mw ?_
    refine VO.vv (OpV.len_row (i := 1) rfl Tryz.underlying92 rfl rfl) ?_
    refine VO.vv (OpV.gtr rfl rfl rfl) ?_
    refine VO.mw ?_
    refine VO.opG rfl rfl rfl rfl (fun aK3b => ?_) (fun aK3b => ?_)
    · replace aK3b : _ = true := aK3b
      have aK3 := aK3b
      try simp only [qq] at aK3
      refine OpE.val (W := NoB) (OpV.move (.inl rfl) rfl) rfl ?_
      refine VO.opY rfl rfl rfl rfl aK3b ?_
      refine OpE.callHX (rest := [_]) txi_stab hGX rfl hB rfl Tryz.call76 rfl rfl (flip_X (by omega) (by omega) hp0) (List.Perm.refl _) (fun _ _ => trivial) ?_
      rintro _ _ ⟨rfl, rfl⟩
      refine VO.vv (OpV.pickT rfl rfl rfl rfl aK3b) ?_
      refine VO.nil ?_
      refine VC.cond rfl (fun aH4b => ?_) (fun aH4b => ?_)
      · have aH4 := aH4b
        try simp only [qq] at aH4
        refine VC.seq ?_
        refine VC.asBox (i := 1) rfl (by omega) (fun gr capL hu hcap hmx => ?_)
        subst hu
        refine VC.region ?_
        refine VO.mw ?_
        refine VO.mw ?_
        refine VO.mw ?_
        refine VO.vv (OpV.len_v rfl Tryz.underlying92 rfl) ?_
        refine VO.op rfl (OpE.callHX (rest := [_]) txi_stab hGX rfl hB rfl Tryz.call78 rfl rfl (next_X hp0 (by omega) (by omega)) (List.Perm.refl _) (fun _ _ => trivial) ?_)
        rintro _ _ ⟨rfl, rfl⟩
        have hx1 := nxt_lo L (j + 1) l.length
        have hx2 := nxt_lt L (j + 1) l.length (by omega)
        obtain ⟨i, hi⟩ : ∃ i : Nat, nxt L (j + 1) l.length = i := ⟨(nxt L (j + 1) l.length).toNat, by omega⟩
        have hil : i < l.length := by omega
        refine VO.le _ (Le.recast (t := 57) (y := avI (i : Int)) rfl (fun w Z u h => by rw [← hi]; exact h)) ?_
        refine VO.vv (OpV.indexAddr_q rfl Tryz.underlying92 Tryz.sizeOf115 rfl rfl rfl (by omega)) ?_
        refine VO.mb ?_
        refine VO.nil ?_
        refine VC.seq ?_
        refine VC.hap (fun hap => ?_)
        have nrp := apart_ne hap (i := 1) (j := 0) rfl rfl (by decide)
        obtain ⟨r67, e67⟩ : ∃ r, someV L (j + 2) [(xP l i).product, ⟨#[]⟩, ⟨#[112]⟩] = r := ⟨_, rfl⟩
        obtain ⟨r74, e74⟩ : ∃ r, pickV L (j + 3) [(xP l i).cycle, 0, 10000001] = r := ⟨_, rfl⟩
        refine VC.draw (fun jj b => (jj ∈ [18, 21] ∧ b = gr) ∨ (jj ∈ [8, 15] ∧ b = p)) hB (by kernel_rfl) ?_
        refine VA.td (i := 0) rfl (OpV.move (.inl rfl) rfl) ?_
        refine VA.td (i := 1) rfl (OpV.move (.inl rfl) rfl) ?_
        refine VA.td (i := 2) rfl (OpV.move (.inl rfl) rfl) ?_
        refine VA.td (i := 3) rfl (OpV.move (.inl rfl) rfl) ?_
        refine VA.td (i := 4) rfl (OpV.nilCheck rfl rfl) ?_
        refine VA.td (i := 5) rfl (OpV.fieldAddrO 0 rfl Tryz.underlying115 rfl rfl Tryz.sizeOf9 rfl) ?_
        refine VA.td (i := 6) rfl (OpV.load_own (i := 1) rfl hB Tryz.isAgg9 rfl rfl (rowL_at rfl (by omega) (by decide)) (Wi.notSS (.inl (by decide +kernel)) nrp)) ?_
        refine VA.td (i := 9) rfl (OpV.move (.inl rfl) rfl) ?_
        refine VA.td (i := 10) rfl (OpV.move (.inl rfl) rfl) ?_
        refine VA.td (i := 11) rfl (OpV.nilCheck rfl rfl) ?_
        refine VA.td (i := 12) rfl (OpV.fieldAddrO 1 rfl Tryz.underlying115 rfl rfl Tryz.sizeOf3 rfl) ?_
        refine VA.td (i := 13) rfl (OpV.load_own (i := 1) rfl hB Tryz.isAgg3 rfl rfl (rowL_at rfl (by omega) (by decide)) (Wi.notSS (.inl (by decide +kernel)) nrp)) ?_
        refine VA.all (rs := [7, 14]) (by decide +kernel) (by decide) ?_
        refine ⟨⟨_, rfl, .inl rfl, ?_⟩, ⟨_, rfl, .inl rfl, ?_⟩, trivial⟩
        ·
          refine bS rfl hB rfl (by decide) rfl rfl ?_
          refine VA.le _ (Le.lS (t := 66) (xs := [(xP l i).product, ⟨#[]⟩, ⟨#[112]⟩]) rfl rfl) ?_
          refine VA.all (rs := [8, 14]) (by decide +kernel) (by decide) ?_
          refine ⟨⟨_, rfl, .inl rfl, ?_⟩, ⟨_, rfl, .inl rfl, ?_⟩, trivial⟩
          ·
            refine OpE.callHX (rest := [_]) txi_stab hGX rfl hB rfl Tryz.call79 rfl rfl (some_X (xs := [(xP l i).product, ⟨#[]⟩, ⟨#[112]⟩]) (by omega) (by simp) hp0) (List.Perm.refl _) (fun b h => .inr ⟨by decide, blkStr h⟩) ?_
            rintro _ _ ⟨rfl, rfl⟩
            refine VA.le _ (Le.recast (t := 67) (y := avS r67) rfl (fun w Z u h => by rw [← e67]; exact h)) ?_
            refine VA.all (rs := [14]) (by decide +kernel) (by decide) ?_
            refine ⟨⟨_, rfl, .inl rfl, ?_⟩, trivial⟩
            refine bI rfl hB rfl (by decide) rfl rfl ?_
            refine VA.le _ (Le.lI (t := 73) (xs := [(xP l i).cycle, 0, 10000001]) rfl rfl) ?_
            refine VA.all (rs := [15]) (by decide +kernel) (by decide) ?_
            refine ⟨⟨_, rfl, .inl rfl, ?_⟩, trivial⟩
            refine OpE.callHX (rest := [_]) txi_stab hGX rfl hB rfl Tryz.call77 rfl rfl (pick_E (xs := [(xP l i).cycle, 0, 10000001]) (by omega) (by simp) hp0) (List.Perm.refl _) (fun b h => .inr ⟨by decide, blkStr h⟩) ?_
            rintro _ _ ⟨rfl, rfl⟩
            refine VA.le _ (Le.recast (t := 74) (y := avI r74) rfl (fun w Z u h => by rw [← e74]; exact h)) ?_
            refine VA.td (i := 16) rfl (OpV.nilCheck rfl rfl) ?_
            refine VA.td (i := 17) rfl (OpV.fieldAddrO 0 rfl Tryz.underlying115 rfl rfl Tryz.sizeOf9 rfl) ?_
            refine VA.all (rs := [18]) (by decide +kernel) (by decide) ?_
            refine ⟨⟨_, rfl, .inl rfl, ?_⟩, trivial⟩
            refine OpE.store1 (i := 1) rfl hB rfl Tryz.sizeOf9 rfl rfl rfl rfl rfl rfl (rowL_in rfl (by omega) (by decide)) (rowL_set (x := ({l.getD i default with product := r67} : PaceS)) rfl (by omega) (by decide) rfl (fun i hi hn => pc_upd (by simp) (by simp) (by simp) i hi hn)) (by first | exact .inl ⟨by decide, rfl⟩) ?_
            refine VA.td (i := 19) rfl (OpV.nilCheck rfl rfl) ?_
            refine VA.td (i := 20) rfl (OpV.fieldAddrO 1 rfl Tryz.underlying115 rfl rfl Tryz.sizeOf3 rfl) ?_
            refine VA.all (rs := [21]) (by decide +kernel) (by decide) ?_
            refine ⟨⟨_, rfl, .inl rfl, ?_⟩, trivial⟩
            refine OpE.store1 (i := 1) rfl hB rfl Tryz.sizeOf3 rfl rfl rfl rfl rfl rfl (rowL_in rfl (by first | omega | (simp only [List.length_set]; omega)) (by decide)) (rowL_set (x := ({l.getD i default with product := r67, cycle := r74} : PaceS)) rfl (by first | omega | (simp only [List.length_set]; omega)) (by decide) rfl (fun i hi hn => by rw [getSetP (by first | omega | (simp only [List.length_set]; omega))]; exact pc_upd (by simp) (by simp) (by simp) i hi hn)) (by first | exact .inl ⟨by decide, rfl⟩) ?_
            refine VA.done (by decide +kernel) ?_
            refine VC.seq ?_
            obtain ⟨l2, el2, h2, ok2⟩ : ∃ l2 : List PaceS, l2 = ((l.set i ({l.getD i default with product := r67} : PaceS)).set i ({l.getD i default with product := r67, cycle := r74} : PaceS)) ∧ l2.length = l.length ∧ ∀ x ∈ l2, x.needs.length ≤ 4 := ⟨_, rfl, by simp, pc_need hok (by simp) (by simp)⟩
            refine VC.le _ (Le.pickH (hp := [bxStr p a0 cap L (j + 4), .box gr ⟨rowL l2, 115, capL * 3⟩]) [0, 1] rfl (by rw [el2]; rfl)) ?_
            refine VC.region ?_
            refine VO.mw ?_
            refine VO.op rfl (OpE.callHX (rest := [_]) txi_stab hGX rfl hB rfl Tryz.call76 rfl rfl (flip_X (by omega) (by omega) hp0) (List.Perm.refl _) (fun _ _ => trivial) ?_)
            rintro _ _ ⟨rfl, rfl⟩
            refine VO.nil ?_
            refine VC.cond rfl (fun h5b => ?_) (fun h5b => ?_)
            · have h5 := h5b
              try simp only [qq] at h5
              refine VC.region ?_
              refine VO.mw ?_
              refine VO.mw ?_
              refine VO.vv (OpV.nilCheck rfl rfl) ?_
              refine VO.vv (OpV.fieldAddrO 2 rfl Tryz.underlying115 rfl rfl Tryz.sizeOf68 rfl) ?_
              refine VO.vv (OpV.load_own (i := 1) rfl hB Tryz.isAgg68 rfl rfl (rowL_at rfl (by omega) (by decide)) (fun h => h)) ?_
              refine VO.op rfl (OpE.callR rfl hB rfl Tryz.call183 (slices_CloneN_R (by have := pc_get4 ok2 (i := i); omega)) (ArgsP.cons (ArgP.ev rfl) (ArgsP.nil)) ?_)
              intro u86
              refine VO.mw ?_
              refine VO.op rfl (bS rfl hB rfl (by decide) rfl rfl ?_)
              refine VO.le _ (Le.lS (t := 88) (xs := azE) rfl rfl) ?_
              refine VO.op rfl (OpE.callHX (rest := [_, _]) txi_stab hGX rfl hB rfl Tryz.call79 rfl rfl (some_X (xs := azE) (by omega) (by omega) hp0) (List.Perm.refl _) (fun _ _ => trivial) ?_)
              rintro _ _ ⟨rfl, rfl⟩
              refine VO.mw ?_
              refine VO.op rfl (bI rfl hB rfl (by decide) rfl rfl ?_)
              refine VO.le _ (Le.lI (t := 91) (xs := zoE) rfl rfl) ?_
              refine VO.op rfl (OpE.callHX (rest := [_, _]) txi_stab hGX rfl hB rfl Tryz.call77 rfl rfl (pick_E (xs := zoE) (by omega) (by omega) hp0) (List.Perm.refl _) (fun _ _ => trivial) ?_)
              rintro _ _ ⟨rfl, rfl⟩
              refine VO.vv (OpV.build (pls := #[(0, 1), (1, 1)]) rfl Tryz.zeroValue90 Tryz.underlying90 (fun w => by kernel_rfl) rfl rfl) ?_
              refine VO.op rfl (OpE.buildSlice (zc := #[.string ⟨#[]⟩, .int .i64 0]) rfl hB rfl Tryz.underlying68 Tryz.sizeOf90 Tryz.zeroValue90 (by decide) (by decide) (by kernel_rfl) rfl rfl ?_)
              refine VO.op rfl (OpE.append1 (i := 2) rfl hB rfl Tryz.underlying68 (infoOf Tryz.t90 2 (by kernel_rfl) rfl rfl) rfl (by decide) (by decide) rfl rfl rfl rfl (rowL_snoc (l2.getD i default).needs (⟨someV L (j + 5) azE, pickV L (j + 6) zoE⟩ : NeedS)) (by have := pc_get4 ok2 (i := i); omega) (fun _ _ => trivial) ?_)
              intro u95
              refine VO.le _ (Le.rowT (t := 95) (xs := (l2.getD i default).needs ++ [(⟨someV L (j + 5) azE, pickV L (j + 6) zoE⟩ : NeedS)]) (i := 2) hB hnew rfl rfl (by simp)) ?_
              refine VO.vv (OpV.nilCheck rfl rfl) ?_
              refine VO.vv (OpV.fieldAddrO 2 rfl Tryz.underlying115 rfl rfl Tryz.sizeOf68 rfl) ?_
              refine VO.op rfl (OpE.store1 (i := 1) rfl hB rfl Tryz.sizeOf68 rfl rfl rfl rfl rfl rfl (rowL_in rfl (by omega) (by decide)) (rowL_set (x := ({l2.getD i default with needs := (l2.getD i default).needs ++ [(⟨someV L (j + 5) azE, pickV L (j + 6) zoE⟩ : NeedS)]} : PaceS)) rfl (by omega) (by decide) rfl (fun i hi hn => pc_upd (by simp) (by simp) (by simp) i hi hn)) trivial ?_)
              refine VO.nil ?_
              refine VC.sr ?_
              refine VO.mw ?_
              refine VO.mb ?_
              refine VO.nil ?_
              refine VC.le _ (Le.boxT (t := 2) (i := 1) (n := l.length) (xs := l2.set i ({l2.getD i default with needs := (l2.getD i default).needs ++ [(⟨someV L (j + 5) azE, pickV L (j + 6) zoE⟩ : NeedS)]} : PaceS)) hB hnew rfl rfl (by rw [List.length_set]; omega) hcap hmx) ?_
              refine VC.ret ?_
              exact Exists.intro _ (And.intro (RetV.one Tryz.results99 (ResV.tmp rfl)) (by first | exact pc_out (hV.trans (pcTail_0 (by omega))) | exact pc_out (hV.trans (pcTail_1 (by omega) (by omega))) | exact pc_out (hV.trans (by rw [el2]; exact pcTail_2 (by omega) (by omega) hi (by omega) e67 e74)) | exact pc_out (hV.trans (pcTail_3 (by omega) (by omega) hi (by omega) e67 e74 rfl rfl el2 hil))))
            · have h5 := h5b
              try simp only [qq] at h5
              refine VC.skip ?_
              refine VC.sr ?_
              refine VO.mw ?_
              refine VO.mb ?_
              refine VO.nil ?_
              refine VC.le _ (Le.boxT (t := 2) (i := 1) (n := l.length) (xs := l2) hB hnew rfl rfl (by omega) hcap hmx) ?_
              refine VC.ret ?_
              exact Exists.intro _ (And.intro (RetV.one Tryz.results99 (ResV.tmp rfl)) (by first | exact pc_out (hV.trans (pcTail_0 (by omega))) | exact pc_out (hV.trans (pcTail_1 (by omega) (by omega))) | exact pc_out (hV.trans (by rw [el2]; exact pcTail_2 (by omega) (by omega) hi (by omega) e67 e74)) | exact pc_out (hV.trans (pcTail_3 (by omega) (by omega) hi (by omega) e67 e74 rfl rfl el2 hil))))
          ·
            refine bI rfl hB rfl (by decide) rfl rfl ?_
            refine VA.le _ (Le.lI (t := 73) (xs := [(xP l i).cycle, 0, 10000001]) rfl rfl) ?_
            refine VA.all (rs := [8]) (by decide +kernel) (by decide) ?_
            refine ⟨⟨_, rfl, .inl rfl, ?_⟩, trivial⟩
            refine OpE.callHX (rest := [_]) txi_stab hGX rfl hB rfl Tryz.call79 rfl rfl (some_X (xs := [(xP l i).product, ⟨#[]⟩, ⟨#[112]⟩]) (by omega) (by simp) hp0) (List.Perm.refl _) (fun b h => .inr ⟨by decide, blkStr h⟩) ?_
            rintro _ _ ⟨rfl, rfl⟩
            refine VA.le _ (Le.recast (t := 67) (y := avS r67) rfl (fun w Z u h => by rw [← e67]; exact h)) ?_
            refine VA.all (rs := [15]) (by decide +kernel) (by decide) ?_
            refine ⟨⟨_, rfl, .inl rfl, ?_⟩, trivial⟩
            refine OpE.callHX (rest := [_]) txi_stab hGX rfl hB rfl Tryz.call77 rfl rfl (pick_E (xs := [(xP l i).cycle, 0, 10000001]) (by omega) (by simp) hp0) (List.Perm.refl _) (fun b h => .inr ⟨by decide, blkStr h⟩) ?_
            rintro _ _ ⟨rfl, rfl⟩
            refine VA.le _ (Le.recast (t := 74) (y := avI r74) rfl (fun w Z u h => by rw [← e74]; exact h)) ?_
            refine VA.td (i := 16) rfl (OpV.nilCheck rfl rfl) ?_
            refine VA.td (i := 17) rfl (OpV.fieldAddrO 0 rfl Tryz.underlying115 rfl rfl Tryz.sizeOf9 rfl) ?_
            refine VA.all (rs := [18]) (by decide +kernel) (by decide) ?_
            refine ⟨⟨_, rfl, .inl rfl, ?_⟩, trivial⟩
            refine OpE.store1 (i := 1) rfl hB rfl Tryz.sizeOf9 rfl rfl rfl rfl rfl rfl (rowL_in rfl (by omega) (by decide)) (rowL_set (x := ({l.getD i default with product := r67} : PaceS)) rfl (by omega) (by decide) rfl (fun i hi hn => pc_upd (by simp) (by simp) (by simp) i hi hn)) (by first | exact .inl ⟨by decide, rfl⟩) ?_
            refine VA.td (i := 19) rfl (OpV.nilCheck rfl rfl) ?_
            refine VA.td (i := 20) rfl (OpV.fieldAddrO 1 rfl Tryz.underlying115 rfl rfl Tryz.sizeOf3 rfl) ?_
            refine VA.all (rs := [21]) (by decide +kernel) (by decide) ?_
            refine ⟨⟨_, rfl, .inl rfl, ?_⟩, trivial⟩
            refine OpE.store1 (i := 1) rfl hB rfl Tryz.sizeOf3 rfl rfl rfl rfl rfl rfl (rowL_in rfl (by first | omega | (simp only [List.length_set]; omega)) (by decide)) (rowL_set (x := ({l.getD i default with product := r67, cycle := r74} : PaceS)) rfl (by first | omega | (simp only [List.length_set]; omega)) (by decide) rfl (fun i hi hn => by rw [getSetP (by first | omega | (simp only [List.length_set]; omega))]; exact pc_upd (by simp) (by simp) (by simp) i hi hn)) (by first | exact .inl ⟨by decide, rfl⟩) ?_
            refine VA.done (by decide +kernel) ?_
            refine VC.seq ?_
            obtain ⟨l2, el2, h2, ok2⟩ : ∃ l2 : List PaceS, l2 = ((l.set i ({l.getD i default with product := r67} : PaceS)).set i ({l.getD i default with product := r67, cycle := r74} : PaceS)) ∧ l2.length = l.length ∧ ∀ x ∈ l2, x.needs.length ≤ 4 := ⟨_, rfl, by simp, pc_need hok (by simp) (by simp)⟩
            refine VC.le _ (Le.pickH (hp := [bxStr p a0 cap L (j + 4), .box gr ⟨rowL l2, 115, capL * 3⟩]) [0, 1] rfl (by rw [el2]; rfl)) ?_
            refine VC.region ?_
            refine VO.mw ?_
            refine VO.op rfl (OpE.callHX (rest := [_]) txi_stab hGX rfl hB rfl Tryz.call76 rfl rfl (flip_X (by omega) (by omega) hp0) (List.Perm.refl _) (fun _ _ => trivial) ?_)
            rintro _ _ ⟨rfl, rfl⟩
            refine VO.nil ?_
            refine VC.cond rfl (fun h5b => ?_) (fun h5b => ?_)
            · have h5 := h5b
              try simp only [qq] at h5
              refine VC.region ?_
              refine VO.mw ?_
              refine VO.mw ?_
              refine VO.vv (OpV.nilCheck rfl rfl) ?_
              refine VO.vv (OpV.fieldAddrO 2 rfl Tryz.underlying115 rfl rfl Tryz.sizeOf68 rfl) ?_
              refine VO.vv (OpV.load_own (i := 1) rfl hB Tryz.isAgg68 rfl rfl (rowL_at rfl (by omega) (by decide)) (fun h => h)) ?_
              refine VO.op rfl (OpE.callR rfl hB rfl Tryz.call183 (slices_CloneN_R (by have := pc_get4 ok2 (i := i); omega)) (ArgsP.cons (ArgP.ev rfl) (ArgsP.nil)) ?_)
              intro u86
              refine VO.mw ?_
              refine VO.op rfl (bS rfl hB rfl (by decide) rfl rfl ?_)
              refine VO.le _ (Le.lS (t := 88) (xs := azE) rfl rfl) ?_
              refine VO.op rfl (OpE.callHX (rest := [_, _]) txi_stab hGX rfl hB rfl Tryz.call79 rfl rfl (some_X (xs := azE) (by omega) (by omega) hp0) (List.Perm.refl _) (fun _ _ => trivial) ?_)
              rintro _ _ ⟨rfl, rfl⟩
              refine VO.mw ?_
              refine VO.op rfl (bI rfl hB rfl (by decide) rfl rfl ?_)
              refine VO.le _ (Le.lI (t := 91) (xs := zoE) rfl rfl) ?_
              refine VO.op rfl (OpE.callHX (rest := [_, _]) txi_stab hGX rfl hB rfl Tryz.call77 rfl rfl (pick_E (xs := zoE) (by omega) (by omega) hp0) (List.Perm.refl _) (fun _ _ => trivial) ?_)
              rintro _ _ ⟨rfl, rfl⟩
              refine VO.vv (OpV.build (pls := #[(0, 1), (1, 1)]) rfl Tryz.zeroValue90 Tryz.underlying90 (fun w => by kernel_rfl) rfl rfl) ?_
              refine VO.op rfl (OpE.buildSlice (zc := #[.string ⟨#[]⟩, .int .i64 0]) rfl hB rfl Tryz.underlying68 Tryz.sizeOf90 Tryz.zeroValue90 (by decide) (by decide) (by kernel_rfl) rfl rfl ?_)
              refine VO.op rfl (OpE.append1 (i := 2) rfl hB rfl Tryz.underlying68 (infoOf Tryz.t90 2 (by kernel_rfl) rfl rfl) rfl (by decide) (by decide) rfl rfl rfl rfl (rowL_snoc (l2.getD i default).needs (⟨someV L (j + 5) azE, pickV L (j + 6) zoE⟩ : NeedS)) (by have := pc_get4 ok2 (i := i); omega) (fun _ _ => trivial) ?_)
              intro u95
              refine VO.le _ (Le.rowT (t := 95) (xs := (l2.getD i default).needs ++ [(⟨someV L (j + 5) azE, pickV L (j + 6) zoE⟩ : NeedS)]) (i := 2) hB hnew rfl rfl (by simp)) ?_
              refine VO.vv (OpV.nilCheck rfl rfl) ?_
              refine VO.vv (OpV.fieldAddrO 2 rfl Tryz.underlying115 rfl rfl Tryz.sizeOf68 rfl) ?_
              refine VO.op rfl (OpE.store1 (i := 1) rfl hB rfl Tryz.sizeOf68 rfl rfl rfl rfl rfl rfl (rowL_in rfl (by omega) (by decide)) (rowL_set (x := ({l2.getD i default with needs := (l2.getD i default).needs ++ [(⟨someV L (j + 5) azE, pickV L (j + 6) zoE⟩ : NeedS)]} : PaceS)) rfl (by omega) (by decide) rfl (fun i hi hn => pc_upd (by simp) (by simp) (by simp) i hi hn)) trivial ?_)
              refine VO.nil ?_
              refine VC.sr ?_
              refine VO.mw ?_
              refine VO.mb ?_
              refine VO.nil ?_
              refine VC.le _ (Le.boxT (t := 2) (i := 1) (n := l.length) (xs := l2.set i ({l2.getD i default with needs := (l2.getD i default).needs ++ [(⟨someV L (j + 5) azE, pickV L (j + 6) zoE⟩ : NeedS)]} : PaceS)) hB hnew rfl rfl (by rw [List.length_set]; omega) hcap hmx) ?_
              refine VC.ret ?_
              exact Exists.intro _ (And.intro (RetV.one Tryz.results99 (ResV.tmp rfl)) (by first | exact pc_out (hV.trans (pcTail_0 (by omega))) | exact pc_out (hV.trans (pcTail_1 (by omega) (by omega))) | exact pc_out (hV.trans (by rw [el2]; exact pcTail_2 (by omega) (by omega) hi (by omega) e67 e74)) | exact pc_out (hV.trans (pcTail_3 (by omega) (by omega) hi (by omega) e67 e74 rfl rfl el2 hil))))
            · have h5 := h5b
              try simp only [qq] at h5
              refine VC.skip ?_
              refine VC.sr ?_
              refine VO.mw ?_
              refine VO.mb ?_
              refine VO.nil ?_
              refine VC.le _ (Le.boxT (t := 2) (i := 1) (n := l.length) (xs := l2) hB hnew rfl rfl (by omega) hcap hmx) ?_
              refine VC.ret ?_
              exact Exists.intro _ (And.intro (RetV.one Tryz.results99 (ResV.tmp rfl)) (by first | exact pc_out (hV.trans (pcTail_0 (by omega))) | exact pc_out (hV.trans (pcTail_1 (by omega) (by omega))) | exact pc_out (hV.trans (by rw [el2]; exact pcTail_2 (by omega) (by omega) hi (by omega) e67 e74)) | exact pc_out (hV.trans (pcTail_3 (by omega) (by omega) hi (by omega) e67 e74 rfl rfl el2 hil))))
        ·
          refine bI rfl hB rfl (by decide) rfl rfl ?_
          refine VA.le _ (Le.lI (t := 73) (xs := [(xP l i).cycle, 0, 10000001]) rfl rfl) ?_
          refine VA.all (rs := [7]) (by decide +kernel) (by decide) ?_
          refine ⟨⟨_, rfl, .inl rfl, ?_⟩, trivial⟩
          refine bS rfl hB rfl (by decide) rfl rfl ?_
          refine VA.le _ (Le.lS (t := 66) (xs := [(xP l i).product, ⟨#[]⟩, ⟨#[112]⟩]) rfl rfl) ?_
          refine VA.all (rs := [8]) (by decide +kernel) (by decide) ?_
          refine ⟨⟨_, rfl, .inl rfl, ?_⟩, trivial⟩
          refine OpE.callHX (rest := [_]) txi_stab hGX rfl hB rfl Tryz.call79 rfl rfl (some_X (xs := [(xP l i).product, ⟨#[]⟩, ⟨#[112]⟩]) (by omega) (by simp) hp0) (List.Perm.refl _) (fun b h => .inr ⟨by decide, blkStr h⟩) ?_
          rintro _ _ ⟨rfl, rfl⟩
          refine VA.le _ (Le.recast (t := 67) (y := avS r67) rfl (fun w Z u h => by rw [← e67]; exact h)) ?_
          refine VA.all (rs := [15]) (by decide +kernel) (by decide) ?_
          refine ⟨⟨_, rfl, .inl rfl, ?_⟩, trivial⟩
          refine OpE.callHX (rest := [_]) txi_stab hGX rfl hB rfl Tryz.call77 rfl rfl (pick_E (xs := [(xP l i).cycle, 0, 10000001]) (by omega) (by simp) hp0) (List.Perm.refl _) (fun b h => .inr ⟨by decide, blkStr h⟩) ?_
          rintro _ _ ⟨rfl, rfl⟩
          refine VA.le _ (Le.recast (t := 74) (y := avI r74) rfl (fun w Z u h => by rw [← e74]; exact h)) ?_
          refine VA.td (i := 16) rfl (OpV.nilCheck rfl rfl) ?_
          refine VA.td (i := 17) rfl (OpV.fieldAddrO 0 rfl Tryz.underlying115 rfl rfl Tryz.sizeOf9 rfl) ?_
          refine VA.all (rs := [18]) (by decide +kernel) (by decide) ?_
          refine ⟨⟨_, rfl, .inl rfl, ?_⟩, trivial⟩
          refine OpE.store1 (i := 1) rfl hB rfl Tryz.sizeOf9 rfl rfl rfl rfl rfl rfl (rowL_in rfl (by omega) (by decide)) (rowL_set (x := ({l.getD i default with product := r67} : PaceS)) rfl (by omega) (by decide) rfl (fun i hi hn => pc_upd (by simp) (by simp) (by simp) i hi hn)) (by first | exact .inl ⟨by decide, rfl⟩) ?_
          refine VA.td (i := 19) rfl (OpV.nilCheck rfl rfl) ?_
          refine VA.td (i := 20) rfl (OpV.fieldAddrO 1 rfl Tryz.underlying115 rfl rfl Tryz.sizeOf3 rfl) ?_
          refine VA.all (rs := [21]) (by decide +kernel) (by decide) ?_
          refine ⟨⟨_, rfl, .inl rfl, ?_⟩, trivial⟩
          refine OpE.store1 (i := 1) rfl hB rfl Tryz.sizeOf3 rfl rfl rfl rfl rfl rfl (rowL_in rfl (by first | omega | (simp only [List.length_set]; omega)) (by decide)) (rowL_set (x := ({l.getD i default with product := r67, cycle := r74} : PaceS)) rfl (by first | omega | (simp only [List.length_set]; omega)) (by decide) rfl (fun i hi hn => by rw [getSetP (by first | omega | (simp only [List.length_set]; omega))]; exact pc_upd (by simp) (by simp) (by simp) i hi hn)) (by first | exact .inl ⟨by decide, rfl⟩) ?_
          refine VA.done (by decide +kernel) ?_
          refine VC.seq ?_
          obtain ⟨l2, el2, h2, ok2⟩ : ∃ l2 : List PaceS, l2 = ((l.set i ({l.getD i default with product := r67} : PaceS)).set i ({l.getD i default with product := r67, cycle := r74} : PaceS)) ∧ l2.length = l.length ∧ ∀ x ∈ l2, x.needs.length ≤ 4 := ⟨_, rfl, by simp, pc_need hok (by simp) (by simp)⟩
          refine VC.le _ (Le.pickH (hp := [bxStr p a0 cap L (j + 4), .box gr ⟨rowL l2, 115, capL * 3⟩]) [0, 1] rfl (by rw [el2]; rfl)) ?_
          refine VC.region ?_
          refine VO.mw ?_
          refine VO.op rfl (OpE.callHX (rest := [_]) txi_stab hGX rfl hB rfl Tryz.call76 rfl rfl (flip_X (by omega) (by omega) hp0) (List.Perm.refl _) (fun _ _ => trivial) ?_)
          rintro _ _ ⟨rfl, rfl⟩
          refine VO.nil ?_
          refine VC.cond rfl (fun h5b => ?_) (fun h5b => ?_)
          · have h5 := h5b
            try simp only [qq] at h5
            refine VC.region ?_
            refine VO.mw ?_
            refine VO.mw ?_
            refine VO.vv (OpV.nilCheck rfl rfl) ?_
            refine VO.vv (OpV.fieldAddrO 2 rfl Tryz.underlying115 rfl rfl Tryz.sizeOf68 rfl) ?_
            refine VO.vv (OpV.load_own (i := 1) rfl hB Tryz.isAgg68 rfl rfl (rowL_at rfl (by omega) (by decide)) (fun h => h)) ?_
            refine VO.op rfl (OpE.callR rfl hB rfl Tryz.call183 (slices_CloneN_R (by have := pc_get4 ok2 (i := i); omega)) (ArgsP.cons (ArgP.ev rfl) (ArgsP.nil)) ?_)
            intro u86
            refine VO.mw ?_
            refine VO.op rfl (bS rfl hB rfl (by decide) rfl rfl ?_)
            refine VO.le _ (Le.lS (t := 88) (xs := azE) rfl rfl) ?_
            refine VO.op rfl (OpE.callHX (rest := [_, _]) txi_stab hGX rfl hB rfl Tryz.call79 rfl rfl (some_X (xs := azE) (by omega) (by omega) hp0) (List.Perm.refl _) (fun _ _ => trivial) ?_)
            rintro _ _ ⟨rfl, rfl⟩
            refine VO.mw ?_
            refine VO.op rfl (bI rfl hB rfl (by decide) rfl rfl ?_)
            refine VO.le _ (Le.lI (t := 91) (xs := zoE) rfl rfl) ?_
            refine VO.op rfl (OpE.callHX (rest := [_, _]) txi_stab hGX rfl hB rfl Tryz.call77 rfl rfl (pick_E (xs := zoE) (by omega) (by omega) hp0) (List.Perm.refl _) (fun _ _ => trivial) ?_)
            rintro _ _ ⟨rfl, rfl⟩
            refine VO.vv (OpV.build (pls := #[(0, 1), (1, 1)]) rfl Tryz.zeroValue90 Tryz.underlying90 (fun w => by kernel_rfl) rfl rfl) ?_
            refine VO.op rfl (OpE.buildSlice (zc := #[.string ⟨#[]⟩, .int .i64 0]) rfl hB rfl Tryz.underlying68 Tryz.sizeOf90 Tryz.zeroValue90 (by decide) (by decide) (by kernel_rfl) rfl rfl ?_)
            refine VO.op rfl (OpE.append1 (i := 2) rfl hB rfl Tryz.underlying68 (infoOf Tryz.t90 2 (by kernel_rfl) rfl rfl) rfl (by decide) (by decide) rfl rfl rfl rfl (rowL_snoc (l2.getD i default).needs (⟨someV L (j + 5) azE, pickV L (j + 6) zoE⟩ : NeedS)) (by have := pc_get4 ok2 (i := i); omega) (fun _ _ => trivial) ?_)
            intro u95
            refine VO.le _ (Le.rowT (t := 95) (xs := (l2.getD i default).needs ++ [(⟨someV L (j + 5) azE, pickV L (j + 6) zoE⟩ : NeedS)]) (i := 2) hB hnew rfl rfl (by simp)) ?_
            refine VO.vv (OpV.nilCheck rfl rfl) ?_
            refine VO.vv (OpV.fieldAddrO 2 rfl Tryz.underlying115 rfl rfl Tryz.sizeOf68 rfl) ?_
            refine VO.op rfl (OpE.store1 (i := 1) rfl hB rfl Tryz.sizeOf68 rfl rfl rfl rfl rfl rfl (rowL_in rfl (by omega) (by decide)) (rowL_set (x := ({l2.getD i default with needs := (l2.getD i default).needs ++ [(⟨someV L (j + 5) azE, pickV L (j + 6) zoE⟩ : NeedS)]} : PaceS)) rfl (by omega) (by decide) rfl (fun i hi hn => pc_upd (by simp) (by simp) (by simp) i hi hn)) trivial ?_)
            refine VO.nil ?_
            refine VC.sr ?_
            refine VO.mw ?_
            refine VO.mb ?_
            refine VO.nil ?_
            refine VC.le _ (Le.boxT (t := 2) (i := 1) (n := l.length) (xs := l2.set i ({l2.getD i default with needs := (l2.getD i default).needs ++ [(⟨someV L (j + 5) azE, pickV L (j + 6) zoE⟩ : NeedS)]} : PaceS)) hB hnew rfl rfl (by rw [List.length_set]; omega) hcap hmx) ?_
            refine VC.ret ?_
            exact Exists.intro _ (And.intro (RetV.one Tryz.results99 (ResV.tmp rfl)) (by first | exact pc_out (hV.trans (pcTail_0 (by omega))) | exact pc_out (hV.trans (pcTail_1 (by omega) (by omega))) | exact pc_out (hV.trans (by rw [el2]; exact pcTail_2 (by omega) (by omega) hi (by omega) e67 e74)) | exact pc_out (hV.trans (pcTail_3 (by omega) (by omega) hi (by omega) e67 e74 rfl rfl el2 hil))))
          · have h5 := h5b
            try simp only [qq] at h5
            refine VC.skip ?_
            refine VC.sr ?_
            refine VO.mw ?_
            refine VO.mb ?_
            refine VO.nil ?_
            refine VC.le _ (Le.boxT (t := 2) (i := 1) (n := l.length) (xs := l2) hB hnew rfl rfl (by omega) hcap hmx) ?_
            refine VC.ret ?_
            exact Exists.intro _ (And.intro (RetV.one Tryz.results99 (ResV.tmp rfl)) (by first | exact pc_out (hV.trans (pcTail_0 (by omega))) | exact pc_out (hV.trans (pcTail_1 (by omega) (by omega))) | exact pc_out (hV.trans (by rw [el2]; exact pcTail_2 (by omega) (by omega) hi (by omega) e67 e74)) | exact pc_out (hV.trans (pcTail_3 (by omega) (by omega) hi (by omega) e67 e74 rfl rfl el2 hil))))
      · have aH4 := aH4b
        try simp only [qq] at aH4
        refine VC.skip ?_
        refine VC.sr ?_
        refine VO.mw ?_
        refine VO.mb ?_
        refine VO.nil ?_
        refine VC.le _ (Le.rowT (t := 2) (i := 1) (n := l.length) (xs := l) hB hnew rfl rfl rfl) ?_
        refine VC.ret ?_
        exact Exists.intro _ (And.intro (RetV.one Tryz.results99 (ResV.tmp rfl)) (by first | exact pc_out (hV.trans (pcTail_0 (by omega))) | exact pc_out (hV.trans (pcTail_1 (by omega) (by omega))) | exact pc_out (hV.trans (by rw [el2]; exact pcTail_2 (by omega) (by omega) hi (by omega) e67 e74)) | exact pc_out (hV.trans (pcTail_3 (by omega) (by omega) hi (by omega) e67 e74 rfl rfl el2 hil))))
    · replace aK3b : _ = false := aK3b
      have aK3 := aK3b
      try simp only [qq] at aK3
      refine VO.opX rfl rfl rfl rfl aK3b ?_
      refine VO.vv (OpV.pickF rfl rfl rfl rfl aK3b) ?_
      refine VO.nil ?_
      refine VC.condF rfl rfl ?_
      refine VC.skip ?_
      refine VC.sr ?_
      refine VO.mw ?_
      refine VO.mb ?_
      refine VO.nil ?_
      refine VC.le _ (Le.rowT (t := 2) (i := 1) (n := l.length) (xs := l) hB hnew rfl rfl rfl) ?_
      refine VC.ret ?_
      exact Exists.intro _ (And.intro (RetV.one Tryz.results99 (ResV.tmp rfl)) (by first | exact pc_out (hV.trans (pcTail_0 (by omega))) | exact pc_out (hV.trans (pcTail_1 (by omega) (by omega))) | exact pc_out (hV.trans (by rw [el2]; exact pcTail_2 (by omega) (by omega) hi (by omega) e67 e74)) | exact pc_out (hV.trans (pcTail_3 (by omega) (by omega) hi (by omega) e67 e74 rfl rfl el2 hil))))
end
section
set_option maxHeartbeats 8000000 in
theorem order_X {p0 cap : Nat} {a0 : Option Addr} {p k n : Nat} {L : List Int} (hk : k ≤ 800000) (hn : n ≤ 25) (hp0 : p0 ≤ p) :
  SpecHX (TXI a0 L p0) Tryz.prog 102 [sp p, avI (n : Int)] [bxStr p a0 cap L k] (fun y hp' => ∃ (l : List Int) (k' : Nat), (l.length = n ∧ k' ≤ k + 25) ∧ y = avInts l ∧ hp' = [bxStr p a0 cap L k']) := by
 refine SpecHX.of_VC txi_stab Tryz.func102 rfl Tryz.ntmps102 (Nle rfl) fun w A hB hGX => ?_
 have hnew : True := trivial
 refine VC.sr ?_
 refine VO.mb ?_
 refine VO.nil ?_
 refine VC.sr ?_
 refine VO.mb ?_
 refine VO.nil ?_
 refine VC.seq ?_
 refine VC.sr ?_
 refine VO.mw ?_
 refine VO.mw ?_
 refine VO.nil ?_
 refine VC.block ?_
 refine VC.le _ (Le.nilRow 1 3) ?_
 refine VC.loopK [(0, _), (1, _), (9, _)] ⟨rfl, rfl, rfl, trivial⟩ ({t : Value × List Int × Nat // t.2.2 ≤ n ∧ t.2.1.length = t.2.2}) (fun (iZ : {t : Value × List Int × Nat // t.2.2 ≤ n ∧ t.2.1.length = t.2.2}) => match iZ with | ⟨⟨u, l, q⟩, hq, hl⟩ => [(5, .v u), (10, avI (q : Int))]) (fun (iZ : {t : Value × List Int × Nat // t.2.2 ≤ n ∧ t.2.1.length = t.2.2}) => match iZ with | ⟨⟨u, l, q⟩, hq, hl⟩ => [bxStr p a0 cap L k, .row u l.length 1 (intsL l) 3]) (fun (iZ : {t : Value × List Int × Nat // t.2.2 ≤ n ∧ t.2.1.length = t.2.2}) => match iZ with | ⟨⟨u, l, q⟩, hq, hl⟩ => 0) (fun (iZ : {t : Value × List Int × Nat // t.2.2 ≤ n ∧ t.2.1.length = t.2.2}) => match iZ with | ⟨⟨u, l, q⟩, hq, hl⟩ => n - q) ⟨(.slice none 0 0, [], 0), Nat.zero_le _, rfl⟩ (Le.mk hB [0, 1] ⟨rfl, rfl, rfl, rfl, rfl, trivial⟩ rfl rfl (Nat.le_refl _)) ?_
 rintro ⟨⟨u, l, q⟩, hq, hl⟩
 show VC _ _ _ _ ⟨[(5, .v u), (10, avI (q : Int))] ++ [(0, _), (1, _), (9, _)], [bxStr p a0 cap L k, .row u l.length 1 (intsL l) 3], 0⟩
 simp only at hq hl
 refine VC.sr ?_
 refine VO.vv (OpV.lss rfl rfl rfl) ?_
 refine VO.nil ?_
 refine VC.seq ?_
 refine VC.cond rfl (fun aH1b => ?_) (fun aH1b => ?_)
 ·have aH1 := aH1b
  try simp only [qq] at aH1
  refine VC.skip ?_
  refine VC.seq ?_
  refine VC.block ?_
  refine VC.sr ?_
  refine VO.mw ?_
  refine VO.mb ?_
  refine VO.nil ?_
  refine VC.region ?_
  refine VO.mw ?_
  refine VO.mw ?_
  refine VO.op rfl (bI rfl hB rfl (by decide) rfl rfl ?_)
  refine VO.op rfl (OpE.append1 (i := 1) rfl hB rfl Tryz.underlying22 (infoOf Tryz.t3 1 (by kernel_rfl) rfl rfl) rfl (by decide) (by decide) rfl rfl rfl rfl (intsL_snoc _ _) (by omega) (fun _ _ => trivial) ?_)
  intro u2
  refine VO.mb ?_
  refine VO.nil ?_
  refine VC.region ?_
  refine VO.vv (OpV.add rfl rfl rfl (by unfold fits; omega)) ?_
  refine VO.mw ?_
  refine VO.nil ?_
  exact Exists.intro (⟨(u2, l ++ [(q : Int)], q + 1), by show q + 1 ≤ n; omega, by show (l ++ [_]).length = q + 1; simp; omega⟩) (And.intro (Le.mk hB [0, 1] ⟨rfl, rfl, rfl, rfl, rfl, trivial⟩ rfl (by dsimp only; rw [List.length_append]; rfl) (Nat.le_refl _)) (by first | omega | (show _ < _; omega) | (simp only []; omega)))
 ·have aH1 := aH1b
  try simp only [qq] at aH1
  refine VC.exit ?_
  refine VC.seq ?_
  refine VC.sr ?_
  refine VO.mw ?_
  refine VO.vv (OpV.sub rfl rfl rfl (by unfold fits; omega)) ?_
  refine VO.mb ?_
  refine VO.nil ?_
  refine VC.block ?_
  have hln : l.length = n := by omega
  clear hl hq
  refine VC.loopK [(0, _)] ⟨rfl, trivial⟩ ({t : Value × List Int × Int × Nat // t.2.2.1 = (n : Int) - 1 - t.2.2.2 ∧ t.2.2.2 ≤ n ∧ t.2.1.length = n}) (fun (iZ : {t : Value × List Int × Int × Nat // t.2.2.1 = (n : Int) - 1 - t.2.2.2 ∧ t.2.2.2 ≤ n ∧ t.2.1.length = n}) => match iZ with | ⟨⟨u, l, i, z⟩, hi, hz, hln⟩ => [(5, .v u), (7, avI i)]) (fun (iZ : {t : Value × List Int × Int × Nat // t.2.2.1 = (n : Int) - 1 - t.2.2.2 ∧ t.2.2.2 ≤ n ∧ t.2.1.length = n}) => match iZ with | ⟨⟨u, l, i, z⟩, hi, hz, hln⟩ => [bxStr p a0 cap L (k + z), .row u l.length 1 (intsL l) 3]) (fun (iZ : {t : Value × List Int × Int × Nat // t.2.2.1 = (n : Int) - 1 - t.2.2.2 ∧ t.2.2.2 ≤ n ∧ t.2.1.length = n}) => match iZ with | ⟨⟨u, l, i, z⟩, hi, hz, hln⟩ => 0) (fun (iZ : {t : Value × List Int × Int × Nat // t.2.2.1 = (n : Int) - 1 - t.2.2.2 ∧ t.2.2.2 ≤ n ∧ t.2.1.length = n}) => match iZ with | ⟨⟨u, l, i, z⟩, hi, hz, hln⟩ => n - z) ⟨(u, l, (n : Int) - 1, 0), by show (n : Int) - 1 = (n : Int) - 1 - ((0 : Nat) : Int); omega, Nat.zero_le _, hln⟩ (Le.mk hB [0, 1] ⟨rfl, rfl, rfl, trivial⟩ rfl rfl (Nat.le_refl _)) ?_
  rintro ⟨⟨u, l, i, z⟩, hi, hz, hln⟩
  show VC _ _ _ _ ⟨[(5, .v u), (7, avI i)] ++ [(0, _)], [bxStr p a0 cap L (k + z), .row u l.length 1 (intsL l) 3], 0⟩
  simp only at hi hz hln
  refine VC.seq ?_
  refine VC.sr ?_
  refine VO.mw ?_
  refine VO.vv (OpV.gtr rfl rfl rfl) ?_
  refine VO.nil ?_
  refine VC.cond rfl (fun aH2b => ?_) (fun aH2b => ?_)
  ·have aH2 := aH2b
   try simp only [qq] at aH2
   refine VC.skip ?_
   refine VC.seq ?_
   refine VC.block ?_
   refine VC.seq ?_
   obtain ⟨ii, rfl⟩ : ∃ ii : Nat, i = ii := ⟨i.toNat, by omega⟩
   have hii : ii < n := by omega
   refine VC.region ?_
   refine VO.mw ?_
   refine VO.mw ?_
   refine VO.vv (OpV.add rfl rfl rfl (by unfold fits; omega)) ?_
   refine VO.op rfl (OpE.callHX (rest := [_]) txi_stab hGX rfl hB rfl Tryz.call78 rfl rfl (next_X hp0 (by omega) (by omega)) (List.Perm.refl _) (fun _ _ => trivial) ?_)
   rintro _ _ ⟨rfl, rfl⟩
   have hx1 := nxt_lo L (k + z) ((ii : Int) + 1)
   have hx2 := nxt_lt L (k + z) ((ii : Int) + 1) (by omega)
   obtain ⟨kk, hkk0⟩ : ∃ kk : Nat, nxt L (k + z) ((ii : Int) + 1) = kk := ⟨(nxt L (k + z) ((ii : Int) + 1)).toNat, by omega⟩
   have hkk : kk < n := by omega
   refine VO.le _ (Le.recast (t := 27) (y := avI (kk : Int)) rfl (fun w Z u h => by rw [← hkk0]; exact h)) ?_
   refine VO.mb ?_
   refine VO.nil ?_
   refine VC.asBox (i := 1) rfl (by omega) (fun g capL hu hcap hmx => ?_)
   subst hu
   refine VC.draw (fun j b => j ∈ [13, 15] ∧ b = g) hB (by kernel_rfl) ?_
   refine VA.tk (i := 0) rfl (OpV.move (.inl rfl) rfl) ?_
   refine VA.tk (i := 1) rfl (OpV.move (.inl rfl) rfl) ?_
   refine VA.tk (i := 2) rfl (OpV.move (.inl rfl) rfl) ?_
   refine VA.tk (i := 3) rfl (OpV.move (.inl rfl) rfl) ?_
   refine VA.tk (i := 4) rfl (OpV.move (.inl rfl) rfl) ?_
   refine VA.tk (i := 5) rfl (OpV.move (.inl rfl) rfl) ?_
   refine VA.tk (i := 6) rfl (OpV.indexAddr_o rfl Tryz.underlying22 Tryz.sizeOf3 rfl rfl rfl (by omega)) ?_
   refine VA.tk (i := 7) rfl (OpV.load_own (i := 1) rfl hB Tryz.isAgg3 rfl rfl (intsL_get (j := kk) (by omega)) (Wi.notD (by kernel_rfl))) ?_
   refine VA.tk (i := 8) rfl (OpV.move (.inl rfl) rfl) ?_
   refine VA.tk (i := 9) rfl (OpV.move (.inl rfl) rfl) ?_
   refine VA.tk (i := 10) rfl (OpV.indexAddr_o rfl Tryz.underlying22 Tryz.sizeOf3 rfl rfl rfl (by omega)) ?_
   refine VA.tk (i := 11) rfl (OpV.load_own (i := 1) rfl hB Tryz.isAgg3 rfl rfl (intsL_get (j := ii) (by omega)) (Wi.notD (by kernel_rfl))) ?_
   refine VA.tk (i := 12) rfl (OpV.indexAddr_o rfl Tryz.underlying22 Tryz.sizeOf3 rfl rfl rfl (by omega)) ?_
   refine VA.all (rs := [13]) (by kernel_rfl) (by decide) ?_
   refine ⟨⟨_, rfl, .inl rfl, ?_⟩, trivial⟩
   refine OpE.store1 (i := 1) rfl hB rfl Tryz.sizeOf3 rfl rfl rfl rfl rfl rfl (by rw [intsL_len]; omega) (intsL_set _ _ _) (by first | exact ⟨rfl, rfl⟩ | exact .inl ⟨rfl, rfl⟩ | exact .inr ⟨rfl, rfl⟩ | exact ⟨rfl, trivial⟩ | exact .inl ⟨rfl, trivial⟩ | exact .inr ⟨rfl, trivial⟩ | exact ⟨by decide, rfl⟩) ?_
   refine VA.tk (i := 14) rfl (OpV.indexAddr_o rfl Tryz.underlying22 Tryz.sizeOf3 rfl rfl rfl (by omega)) ?_
   refine VA.all (rs := [15]) (by kernel_rfl) (by decide) ?_
   refine ⟨⟨_, rfl, .inl rfl, ?_⟩, trivial⟩
   refine OpE.store1 (i := 1) rfl hB rfl Tryz.sizeOf3 rfl rfl rfl rfl rfl rfl (by rw [intsL_len, List.length_set]; omega) (intsL_set _ _ _) (by first | exact ⟨rfl, rfl⟩ | exact .inl ⟨rfl, rfl⟩ | exact .inr ⟨rfl, rfl⟩ | exact ⟨rfl, trivial⟩ | exact .inl ⟨rfl, trivial⟩ | exact .inr ⟨rfl, trivial⟩ | exact ⟨by decide, rfl⟩) ?_
   refine VA.done (by kernel_rfl) ?_
   refine VC.le _ (Le.boxRow (i := 1) (n := l.length) rfl (by rw [intsL_len, List.length_set, List.length_set]; omega) hcap hmx) ?_
   refine VC.region ?_
   refine VO.mw ?_
   refine VO.vv (OpV.sub rfl rfl rfl (by unfold fits; omega)) ?_
   refine VO.mb ?_
   refine VO.nil ?_
   exact Exists.intro (⟨(.slice (some ⟨g, 0, none⟩) l.length capL, (l.set ii (l.getD kk 0)).set kk (l.getD ii 0), (ii : Int) - 1, z + 1), by show (ii : Int) - 1 = (n : Int) - 1 - ((z + 1 : Nat) : Int); omega, by show z + 1 ≤ n; omega, by simp; omega⟩) (And.intro (Le.mk hB [0, 1] ⟨rfl, rfl, rfl, trivial⟩ rfl (by dsimp only; rw [List.length_set, List.length_set]; rfl) (Nat.le_refl _)) (by first | omega | (show _ < _; omega) | (simp only []; omega)))
  ·have aH2 := aH2b
   try simp only [qq] at aH2
   refine VC.exit ?_
   refine VC.sr ?_
   refine VO.mw ?_
   refine VO.mb ?_
   refine VO.nil ?_
   refine VC.le _ (Le.rowI (t := 4) (i := 1) hB hnew rfl rfl rfl) ?_
   refine VC.le _ (Le.pickH [0] rfl rfl) ?_
   refine VC.ret ?_
   exact Exists.intro _ (And.intro (RetV.one Tryz.results102 (ResV.tmp rfl)) (⟨l, k + z, ⟨hln, by omega⟩, rfl, rfl⟩))
set_option maxHeartbeats 4000000 in
theorem anOrder_X {p0 cap : Nat} {a0 : Option Addr} {p k n : Nat} {L : List Int} (hk : k ≤ 700000) (hn : n ≤ 25) (hp0 : p0 ≤ p) :
  SpecHX (TXI a0 L p0) Tryz.prog 40 [sp p, avI (n : Int)] [bxStr p a0 cap L k] (fun y hp' => ∃ (l : List Int) (k' : Nat), l.length ≤ n + 1 ∧ y = avInts l ∧ hp' = [bxStr p a0 cap L k']) := by
 refine SpecHX.of_VC txi_stab Tryz.func40 rfl Tryz.ntmps40 (Nle rfl) fun w A hB hGX => ?_
 have hnew : True := trivial
 refine VC.sr ?_
 refine VO.mb ?_
 refine VO.nil ?_
 refine VC.sr ?_
 refine VO.mb ?_
 refine VO.nil ?_
 refine VC.seq ?_
 refine VC.sr ?_
 refine VO.mw ?_
 refine VO.vv (OpV.gtr rfl rfl rfl) ?_
 refine VO.nil ?_
 refine VC.cond rfl (fun h0b => ?_) (fun h0b => ?_)
 ·have h0 := h0b
  try simp only [qq] at h0
  refine VC.region ?_
  refine VO.mw ?_
  refine VO.mw ?_
  refine VO.op rfl (OpE.callHX (rest := []) txi_stab hGX rfl hB rfl Tryz.call102 rfl rfl (order_X (by omega) hn hp0) (List.Perm.refl _) (fun _ _ => trivial) ?_)
  rintro _ _ ⟨l, k1, ⟨hl, hk1⟩, rfl, rfl⟩
  have hl1 : l.length ≤ n := Nat.le_of_eq hl
  refine VO.mb ?_
  refine VO.nil ?_
  refine VC.seq ?_
  refine VC.sr ?_
  refine VO.mw ?_
  refine VO.op rfl (OpE.callHX (rest := []) txi_stab hGX rfl hB rfl Tryz.call76 rfl rfl (flip_X (by omega) (by omega) hp0) (List.Perm.refl _) (fun _ _ => trivial) ?_)
  rintro _ _ ⟨rfl, rfl⟩
  refine VO.nil ?_
  refine VC.cond rfl (fun aH1b => ?_) (fun aH1b => ?_)
  ·have aH1 := aH1b
   try simp only [qq] at aH1
   refine VC.region ?_
   refine VO.mw ?_
   refine VO.op rfl (OpE.callR rfl hB rfl Tryz.call26 (slices_Clone_R (by omega)) (ArgsP.cons (ArgP.ev rfl) (ArgsP.nil)) ?_)
   intro u14
   refine VO.mw ?_
   refine VO.mw ?_
   refine VO.op rfl (bI rfl hB rfl (by decide) rfl rfl ?_)
   refine VO.le _ (Le.lI (t := 17) (xs := [0, -1, (n : Int)]) rfl rfl) ?_
   refine VO.op rfl (OpE.callHX (rest := [_]) txi_stab hGX rfl hB rfl Tryz.call77 rfl rfl (pick_E (xs := [0, -1, (n : Int)]) (by omega) (by simp) hp0) (List.Perm.refl _) (fun _ _ => trivial) ?_)
   rintro _ _ ⟨rfl, rfl⟩
   refine VO.op rfl (bI rfl hB rfl (by decide) rfl rfl ?_)
   refine VO.op rfl (OpE.append1 (i := 1) rfl hB rfl Tryz.underlying22 (infoOf Tryz.t3 1 (by kernel_rfl) rfl rfl) rfl (by decide) (by decide) rfl rfl rfl rfl (intsL_snoc _ _) (by omega) (fun _ _ => trivial) ?_)
   intro u20
   refine VO.mb ?_
   refine VO.nil ?_
   refine VC.sr ?_
   refine VO.mw ?_
   refine VO.mb ?_
   refine VO.nil ?_
   refine VC.le _ (Le.rowI (t := 4) (i := 1) hB hnew rfl rfl (by simp)) ?_
   refine VC.ret ?_
   exact Exists.intro _ (And.intro (RetV.one Tryz.results40 (ResV.tmp rfl)) (by first | exact ⟨l, _, by omega, rfl, rfl⟩ | exact ⟨_, _, by simp; omega, rfl, rfl⟩))
  ·have aH1 := aH1b
   try simp only [qq] at aH1
   refine VC.skip ?_
   refine VC.sr ?_
   refine VO.mw ?_
   refine VO.mb ?_
   refine VO.nil ?_
   skip
   refine VC.ret ?_
   exact Exists.intro _ (And.intro (RetV.one Tryz.results40 (ResV.tmp rfl)) (by first | exact ⟨l, _, by omega, rfl, rfl⟩ | exact ⟨_, _, by simp; omega, rfl, rfl⟩))
 ·have h0 := h0b
  try simp only [qq] at h0
  obtain ⟨l, hl1, hle⟩ : ∃ l : List Int, l.length ≤ n ∧ l = [] := ⟨[], Nat.zero_le _, rfl⟩
  obtain ⟨k1, hk1e⟩ : ∃ z, z = k := ⟨_, rfl⟩
  refine VC.le _ (Le.recast (t := 5) (y := avInts l) rfl (fun w Z u h => by subst hle; rw [h.eq_v]; exact .nil _ _)) ?_
  refine VC.le _ (Le.perm (hp := [bxStr p a0 cap L k1]) (by show [bxStr p a0 cap L k].Perm _; rw [hk1e])) ?_
  refine VC.skip ?_
  refine VC.seq ?_
  refine VC.sr ?_
  refine VO.mw ?_
  refine VO.op rfl (OpE.callHX (rest := []) txi_stab hGX rfl hB rfl Tryz.call76 rfl rfl (flip_X (by omega) (by omega) hp0) (List.Perm.refl _) (fun _ _ => trivial) ?_)
  rintro _ _ ⟨rfl, rfl⟩
  refine VO.nil ?_
  refine VC.cond rfl (fun aH2b => ?_) (fun aH2b => ?_)
  ·have aH2 := aH2b
   try simp only [qq] at aH2
   refine VC.region ?_
   refine VO.mw ?_
   refine VO.op rfl (OpE.callR rfl hB rfl Tryz.call26 (slices_Clone_R (by omega)) (ArgsP.cons (ArgP.ev rfl) (ArgsP.nil)) ?_)
   intro u14
   refine VO.mw ?_
   refine VO.mw ?_
   refine VO.op rfl (bI rfl hB rfl (by decide) rfl rfl ?_)
   refine VO.le _ (Le.lI (t := 17) (xs := [0, -1, (n : Int)]) rfl rfl) ?_
   refine VO.op rfl (OpE.callHX (rest := [_]) txi_stab hGX rfl hB rfl Tryz.call77 rfl rfl (pick_E (xs := [0, -1, (n : Int)]) (by omega) (by simp) hp0) (List.Perm.refl _) (fun _ _ => trivial) ?_)
   rintro _ _ ⟨rfl, rfl⟩
   refine VO.op rfl (bI rfl hB rfl (by decide) rfl rfl ?_)
   refine VO.op rfl (OpE.append1 (i := 1) rfl hB rfl Tryz.underlying22 (infoOf Tryz.t3 1 (by kernel_rfl) rfl rfl) rfl (by decide) (by decide) rfl rfl rfl rfl (intsL_snoc _ _) (by omega) (fun _ _ => trivial) ?_)
   intro u20
   refine VO.mb ?_
   refine VO.nil ?_
   refine VC.sr ?_
   refine VO.mw ?_
   refine VO.mb ?_
   refine VO.nil ?_
   refine VC.le _ (Le.rowI (t := 4) (i := 1) hB hnew rfl rfl (by simp)) ?_
   refine VC.ret ?_
   exact Exists.intro _ (And.intro (RetV.one Tryz.results40 (ResV.tmp rfl)) (by first | exact ⟨l, _, by omega, rfl, rfl⟩ | exact ⟨_, _, by simp; omega, rfl, rfl⟩))
  ·have aH2 := aH2b
   try simp only [qq] at aH2
   refine VC.skip ?_
   refine VC.sr ?_
   refine VO.mw ?_
   refine VO.mb ?_
   refine VO.nil ?_
   skip
   refine VC.ret ?_
   exact Exists.intro _ (And.intro (RetV.one Tryz.results40 (ResV.tmp rfl)) (by first | exact ⟨l, _, by omega, rfl, rfl⟩ | exact ⟨_, _, by simp; omega, rfl, rfl⟩))
end
section
theorem roV_y {L : List Int} {m f k J1 J2 : Nat} {pc : List PaceS} {o : List OrdrS} (e1 : pcV L k = (pc, J1)) (e2 : orV L J1 m = (o, J2)) (h : bothF pc o = 0) : roV L m (f + 1) k = ((pc, o), J2) := by rw [roV, e1]; simp only [e2]; rw [if_pos h]
theorem roV_n {L : List Int} {m f k J1 J2 : Nat} {pc : List PaceS} {o : List OrdrS} (e1 : pcV L k = (pc, J1)) (e2 : orV L J1 m = (o, J2)) (h : bothF pc o ≠ 0) : roV L m (f + 1) k = roV L m f J2 := by rw [roV, e1]; simp only [e2]; rw [if_neg h]
set_option maxHeartbeats 4000000 in
theorem rightOrders_E {p0 cap : Nat} {a0 : Option Addr} {p k m : Nat} {L : List Int} (hk : k ≤ 700000) (hm : m ≤ 20) (hp0 : p0 ≤ p) :
  SpecHX (TXI a0 L p0) Tryz.prog 38 [sp p, avI (m : Int)] [bxStr p a0 cap L k] (fun y hp' => y = .tup [avL (roV L m 8 k).1.1, avL (roV L m 8 k).1.2] ∧ hp' = [bxStr p a0 cap L (roV L m 8 k).2]) := by
 refine SpecHX.of_VC txi_stab Tryz.func38 rfl Tryz.ntmps38 (Nle rfl) fun w A hB hGX => ?_
 refine VC.sr ?_
 refine VO.mb ?_
 refine VO.mb ?_
 refine VO.nil ?_
 refine VC.seq ?_
 refine VC.sr ?_
 refine VO.mw ?_
 refine VO.nil ?_
 refine VC.block ?_
 refine VC.loopK [(0, _), (1, _)] ⟨rfl, rfl, trivial⟩ ({t : Nat × Nat // t.2 ≤ 8 ∧ t.1 ≤ k + 200 * t.2 ∧ roV L m (8 - t.2) t.1 = roV L m 8 k}) (fun (iZ : {t : Nat × Nat // t.2 ≤ 8 ∧ t.1 ≤ k + 200 * t.2 ∧ roV L m (8 - t.2) t.1 = roV L m 8 k}) => match iZ with | ⟨⟨j, q⟩, hq, hj, hE⟩ => [(8, avI (q : Int))]) (fun (iZ : {t : Nat × Nat // t.2 ≤ 8 ∧ t.1 ≤ k + 200 * t.2 ∧ roV L m (8 - t.2) t.1 = roV L m 8 k}) => match iZ with | ⟨⟨j, q⟩, hq, hj, hE⟩ => [bxStr p a0 cap L j]) (fun (iZ : {t : Nat × Nat // t.2 ≤ 8 ∧ t.1 ≤ k + 200 * t.2 ∧ roV L m (8 - t.2) t.1 = roV L m 8 k}) => match iZ with | ⟨⟨j, q⟩, hq, hj, hE⟩ => 0) (fun (iZ : {t : Nat × Nat // t.2 ≤ 8 ∧ t.1 ≤ k + 200 * t.2 ∧ roV L m (8 - t.2) t.1 = roV L m 8 k}) => match iZ with | ⟨⟨j, q⟩, hq, hj, hE⟩ => 8 - q) ⟨(k, 0), Nat.zero_le _, Nat.le_refl _, rfl⟩ (Le.mk hB [0] ⟨rfl, rfl, rfl, trivial⟩ rfl rfl (Nat.le_refl _)) ?_
 rintro ⟨⟨j, q⟩, hq, hj, hE⟩
 show VC _ _ _ _ ⟨[(8, avI (q : Int))] ++ [(0, _), (1, _)], [bxStr p a0 cap L j], 0⟩
 simp only at hq hj hE
 refine VC.sr ?_
 refine VO.vv (OpV.lss rfl rfl rfl) ?_
 refine VO.nil ?_
 refine VC.seq ?_
 refine VC.cond rfl (fun aH1b => ?_) (fun aH1b => ?_)
 ·have aH1 := aH1b
  try simp only [qq] at aH1
  refine VC.skip ?_
  refine VC.seq ?_
  refine VC.block ?_
  refine VC.sr ?_
  refine VO.mw ?_
  refine VO.op rfl (OpE.callHX (rest := []) txi_stab hGX rfl hB rfl Tryz.call99 rfl rfl (paces_E (by omega) hp0) (List.Perm.refl _) (fun _ _ => trivial) ?_)
  rintro _ _ ⟨rfl, rfl⟩
  obtain ⟨hpl, hJ, hpo⟩ := pcV_ok (L := L) (k := j)
  obtain ⟨⟨pc, J⟩, hP⟩ : ∃ z, pcV L j = z := ⟨_, rfl⟩
  rw [hP] at hpl hJ hpo
  simp only at hpl hJ hpo
  have h6 : 8 - q = (8 - (q + 1)) + 1 := by omega
  refine VO.le _ (Le.recast (t := 11) (y := avL pc) rfl (fun w Z u h => by rw [hP] at h; exact h)) ?_
  refine VO.le _ (Le.perm (hp := [bxStr p a0 cap L J]) (by have e : (pcV L j).2 = J := by { rw [hP] }; show [bxStr p a0 cap L (pcV L j).2].Perm _; rw [e])) ?_
  refine VO.mb ?_
  refine VO.nil ?_
  refine VC.sr ?_
  refine VO.mw ?_
  refine VO.mw ?_
  refine VO.op rfl (OpE.callHX (rest := []) txi_stab hGX rfl hB rfl Tryz.call100 rfl rfl (orders_E (by omega) hm hp0) (List.Perm.refl _) (fun _ _ => trivial) ?_)
  rintro _ _ ⟨rfl, rfl⟩
  obtain ⟨hol, hJ2, hoo⟩ := orV_ok (L := L) (k := J) hm
  obtain ⟨⟨o, J2⟩, hO⟩ : ∃ z, orV L J m = z := ⟨_, rfl⟩
  rw [hO] at hol hJ2 hoo
  simp only at hol hJ2 hoo
  refine VO.le _ (Le.recast (t := 14) (y := avL o) rfl (fun w Z u h => by rw [hO] at h; exact h)) ?_
  refine VO.le _ (Le.perm (hp := [bxStr p a0 cap L J2]) (by have e : (orV L J m).2 = J2 := by { rw [hO] }; show [bxStr p a0 cap L (orV L J m).2].Perm _; rw [e])) ?_
  refine VO.mb ?_
  refine VO.nil ?_
  refine VC.sr ?_
  refine VO.mw ?_
  refine VO.mw ?_
  refine VO.op rfl (OpE.call rfl hB rfl Tryz.call101 rfl (SpecN.spec (rf_BothFault (PcOk.sm hpo (by omega)) (hoo.sm (by omega)))) ?_)
  rintro _ rfl
  refine VO.vv (OpV.eql rfl rfl rfl) ?_
  refine VO.nil ?_
  refine VC.cond rfl (fun h1b => ?_) (fun h1b => ?_)
  ·have h1 := h1b
   try simp only [qq] at h1
   refine VC.sr ?_
   refine VO.mw ?_
   refine VO.mw ?_
   refine VO.mb ?_
   refine VO.mb ?_
   refine VO.nil ?_
   refine VC.ret ?_
   exact Exists.intro _ (And.intro (RetV.two Tryz.results38 (ResV.tmp rfl) (ResV.tmp rfl)) (by have e : roV L m 8 k = ((pc, o), J2) := by { rw [← hE, h6]; exact roV_y hP hO (by omega) }; rw [e]; exact ⟨rfl, rfl⟩))
  ·have h1 := h1b
   try simp only [qq] at h1
   refine VC.skip ?_
   refine VC.region ?_
   refine VO.vv (OpV.add rfl rfl rfl (by unfold fits; omega)) ?_
   refine VO.mw ?_
   refine VO.nil ?_
   exact Exists.intro (⟨(J2, q + 1), by show q + 1 ≤ 8; omega, by show J2 ≤ k + 200 * (q + 1); omega, by show roV L m (8 - (q + 1)) J2 = _; rw [← hE, h6, roV_n hP hO (by omega)]⟩) (And.intro (Le.mk hB [0] ⟨rfl, rfl, rfl, trivial⟩ rfl rfl (Nat.le_refl _)) (by first | omega | (show _ < _; omega) | (simp only []; omega)))
 ·have aH1 := aH1b
  try simp only [qq] at aH1
  obtain rfl : q = 8 := by omega
  refine VC.exit ?_
  refine VC.sr ?_
  refine VO.mb ?_
  refine VO.mb ?_
  refine VO.nil ?_
  refine VC.le _ (Le.recast (t := 4) (y := avL ([] : List PaceS)) rfl (fun w Z u h => by rw [h.eq_v]; exact .nil _ _)) ?_
  refine VC.le _ (Le.recast (t := 5) (y := avL ([] : List OrdrS)) rfl (fun w Z u h => by rw [h.eq_v]; exact .nil _ _)) ?_
  refine VC.ret ?_
  exact Exists.intro _ (And.intro (RetV.two Tryz.results38 (ResV.tmp rfl) (ResV.tmp rfl)) (by rw [← hE]; exact ⟨rfl, rfl⟩))
end
section
theorem ns_upd {a b : NeedS} {k : Nat} (h0 : k = 0 ∨ a.key = b.key) (h1 : k = 1 ∨ a.count = b.count) : ∀ i, i < 2 → i ≠ k → Sxc.cell a i = Sxc.cell b i := fun i hi hn => by
 match i, hi with
 | 0, _ => show avS a.key = avS b.key; rw [h0.resolve_left fun h => hn h.symm]
 | 1, _ => show avI a.count = avI b.count; rw [h1.resolve_left fun h => hn h.symm]
theorem partK_e : ByteArray.empty ∈ partK := .tail _ (.tail _ (.tail _ (.tail _ (.tail _ (.head _)))))
theorem NsOk.getD {m : Nat} {l : List NeedS} (h : NsOk m l) (i : Nat) : (l.getD i default).key ∈ partK := by
 rw [List.getD_eq_getElem?_getD]
 cases hi : l[i]? with
 | none => exact partK_e
 | some x => exact h.2 x (List.mem_of_getElem? hi)
theorem NsOk.setD {m : Nat} {l : List NeedS} (h : NsOk m l) (q : Nat) {x : NeedS} (hx : x.key ∈ partK) : NsOk m (l.set q x) := ⟨by rw [List.length_set]; exact h.1, fun y hy => by
 rcases List.mem_or_eq_of_mem_set hy with h' | rfl
 ·exact h.2 y h'
 ·exact hx⟩
end
section
def stk5 : List Int := [0, 5, 10, 20, 40]
def stIn (L : List Int) (q : Nat) (z : List NeedS × Nat) : List NeedS × Nat := if nxt L z.2 4 = 0 then (z.1, z.2 + 1) else (z.1 ++ [⟨k4P.getD q ByteArray.empty, pickV L (z.2 + 1) stk5⟩], z.2 + 2)
def stL (L : List Int) (k : Nat) : Nat → List NeedS × Nat
 | 0 => ([], k)
 | q + 1 => stIn L q (stL L k q)
def stTail (L : List Int) (l : List NeedS) (j : Nat) : List NeedS × Nat :=
 if 0 < l.length then
  if nxt L j 15 = 0 then (l.set (nxt L (j + 1) l.length).toNat ⟨someV L (j + 2) [(l.getD (nxt L (j + 1) l.length).toNat default).key, ⟨#[]⟩, ⟨#[97]⟩], pickV L (j + 3) [(l.getD (nxt L (j + 1) l.length).toNat default).count, -1, 1000000000, 1000000001]⟩, j + 4)
  else (l, j + 1)
 else (l, j)
def stV (L : List Int) (k : Nat) : List NeedS × Nat := stTail L (stL L k 4).1 (stL L k 4).2
abbrev xN (l : List NeedS) (m : Nat) : NeedS := l.getD m default
section
variable {L : List Int} {q j k m : Nat} {l : List NeedS}
theorem stIn_n (h : nxt L j 4 = 0) : stIn L q (l, j) = (l, j + 1) := if_pos h
theorem stIn_y (h : nxt L j 4 ≠ 0) : stIn L q (l, j) = (l ++ [⟨k4P.getD q ByteArray.empty, pickV L (j + 1) stk5⟩], j + 2) := if_neg h
theorem stTail_0 (h : l.length = 0) : stTail L l j = (l, j) := if_neg (by omega)
theorem stTail_1 (h : 0 < l.length) (h1 : nxt L j 15 ≠ 0) : stTail L l j = (l, j + 1) := by rw [stTail, if_pos h, if_neg h1]
theorem stTail_2 {r1 : ByteArray} {r2 : Int} (h : 0 < l.length) (h1 : nxt L j 15 = 0) (hi : nxt L (j + 1) l.length = (m : Int)) (e1 : someV L (j + 2) [(xN l m).key, ⟨#[]⟩, ⟨#[97]⟩] = r1) (e2 : pickV L (j + 3) [(xN l m).count, -1, 1000000000, 1000000001] = r2) :
  stTail L l j = ((l.set m ({l.getD m default with key := r1} : NeedS)).set m ({l.getD m default with key := r1, count := r2} : NeedS), j + 4) := by
 rw [stTail, if_pos h, if_pos h1, hi, Int.toNat_natCast, e1, e2]
 simp only [List.set_set]
theorem stL_ok : ∀ q, NsOk q (stL L k q).1 ∧ (stL L k q).2 ≤ k + 2 * q
 | 0 => ⟨⟨Nat.le_refl _, fun x h => by cases h⟩, Nat.le_refl _⟩
 | q + 1 => by
  obtain ⟨i1, i2⟩ := stL_ok q
  rw [stL, stIn]
  split
  ·exact ⟨i1.mono (by omega), by show _ + 1 ≤ _; omega⟩
  ·exact ⟨i1.snoc (k4P_mem q), by show _ + 2 ≤ _; omega⟩
theorem stTail_ok {n : Nat} (h : NsOk n l) : NsOk n (stTail L l j).1 ∧ (stTail L l j).2 ≤ j + 4 := by
 unfold stTail
 split
 ·split
  ·refine ⟨h.setD _ (someV_of (P := fun k => k ∈ partK) (fun x hx => ?_) (by simp)), Nat.le_refl _⟩
   simp only [List.mem_cons, List.not_mem_nil, or_false] at hx; rcases hx with rfl | rfl | rfl
   ·exact h.getD _
   ·exact partK_e
   ·exact .head _
  ·exact ⟨h, by show j + 1 ≤ _; omega⟩
 ·exact ⟨h, by show j ≤ _; omega⟩
theorem stV_ok : NsOk 4 (stV L k).1 ∧ (stV L k).2 ≤ k + 12 := by
 obtain ⟨i1, i2⟩ := stL_ok (L := L) (k := k) 4
 obtain ⟨j1, j2⟩ := stTail_ok (L := L) (j := (stL L k 4).2) i1
 exact ⟨j1, by unfold stV; omega⟩
theorem st_out {p cap J : Nat} {a0 : Option Addr} {l' : List NeedS} (hT : stV L k = (l', J)) : avL l' = avL (stV L k).1 ∧ [bxStr p a0 cap L J] = [bxStr p a0 cap L (stV L k).2] := by rw [hT]; exact ⟨rfl, rfl⟩
end
set_option maxHeartbeats 8000000 in
theorem stock_E {p0 cap : Nat} {a0 : Option Addr} {p k : Nat} {L : List Int} (hk : k ≤ 900000) (hp0 : p0 ≤ p) :
    SpecHX (TXI a0 L p0) Tryz.prog 39 [sp p] [bxStr p a0 cap L k] (fun y hp' => y = avL (stV L k).1 ∧ hp' = [bxStr p a0 cap L (stV L k).2]) := by
  have e5 : stk5.length = 5 := rfl
  refine SpecHX.of_VC txi_stab Tryz.func39 rfl Tryz.ntmps39 (Nle rfl) fun w A hB hGX => ?_
  have hnew : True := trivial
  refine VC.sr ?_
  refine VO.mb ?_
  refine VO.nil ?_
  refine VC.sr ?_
  refine VO.mb ?_
  refine VO.nil ?_
  refine VC.seq ?_
  refine VC.sr ?_
  refine VO.op rfl (bS rfl hB rfl (by decide) rfl rfl ?_)
  refine VO.le _ (Le.lS (t := 7) (xs := k4P) rfl rfl) ?_
  refine VO.vv (OpV.len_im rfl Tryz.underlying82 rfl) ?_
  refine VO.mw ?_
  refine VO.nil ?_
  refine VC.block ?_
  refine VC.le _ (Le.nilRow 2 90) ?_
  refine VC.loopK [(0, _), (7, _)] ⟨rfl, rfl, trivial⟩ ({t : Value × (List NeedS × Nat) × Nat // t.2.2 ≤ 4 ∧ t.2.1 = stL L k t.2.2}) (fun (iZ : {t : Value × (List NeedS × Nat) × Nat // t.2.2 ≤ 4 ∧ t.2.1 = stL L k t.2.2}) => match iZ with | ⟨⟨u, ⟨l, j⟩, q⟩, hq, hlj⟩ => [(3, .v u), (8, avI 4), (9, avI (q : Int))]) (fun (iZ : {t : Value × (List NeedS × Nat) × Nat // t.2.2 ≤ 4 ∧ t.2.1 = stL L k t.2.2}) => match iZ with | ⟨⟨u, ⟨l, j⟩, q⟩, hq, hlj⟩ => [bxStr p a0 cap L j, .row u l.length 2 (rowL l) 90]) (fun (iZ : {t : Value × (List NeedS × Nat) × Nat // t.2.2 ≤ 4 ∧ t.2.1 = stL L k t.2.2}) => match iZ with | ⟨⟨u, ⟨l, j⟩, q⟩, hq, hlj⟩ => 0) (fun (iZ : {t : Value × (List NeedS × Nat) × Nat // t.2.2 ≤ 4 ∧ t.2.1 = stL L k t.2.2}) => match iZ with | ⟨⟨u, ⟨l, j⟩, q⟩, hq, hlj⟩ => 4 - q) ⟨(.slice none 0 0, ([], k), 0), Nat.zero_le _, rfl⟩ (Le.mk hB [0, 1] ⟨rfl, rfl, rfl, rfl, rfl, trivial⟩ rfl rfl (Nat.le_refl _)) ?_
  rintro ⟨⟨u, ⟨l, j⟩, q⟩, hq, hlj⟩
  show VC _ _ _ _ ⟨[(3, .v u), (8, avI 4), (9, avI (q : Int))] ++ [(0, _), (7, _)], [bxStr p a0 cap L j, .row u l.length 2 (rowL l) 90], 0⟩
  simp only at hq hlj
  have hB0 := stL_ok (L := L) (k := k) q
  rw [← hlj] at hB0
  obtain ⟨hok, hj⟩ := hB0
  simp only at hj hok
  have hnl := hok.1
  refine VC.sr ?_
  refine VO.vv (OpV.lss rfl rfl rfl) ?_
  refine VO.nil ?_
  refine VC.seq ?_
  refine VC.cond rfl (fun aH1b => ?_) (fun aH1b => ?_)
  · have aH1 := aH1b
    try simp only [qq] at aH1
    refine VC.skip ?_
    refine VC.seq ?_
    refine VC.block ?_
    refine VC.sr ?_
    refine VO.vv (OpV.indexAddr_1 rfl Tryz.underlying82 Tryz.sizeOf9 rfl rfl rfl (by show _ < 4; omega)) ?_
    refine VO.vv (OpV.load_at rfl hB OutW.no Tryz.isAgg9 rfl rfl) ?_
    refine VO.mb ?_
    refine VO.nil ?_
    refine VC.sr ?_
    refine VO.mw ?_
    refine VO.op rfl (OpE.callHX (rest := [_]) txi_stab hGX rfl hB rfl Tryz.call76 rfl rfl (flip_X (by omega) (by omega) hp0) (List.Perm.refl _) (fun _ _ => trivial) ?_)
    rintro _ _ ⟨rfl, rfl⟩
    refine VO.vv (OpV.not rfl rfl) ?_
    refine VO.nil ?_
    refine VC.cond rfl (fun h1b => ?_) (fun h1b => ?_)
    · have h1 := h1b
      try simp only [qq] at h1
      refine VC.region ?_
      refine VO.mw ?_
      refine VO.mw ?_
      refine VO.mw ?_
      refine VO.op rfl (bI rfl hB rfl (by decide) rfl rfl ?_)
      refine VO.le _ (Le.lI (t := 19) (xs := stk5) rfl rfl) ?_
      refine VO.op rfl (OpE.callHX (rest := [_]) txi_stab hGX rfl hB rfl Tryz.call77 rfl rfl (pick_E (xs := stk5) (by omega) (by omega) hp0) (List.Perm.refl _) (fun _ _ => trivial) ?_)
      rintro _ _ ⟨rfl, rfl⟩
      refine VO.vv (OpV.build (pls := #[(0, 1), (1, 1)]) rfl Tryz.zeroValue90 Tryz.underlying90 (fun w => by kernel_rfl) rfl rfl) ?_
      refine VO.op rfl (OpE.buildSlice (zc := #[.string ⟨#[]⟩, .int .i64 0]) rfl hB rfl Tryz.underlying68 Tryz.sizeOf90 Tryz.zeroValue90 (by decide) (by decide) (by kernel_rfl) rfl rfl ?_)
      refine VO.op rfl (OpE.append1 (i := 1) rfl hB rfl Tryz.underlying68 (infoOf Tryz.t90 2 (by kernel_rfl) rfl rfl) rfl (by decide) (by decide) rfl rfl rfl rfl (rowL_snoc l (⟨k4P.getD q ByteArray.empty, pickV L (j + 1) stk5⟩ : NeedS)) (by omega) (fun _ _ => trivial) ?_)
      intro u2
      refine VO.mb ?_
      refine VO.nil ?_
      refine VC.region ?_
      refine VO.vv (OpV.add rfl rfl rfl (by unfold fits; omega)) ?_
      refine VO.mw ?_
      refine VO.nil ?_
      exact Exists.intro (⟨(u2, (l ++ [⟨k4P.getD q ByteArray.empty, pickV L (j + 1) stk5⟩], j + 2), q + 1), by show q + 1 ≤ 4; omega, by show _ = stIn L q (stL L k q); rw [← hlj]; exact (stIn_y (by omega)).symm⟩) (And.intro (Le.mk hB [0, 1] ⟨rfl, rfl, rfl, rfl, rfl, trivial⟩ rfl (by dsimp only; first | rfl | (rw [List.length_append]; rfl)) (Nat.le_refl _)) (by first | omega | (show _ < _; omega) | (simp only []; omega)))
    · have h1 := h1b
      try simp only [qq] at h1
      refine VC.skip ?_
      refine VC.region ?_
      refine VO.vv (OpV.add rfl rfl rfl (by unfold fits; omega)) ?_
      refine VO.mw ?_
      refine VO.nil ?_
      exact Exists.intro (⟨(u, (l, j + 1), q + 1), by show q + 1 ≤ 4; omega, by show _ = stIn L q (stL L k q); rw [← hlj]; exact (stIn_n (by omega)).symm⟩) (And.intro (Le.mk hB [0, 1] ⟨rfl, rfl, rfl, rfl, rfl, trivial⟩ rfl (by dsimp only; first | rfl | (rw [List.length_append]; rfl)) (Nat.le_refl _)) (by first | omega | (show _ < _; omega) | (simp only []; omega)))
  · have aH1 := aH1b
    try simp only [qq] at aH1
    obtain rfl : q = 4 := by omega
    have hV : stV L k = stTail L l j := by unfold stV; rw [← hlj]
    refine VC.exit ?_
    refine VC.seq ?_
    refine VC.sr ?_
    refine VO.mw ?_
    refine VO.vv (OpV.len_row (i := 1) rfl Tryz.underlying68 rfl rfl) ?_
    refine VO.vv (OpV.gtr rfl rfl rfl) ?_
    refine VO.mw ?_
    refine VO.opG rfl rfl rfl rfl (fun aK2b => ?_) (fun aK2b => ?_)
    · replace aK2b : _ = true := aK2b
      have aK2 := aK2b
      try simp only [qq] at aK2
      refine OpE.val (W := NoB) (OpV.move (.inl rfl) rfl) rfl ?_
      refine VO.opY rfl rfl rfl rfl aK2b ?_
      refine OpE.callHX (rest := [_]) txi_stab hGX rfl hB rfl Tryz.call76 rfl rfl (flip_X (by omega) (by omega) hp0) (List.Perm.refl _) (fun _ _ => trivial) ?_
      rintro _ _ ⟨rfl, rfl⟩
      refine VO.vv (OpV.pickT rfl rfl rfl rfl aK2b) ?_
      refine VO.nil ?_
      refine VC.cond rfl (fun aH3b => ?_) (fun aH3b => ?_)
      · have aH3 := aH3b
        try simp only [qq] at aH3
        refine VC.seq ?_
        refine VC.asBox (i := 1) rfl (by omega) (fun gr capL hu hcap hmx => ?_)
        subst hu
        refine VC.region ?_
        refine VO.mw ?_
        refine VO.mw ?_
        refine VO.mw ?_
        refine VO.vv (OpV.len_v rfl Tryz.underlying68 rfl) ?_
        refine VO.op rfl (OpE.callHX (rest := [_]) txi_stab hGX rfl hB rfl Tryz.call78 rfl rfl (next_X hp0 (by omega) (by omega)) (List.Perm.refl _) (fun _ _ => trivial) ?_)
        rintro _ _ ⟨rfl, rfl⟩
        have hx1 := nxt_lo L (j + 1) l.length
        have hx2 := nxt_lt L (j + 1) l.length (by omega)
        obtain ⟨m, hi⟩ : ∃ i : Nat, nxt L (j + 1) l.length = i := ⟨(nxt L (j + 1) l.length).toNat, by omega⟩
        have hil : m < l.length := by omega
        refine VO.le _ (Le.recast (t := 36) (y := avI (m : Int)) rfl (fun w Z u h => by rw [← hi]; exact h)) ?_
        refine VO.vv (OpV.indexAddr_q rfl Tryz.underlying68 Tryz.sizeOf90 rfl rfl rfl (by omega)) ?_
        refine VO.mb ?_
        refine VO.nil ?_
        refine VC.hap (fun hap => ?_)
        have nrp := apart_ne hap (i := 1) (j := 0) rfl rfl (by decide)
        obtain ⟨r46, e46⟩ : ∃ r, someV L (j + 2) [(xN l m).key, ⟨#[]⟩, ⟨#[97]⟩] = r := ⟨_, rfl⟩
        obtain ⟨r53, e53⟩ : ∃ r, pickV L (j + 3) [(xN l m).count, -1, 1000000000, 1000000001] = r := ⟨_, rfl⟩
        refine VC.draw (fun jj b => (jj ∈ [18, 21] ∧ b = gr) ∨ (jj ∈ [8, 15] ∧ b = p)) hB (by kernel_rfl) ?_
        refine VA.td (i := 0) rfl (OpV.move (.inl rfl) rfl) ?_
        refine VA.td (i := 1) rfl (OpV.move (.inl rfl) rfl) ?_
        refine VA.td (i := 2) rfl (OpV.move (.inl rfl) rfl) ?_
        refine VA.td (i := 3) rfl (OpV.move (.inl rfl) rfl) ?_
        refine VA.td (i := 4) rfl (OpV.nilCheck rfl rfl) ?_
        refine VA.td (i := 5) rfl (OpV.fieldAddrO 0 rfl Tryz.underlying90 rfl rfl Tryz.sizeOf9 rfl) ?_
        refine VA.td (i := 6) rfl (OpV.load_own (i := 1) rfl hB Tryz.isAgg9 rfl rfl (rowL_at rfl (by omega) (by decide)) (Wi.notSS (.inl (by decide +kernel)) nrp)) ?_
        refine VA.td (i := 9) rfl (OpV.move (.inl rfl) rfl) ?_
        refine VA.td (i := 10) rfl (OpV.move (.inl rfl) rfl) ?_
        refine VA.td (i := 11) rfl (OpV.nilCheck rfl rfl) ?_
        refine VA.td (i := 12) rfl (OpV.fieldAddrO 1 rfl Tryz.underlying90 rfl rfl Tryz.sizeOf3 rfl) ?_
        refine VA.td (i := 13) rfl (OpV.load_own (i := 1) rfl hB Tryz.isAgg3 rfl rfl (rowL_at rfl (by omega) (by decide)) (Wi.notSS (.inl (by decide +kernel)) nrp)) ?_
        refine VA.all (rs := [7, 14]) (by decide +kernel) (by decide) ?_
        refine ⟨⟨_, rfl, .inl rfl, ?_⟩, ⟨_, rfl, .inl rfl, ?_⟩, trivial⟩
        ·
          refine bS rfl hB rfl (by decide) rfl rfl ?_
          refine VA.le _ (Le.lS (t := 45) (xs := [(xN l m).key, ⟨#[]⟩, ⟨#[97]⟩]) rfl rfl) ?_
          refine VA.all (rs := [8, 14]) (by decide +kernel) (by decide) ?_
          refine ⟨⟨_, rfl, .inl rfl, ?_⟩, ⟨_, rfl, .inl rfl, ?_⟩, trivial⟩
          ·
            refine OpE.callHX (rest := [_]) txi_stab hGX rfl hB rfl Tryz.call79 rfl rfl (some_X (xs := [(xN l m).key, ⟨#[]⟩, ⟨#[97]⟩]) (by omega) (by simp) hp0) (List.Perm.refl _) (fun b h => .inr ⟨by decide, blkStr h⟩) ?_
            rintro _ _ ⟨rfl, rfl⟩
            refine VA.le _ (Le.recast (t := 46) (y := avS r46) rfl (fun w Z u h => by rw [← e46]; exact h)) ?_
            refine VA.all (rs := [14]) (by decide +kernel) (by decide) ?_
            refine ⟨⟨_, rfl, .inl rfl, ?_⟩, trivial⟩
            refine bI rfl hB rfl (by decide) rfl rfl ?_
            refine VA.le _ (Le.lI (t := 52) (xs := [(xN l m).count, -1, 1000000000, 1000000001]) rfl rfl) ?_
            refine VA.all (rs := [15]) (by decide +kernel) (by decide) ?_
            refine ⟨⟨_, rfl, .inl rfl, ?_⟩, trivial⟩
            refine OpE.callHX (rest := [_]) txi_stab hGX rfl hB rfl Tryz.call77 rfl rfl (pick_E (xs := [(xN l m).count, -1, 1000000000, 1000000001]) (by omega) (by simp) hp0) (List.Perm.refl _) (fun b h => .inr ⟨by decide, blkStr h⟩) ?_
            rintro _ _ ⟨rfl, rfl⟩
            refine VA.le _ (Le.recast (t := 53) (y := avI r53) rfl (fun w Z u h => by rw [← e53]; exact h)) ?_
            refine VA.td (i := 16) rfl (OpV.nilCheck rfl rfl) ?_
            refine VA.td (i := 17) rfl (OpV.fieldAddrO 0 rfl Tryz.underlying90 rfl rfl Tryz.sizeOf9 rfl) ?_
            refine VA.all (rs := [18]) (by decide +kernel) (by decide) ?_
            refine ⟨⟨_, rfl, .inl rfl, ?_⟩, trivial⟩
            refine OpE.store1 (i := 1) rfl hB rfl Tryz.sizeOf9 rfl rfl rfl rfl rfl rfl (rowL_in rfl (by omega) (by decide)) (rowL_set (x := ({l.getD m default with key := r46} : NeedS)) rfl (by omega) (by decide) rfl (fun i hi hn => ns_upd (by simp) (by simp) i hi hn)) (by first | exact .inl ⟨by decide, rfl⟩) ?_
            refine VA.td (i := 19) rfl (OpV.nilCheck rfl rfl) ?_
            refine VA.td (i := 20) rfl (OpV.fieldAddrO 1 rfl Tryz.underlying90 rfl rfl Tryz.sizeOf3 rfl) ?_
            refine VA.all (rs := [21]) (by decide +kernel) (by decide) ?_
            refine ⟨⟨_, rfl, .inl rfl, ?_⟩, trivial⟩
            refine OpE.store1 (i := 1) rfl hB rfl Tryz.sizeOf3 rfl rfl rfl rfl rfl rfl (rowL_in rfl (by first | omega | (simp only [List.length_set]; omega)) (by decide)) (rowL_set (x := ({l.getD m default with key := r46, count := r53} : NeedS)) rfl (by first | omega | (simp only [List.length_set]; omega)) (by decide) rfl (fun i hi hn => by rw [getSetP (by first | omega | (simp only [List.length_set]; omega))]; exact ns_upd (by simp) (by simp) i hi hn)) (by first | exact .inl ⟨by decide, rfl⟩) ?_
            refine VA.done (by decide +kernel) ?_
            refine VC.sr ?_
            refine VO.mw ?_
            refine VO.mb ?_
            refine VO.nil ?_
            refine VC.le _ (Le.boxT (t := 2) (i := 1) (n := l.length) (xs := ((l.set m ({l.getD m default with key := r46} : NeedS)).set m ({l.getD m default with key := r46, count := r53} : NeedS))) hB hnew rfl rfl (by simp) hcap hmx) ?_
            refine VC.ret ?_
            exact Exists.intro _ (And.intro (RetV.one Tryz.results39 (ResV.tmp rfl)) (by first | exact st_out (hV.trans (stTail_0 (by omega))) | exact st_out (hV.trans (stTail_1 (by omega) (by omega))) | exact st_out (hV.trans (stTail_2 (by omega) (by omega) hi e46 e53))))
          ·
            refine bI rfl hB rfl (by decide) rfl rfl ?_
            refine VA.le _ (Le.lI (t := 52) (xs := [(xN l m).count, -1, 1000000000, 1000000001]) rfl rfl) ?_
            refine VA.all (rs := [8]) (by decide +kernel) (by decide) ?_
            refine ⟨⟨_, rfl, .inl rfl, ?_⟩, trivial⟩
            refine OpE.callHX (rest := [_]) txi_stab hGX rfl hB rfl Tryz.call79 rfl rfl (some_X (xs := [(xN l m).key, ⟨#[]⟩, ⟨#[97]⟩]) (by omega) (by simp) hp0) (List.Perm.refl _) (fun b h => .inr ⟨by decide, blkStr h⟩) ?_
            rintro _ _ ⟨rfl, rfl⟩
            refine VA.le _ (Le.recast (t := 46) (y := avS r46) rfl (fun w Z u h => by rw [← e46]; exact h)) ?_
            refine VA.all (rs := [15]) (by decide +kernel) (by decide) ?_
            refine ⟨⟨_, rfl, .inl rfl, ?_⟩, trivial⟩
            refine OpE.callHX (rest := [_]) txi_stab hGX rfl hB rfl Tryz.call77 rfl rfl (pick_E (xs := [(xN l m).count, -1, 1000000000, 1000000001]) (by omega) (by simp) hp0) (List.Perm.refl _) (fun b h => .inr ⟨by decide, blkStr h⟩) ?_
            rintro _ _ ⟨rfl, rfl⟩
            refine VA.le _ (Le.recast (t := 53) (y := avI r53) rfl (fun w Z u h => by rw [← e53]; exact h)) ?_
            refine VA.td (i := 16) rfl (OpV.nilCheck rfl rfl) ?_
            refine VA.td (i := 17) rfl (OpV.fieldAddrO 0 rfl Tryz.underlying90 rfl rfl Tryz.sizeOf9 rfl) ?_
            refine VA.all (rs := [18]) (by decide +kernel) (by decide) ?_
            refine ⟨⟨_, rfl, .inl rfl, ?_⟩, trivial⟩
            refine OpE.store1 (i := 1) rfl hB rfl Tryz.sizeOf9 rfl rfl rfl rfl rfl rfl (rowL_in rfl (by omega) (by decide)) (rowL_set (x := ({l.getD m default with key := r46} : NeedS)) rfl (by omega) (by decide) rfl (fun i hi hn => ns_upd (by simp) (by simp) i hi hn)) (by first | exact .inl ⟨by decide, rfl⟩) ?_
            refine VA.td (i := 19) rfl (OpV.nilCheck rfl rfl) ?_
            refine VA.td (i := 20) rfl (OpV.fieldAddrO 1 rfl Tryz.underlying90 rfl rfl Tryz.sizeOf3 rfl) ?_
            refine VA.all (rs := [21]) (by decide +kernel) (by decide) ?_
            refine ⟨⟨_, rfl, .inl rfl, ?_⟩, trivial⟩
            refine OpE.store1 (i := 1) rfl hB rfl Tryz.sizeOf3 rfl rfl rfl rfl rfl rfl (rowL_in rfl (by first | omega | (simp only [List.length_set]; omega)) (by decide)) (rowL_set (x := ({l.getD m default with key := r46, count := r53} : NeedS)) rfl (by first | omega | (simp only [List.length_set]; omega)) (by decide) rfl (fun i hi hn => by rw [getSetP (by first | omega | (simp only [List.length_set]; omega))]; exact ns_upd (by simp) (by simp) i hi hn)) (by first | exact .inl ⟨by decide, rfl⟩) ?_
            refine VA.done (by decide +kernel) ?_
            refine VC.sr ?_
            refine VO.mw ?_
            refine VO.mb ?_
            refine VO.nil ?_
            refine VC.le _ (Le.boxT (t := 2) (i := 1) (n := l.length) (xs := ((l.set m ({l.getD m default with key := r46} : NeedS)).set m ({l.getD m default with key := r46, count := r53} : NeedS))) hB hnew rfl rfl (by simp) hcap hmx) ?_
            refine VC.ret ?_
            exact Exists.intro _ (And.intro (RetV.one Tryz.results39 (ResV.tmp rfl)) (by first | exact st_out (hV.trans (stTail_0 (by omega))) | exact st_out (hV.trans (stTail_1 (by omega) (by omega))) | exact st_out (hV.trans (stTail_2 (by omega) (by omega) hi e46 e53))))
        ·
          refine bI rfl hB rfl (by decide) rfl rfl ?_
          refine VA.le _ (Le.lI (t := 52) (xs := [(xN l m).count, -1, 1000000000, 1000000001]) rfl rfl) ?_
          refine VA.all (rs := [7]) (by decide +kernel) (by decide) ?_
          refine ⟨⟨_, rfl, .inl rfl, ?_⟩, trivial⟩
          refine bS rfl hB rfl (by decide) rfl rfl ?_
          refine VA.le _ (Le.lS (t := 45) (xs := [(xN l m).key, ⟨#[]⟩, ⟨#[97]⟩]) rfl rfl) ?_
          refine VA.all (rs := [8]) (by decide +kernel) (by decide) ?_
          refine ⟨⟨_, rfl, .inl rfl, ?_⟩, trivial⟩
          refine OpE.callHX (rest := [_]) txi_stab hGX rfl hB rfl Tryz.call79 rfl rfl (some_X (xs := [(xN l m).key, ⟨#[]⟩, ⟨#[97]⟩]) (by omega) (by simp) hp0) (List.Perm.refl _) (fun b h => .inr ⟨by decide, blkStr h⟩) ?_
          rintro _ _ ⟨rfl, rfl⟩
          refine VA.le _ (Le.recast (t := 46) (y := avS r46) rfl (fun w Z u h => by rw [← e46]; exact h)) ?_
          refine VA.all (rs := [15]) (by decide +kernel) (by decide) ?_
          refine ⟨⟨_, rfl, .inl rfl, ?_⟩, trivial⟩
          refine OpE.callHX (rest := [_]) txi_stab hGX rfl hB rfl Tryz.call77 rfl rfl (pick_E (xs := [(xN l m).count, -1, 1000000000, 1000000001]) (by omega) (by simp) hp0) (List.Perm.refl _) (fun b h => .inr ⟨by decide, blkStr h⟩) ?_
          rintro _ _ ⟨rfl, rfl⟩
          refine VA.le _ (Le.recast (t := 53) (y := avI r53) rfl (fun w Z u h => by rw [← e53]; exact h)) ?_
          refine VA.td (i := 16) rfl (OpV.nilCheck rfl rfl) ?_
          refine VA.td (i := 17) rfl (OpV.fieldAddrO 0 rfl Tryz.underlying90 rfl rfl Tryz.sizeOf9 rfl) ?_
          refine VA.all (rs := [18]) (by decide +kernel) (by decide) ?_
          refine ⟨⟨_, rfl, .inl rfl, ?_⟩, trivial⟩
          refine OpE.store1 (i := 1) rfl hB rfl Tryz.sizeOf9 rfl rfl rfl rfl rfl rfl (rowL_in rfl (by omega) (by decide)) (rowL_set (x := ({l.getD m default with key := r46} : NeedS)) rfl (by omega) (by decide) rfl (fun i hi hn => ns_upd (by simp) (by simp) i hi hn)) (by first | exact .inl ⟨by decide, rfl⟩) ?_
          refine VA.td (i := 19) rfl (OpV.nilCheck rfl rfl) ?_
          refine VA.td (i := 20) rfl (OpV.fieldAddrO 1 rfl Tryz.underlying90 rfl rfl Tryz.sizeOf3 rfl) ?_
          refine VA.all (rs := [21]) (by decide +kernel) (by decide) ?_
          refine ⟨⟨_, rfl, .inl rfl, ?_⟩, trivial⟩
          refine OpE.store1 (i := 1) rfl hB rfl Tryz.sizeOf3 rfl rfl rfl rfl rfl rfl (rowL_in rfl (by first | omega | (simp only [List.length_set]; omega)) (by decide)) (rowL_set (x := ({l.getD m default with key := r46, count := r53} : NeedS)) rfl (by first | omega | (simp only [List.length_set]; omega)) (by decide) rfl (fun i hi hn => by rw [getSetP (by first | omega | (simp only [List.length_set]; omega))]; exact ns_upd (by simp) (by simp) i hi hn)) (by first | exact .inl ⟨by decide, rfl⟩) ?_
          refine VA.done (by decide +kernel) ?_
          refine VC.sr ?_
          refine VO.mw ?_
          refine VO.mb ?_
          refine VO.nil ?_
          refine VC.le _ (Le.boxT (t := 2) (i := 1) (n := l.length) (xs := ((l.set m ({l.getD m default with key := r46} : NeedS)).set m ({l.getD m default with key := r46, count := r53} : NeedS))) hB hnew rfl rfl (by simp) hcap hmx) ?_
          refine VC.ret ?_
          exact Exists.intro _ (And.intro (RetV.one Tryz.results39 (ResV.tmp rfl)) (by first | exact st_out (hV.trans (stTail_0 (by omega))) | exact st_out (hV.trans (stTail_1 (by omega) (by omega))) | exact st_out (hV.trans (stTail_2 (by omega) (by omega) hi e46 e53))))
      · have aH3 := aH3b
        try simp only [qq] at aH3
        refine VC.skip ?_
        refine VC.sr ?_
        refine VO.mw ?_
        refine VO.mb ?_
        refine VO.nil ?_
        refine VC.le _ (Le.rowT (t := 2) (i := 1) (n := l.length) (xs := l) hB hnew rfl rfl rfl) ?_
        refine VC.ret ?_
        exact Exists.intro _ (And.intro (RetV.one Tryz.results39 (ResV.tmp rfl)) (by first | exact st_out (hV.trans (stTail_0 (by omega))) | exact st_out (hV.trans (stTail_1 (by omega) (by omega))) | exact st_out (hV.trans (stTail_2 (by omega) (by omega) hi e46 e53))))
    · replace aK2b : _ = false := aK2b
      have aK2 := aK2b
      try simp only [qq] at aK2
      refine VO.opX rfl rfl rfl rfl aK2b ?_
      refine VO.vv (OpV.pickF rfl rfl rfl rfl aK2b) ?_
      refine VO.nil ?_
      refine VC.condF rfl rfl ?_
      refine VC.skip ?_
      refine VC.sr ?_
      refine VO.mw ?_
      refine VO.mb ?_
      refine VO.nil ?_
      refine VC.le _ (Le.rowT (t := 2) (i := 1) (n := l.length) (xs := l) hB hnew rfl rfl rfl) ?_
      refine VC.ret ?_
      exact Exists.intro _ (And.intro (RetV.one Tryz.results39 (ResV.tmp rfl)) (by first | exact st_out (hV.trans (stTail_0 (by omega))) | exact st_out (hV.trans (stTail_1 (by omega) (by omega))) | exact st_out (hV.trans (stTail_2 (by omega) (by omega) hi e46 e53))))
end
end Go.Proofs.YtcploodfholkkaaGreatDoor
namespace Go.Proofs
open Go.Shelf
def Tryz.sorted140_ren : Go.Shelf.Ren := ⟨fun | 6 => 140 | 8 => 213 | 9 => 214 | 11 => 289 | 13 => 176 | 12 => 290 | 23 => 248 | 24 => 249 | 14 => 338 | 15 => 339 | 16 => 340 | 17 => 341 | 18 => 342 | 19 => 343 | 20 => 251 | 21 => 344 | 22 => 345 | 25 => 375 | 26 => 317 | 27 => 318 | 28 => 376 | 29 => 377 | 30 => 321 | 31 => 391 | n => n, fun | 26 => 9 | 28 => 247 | 24 => 82 | 0 => 0 | 3 => 3 | 37 => 282 | 48 => 340 | 50 => 342 | 4 => 4 | 40 => 334 | 39 => 333 | 45 => 212 | 5 => 5 | 9 => 9 | 51 => 388 | 55 => 392 | 57 => 427 | 58 => 148 | 33 => 265 | n => n, fun | n => n⟩
theorem Tryz.sorted140 : Go.Proofs.SlLaysZ.n6 Tryz.prog Tryz.sorted140_ren := {
 mixed := by kernel_rfl
 f6 := ⟨Tryz.f140.name, by decide, Tryz.func140.trans (congrArg some (by kernel_rfl))⟩
 f8 := ⟨Tryz.f213.name, by decide, Tryz.func213.trans (congrArg some (by kernel_rfl))⟩
 f11 := ⟨Tryz.f289.name, by decide, Tryz.func289.trans (congrArg some (by kernel_rfl))⟩
 t0 := Tryz.underlying0
 a0 := Tryz.isAgg0
 z0 := Tryz.sizeOf0
 v0 := Tryz.zeroValue0
 t24 := Tryz.underlying82
 a24 := Tryz.isAgg82
 z24 := Tryz.sizeOf82
 v24 := Tryz.zeroValue82
 t26 := Tryz.underlying9
 a26 := Tryz.isAgg9
 z26 := Tryz.sizeOf9
 v26 := Tryz.zeroValue9
 t28 := Tryz.underlying247
 a28 := Tryz.isAgg247
 z28 := Tryz.sizeOf247
 v28 := Tryz.zeroValue247
 i26 := by kernel_rfl }
def Tryz.sort214_ren : Go.Shelf.Ren := ⟨fun | 6 => 214 | 8 => 176 | 9 => 290 | 19 => 248 | 20 => 249 | 21 => 338 | 22 => 339 | 23 => 340 | 24 => 341 | 25 => 342 | 26 => 343 | 27 => 251 | 28 => 344 | 29 => 345 | 36 => 375 | 31 => 317 | 32 => 318 | 37 => 376 | 38 => 377 | 39 => 321 | 41 => 391 | n => n, fun | 27 => 82 | 29 => 9 | 3 => 3 | 32 => 282 | 26 => 82 | 0 => 0 | 44 => 340 | 46 => 342 | 4 => 4 | 36 => 334 | 35 => 333 | 41 => 212 | 5 => 5 | 9 => 9 | 53 => 388 | 57 => 392 | 63 => 427 | 64 => 148 | n => n, fun | n => n⟩
theorem Tryz.sort214 : Go.Proofs.SlLaysM.n6 Tryz.prog Tryz.sort214_ren := {
 mixed := by kernel_rfl
 f6 := ⟨Tryz.f214.name, by decide, Tryz.func214.trans (congrArg some (by kernel_rfl))⟩
 f8 := Tryz.func176.trans (congrArg some (by kernel_rfl))
 f9 := ⟨Tryz.f290.name, by decide, Tryz.func290.trans (congrArg some (by kernel_rfl))⟩
 f19 := Tryz.func248.trans (congrArg some (by kernel_rfl))
 f20 := Tryz.func249.trans (congrArg some (by kernel_rfl))
 f21 := ⟨Tryz.f338.name, by decide, Tryz.func338.trans (congrArg some (by kernel_rfl))⟩
 f22 := ⟨Tryz.f339.name, by decide, Tryz.func339.trans (congrArg some (by kernel_rfl))⟩
 f23 := ⟨Tryz.f340.name, by decide, Tryz.func340.trans (congrArg some (by kernel_rfl))⟩
 f24 := ⟨Tryz.f341.name, by decide, Tryz.func341.trans (congrArg some (by kernel_rfl))⟩
 f25 := ⟨Tryz.f342.name, by decide, Tryz.func342.trans (congrArg some (by kernel_rfl))⟩
 f26 := ⟨Tryz.f343.name, by decide, Tryz.func343.trans (congrArg some (by kernel_rfl))⟩
 f27 := ⟨Tryz.f251.name, by decide, Tryz.func251.trans (congrArg some (by kernel_rfl))⟩
 f28 := ⟨Tryz.f344.name, by decide, Tryz.func344.trans (congrArg some (by kernel_rfl))⟩
 f29 := ⟨Tryz.f345.name, by decide, Tryz.func345.trans (congrArg some (by kernel_rfl))⟩
 f31 := Tryz.func317.trans (congrArg some (by kernel_rfl))
 f32 := Tryz.func318.trans (congrArg some (by kernel_rfl))
 f36 := ⟨Tryz.f375.name, by decide, Tryz.func375.trans (congrArg some (by kernel_rfl))⟩
 f37 := ⟨Tryz.f376.name, by decide, Tryz.func376.trans (congrArg some (by kernel_rfl))⟩
 f38 := ⟨Tryz.f377.name, by decide, Tryz.func377.trans (congrArg some (by kernel_rfl))⟩
 f39 := ⟨Tryz.f321.name, by decide, Tryz.func321.trans (congrArg some (by kernel_rfl))⟩
 f41 := ⟨Tryz.f391.name, by decide, Tryz.func391.trans (congrArg some (by kernel_rfl))⟩
 t0 := Tryz.underlying0
 a0 := Tryz.isAgg0
 z0 := Tryz.sizeOf0
 v0 := Tryz.zeroValue0
 t3 := Tryz.underlying3
 a3 := Tryz.isAgg3
 z3 := Tryz.sizeOf3
 v3 := Tryz.zeroValue3
 t4 := Tryz.underlying4
 a4 := Tryz.isAgg4
 z4 := Tryz.sizeOf4
 v4 := Tryz.zeroValue4
 t5 := Tryz.underlying5
 a5 := Tryz.isAgg5
 z5 := Tryz.sizeOf5
 v5 := Tryz.zeroValue5
 t9 := Tryz.underlying9
 a9 := Tryz.isAgg9
 z9 := Tryz.sizeOf9
 v9 := Tryz.zeroValue9
 t26 := Tryz.underlying82
 a26 := Tryz.isAgg82
 z26 := Tryz.sizeOf82
 v26 := Tryz.zeroValue82
 t27 := Tryz.underlying82
 a27 := Tryz.isAgg82
 z27 := Tryz.sizeOf82
 v27 := Tryz.zeroValue82
 t29 := Tryz.underlying9
 a29 := Tryz.isAgg9
 z29 := Tryz.sizeOf9
 v29 := Tryz.zeroValue9
 t32 := Tryz.underlying282
 a32 := Tryz.isAgg282
 z32 := Tryz.sizeOf282
 v32 := Tryz.zeroValue282
 t35 := Tryz.underlying333
 a35 := Tryz.isAgg333
 z35 := Tryz.sizeOf333
 v35 := Tryz.zeroValue333
 t36 := Tryz.underlying334
 a36 := Tryz.isAgg334
 z36 := Tryz.sizeOf334
 v36 := Tryz.zeroValue334
 t41 := Tryz.underlying212
 a41 := Tryz.isAgg212
 z41 := Tryz.sizeOf212
 v41 := Tryz.zeroValue212
 t44 := Tryz.underlying340
 a44 := Tryz.isAgg340
 z44 := Tryz.sizeOf340
 v44 := Tryz.zeroValue340
 t46 := Tryz.underlying342
 a46 := Tryz.isAgg342
 z46 := Tryz.sizeOf342
 v46 := Tryz.zeroValue342
 t53 := Tryz.underlying388
 a53 := Tryz.isAgg388
 z53 := Tryz.sizeOf388
 v53 := Tryz.zeroValue388
 t57 := Tryz.underlying392
 a57 := Tryz.isAgg392
 z57 := Tryz.sizeOf392
 v57 := Tryz.zeroValue392
 t63 := Tryz.underlying427
 a63 := Tryz.isAgg427
 z63 := Tryz.sizeOf427
 v63 := Tryz.zeroValue427
 t64 := Tryz.underlying148
 a64 := Tryz.isAgg148
 z64 := Tryz.sizeOf148
 v64 := Tryz.zeroValue148 }
def Tryz.keys165_ren : Go.Shelf.Ren := ⟨fun | 7 => 165 | 10 => 232 | n => n, fun | 23 => 208 | 26 => 9 | 3 => 3 | 28 => 247 | 0 => 0 | 27 => 246 | 33 => 265 | 4 => 4 | n => n, fun | n => n⟩
theorem Tryz.keys165 : Go.Proofs.SlLaysZ.n7 Tryz.prog Tryz.keys165_ren := {
 mixed := by kernel_rfl
 f7 := ⟨Tryz.f165.name, by decide, Tryz.func165.trans (congrArg some (by kernel_rfl))⟩
 f10 := ⟨Tryz.f232.name, by decide, Tryz.func232.trans (congrArg some (by kernel_rfl))⟩
 t0 := Tryz.underlying0
 a0 := Tryz.isAgg0
 z0 := Tryz.sizeOf0
 v0 := Tryz.zeroValue0
 t4 := Tryz.underlying4
 a4 := Tryz.isAgg4
 z4 := Tryz.sizeOf4
 v4 := Tryz.zeroValue4
 t23 := Tryz.underlying208
 a23 := Tryz.isAgg208
 z23 := Tryz.sizeOf208
 v23 := Tryz.zeroValue208
 t26 := Tryz.underlying9
 a26 := Tryz.isAgg9
 z26 := Tryz.sizeOf9
 v26 := Tryz.zeroValue9
 t27 := Tryz.underlying246
 a27 := Tryz.isAgg246
 z27 := Tryz.sizeOf246
 v27 := Tryz.zeroValue246
 t28 := Tryz.underlying247
 a28 := Tryz.isAgg247
 z28 := Tryz.sizeOf247
 v28 := Tryz.zeroValue247
 t33 := Tryz.underlying265
 a33 := Tryz.isAgg265
 z33 := Tryz.sizeOf265
 v33 := Tryz.zeroValue265 }
end Go.Proofs
namespace Go.Proofs.YtcploodfholkkaaGreatDoor
open Go.RowKit
set_option maxRecDepth 100000
section
open Go.RowKit Go.Maps Go.Sort Go.Shelf
def bytesOf (l : List UInt8) : ByteArray := ⟨l.toArray⟩
def sKeys {α : Type} (l : List (ByteArray × α)) : List ByteArray := ((l.map fun p => p.1.data.toList).mergeSort (fun x y => decide (x ≤ y))).map bytesOf
theorem sKeys_len {α : Type} (l : List (ByteArray × α)) : (sKeys l).length = l.length := by simp [sKeys]
theorem mput_keys {α : Type} (l : List (ByteArray × α)) (k : ByteArray) (x : α) : (mput l k x).map (·.1) = if mpos l k < l.length then l.map (·.1) else l.map (·.1) ++ [k] := by
 split
 ·rename_i h
  rw [mput_old l k x h, List.map_set]
  have := mpos_key l k h
  refine List.ext_getElem (by simp) fun i h1 h2 => ?_
  simp only [List.length_set, List.length_map] at h1
  rw [List.getElem_set]
  split
  ·rename_i e; subst e; simp [this]
  ·simp
 ·rename_i h
  rw [mput_new l k x (by have := mpos_le l k; omega)]; simp
theorem mpos_mem {α : Type} {l : List (ByteArray × α)} {k : ByteArray} : mpos l k < l.length ↔ k ∈ l.map (·.1) := by
 constructor
 ·intro h; exact List.mem_map.2 ⟨_, List.getElem_mem h, mpos_key l k h⟩
 ·intro h
  obtain ⟨p, hp, e⟩ := List.mem_map.1 h
  obtain ⟨j, hj, ej⟩ := List.getElem_of_mem hp
  by_cases h1 : mpos l k < l.length
  ·exact h1
  ·have hle := mpos_le l k
   obtain ⟨_, h2⟩ := mpos_ne l k j (by omega)
   exact absurd (by rw [ej]; exact e) h2
theorem mput_nodup {α : Type} {l : List (ByteArray × α)} (h : (l.map (·.1)).Nodup) (k : ByteArray) (x : α) : ((mput l k x).map (·.1)).Nodup := by
 rw [mput_keys]
 split
 ·exact h
 ·rename_i h1
  rw [mpos_mem] at h1
  exact List.nodup_append.2 ⟨h, by simp, fun a ha b hb => by simp at hb; subst hb; exact fun e => h1 (e ▸ ha)⟩
theorem mput_mem {α : Type} {l : List (ByteArray × α)} {k : ByteArray} {x : α} {q : ByteArray} : q ∈ (mput l k x).map (·.1) ↔ q ∈ l.map (·.1) ∨ q = k := by
 rw [mput_keys]
 split
 ·rename_i h1
  rw [mpos_mem] at h1
  exact ⟨.inl, fun h => h.elim id fun e => e ▸ h1⟩
 ·simp
section
variable {P : Program} {w : World} {kt : TypeId}
theorem own_of_mapE {α : Type} {E : α → AV} {g : Nat} {l : List (ByteArray × α)} {Z : Nat → Prop} (hk : P.underlying kt = some .string) (h : EntR w Z (mapE (fun k : ByteArray => Value.string k) g E l)) (hnd : (l.map (·.1)).Nodup) (hs : ∀ p ∈ l, p.1.size ≤ maxLen) (hl : l.length ≤ maxLen) :
  ∃ D : DataW Unit, w.ownsMap P kt (fun _ => some (.nil, [])) g l.length D ∧ Maps.size D = l.length ∧ (strKeys D).Perm (l.map fun p => p.1.data.toList) := by
 obtain ⟨c, h1, h2, h3⟩ := h.toMap
 have hmem : ∀ x ∈ c.toList, ∃ j, ∃ hj : j < l.length, x = c[j]! := fun x hx => by
  obtain ⟨j, hj, rfl⟩ := List.getElem_of_mem hx
  simp at hj
  exact ⟨j, by omega, by rw [getElem!_pos c j hj]; simp⟩
 have hrd : ∀ x ∈ c.toList, ∀ j (hj : j < l.length), x = c[j]! → WideElems.rd (H := Unit) P kt (fun _ => some (.nil, [])) x = some (.string (l[j]).1.data.toList, .nil) := fun x hx j hj e => by
  have hk1 := (h3 j hj).1
  obtain ⟨key, val, born⟩ := x
  have : key = .string (l[j]).1 := by rw [← hk1, ← e]
  subst this
  exact WideElems.rd_mk (R := fun _ => some (.nil, [])) (yv := (.nil, [])) (Go.WideMaps.keyOf_string_mk hk (hs _ (List.getElem_mem hj))) rfl
 have hF : WideElems.Fit (H := Unit) P kt (fun _ => some (.nil, [])) c l.length := ⟨by omega, (MapKept.stamped_iff _ _).2 ⟨fun x hx => by
   obtain ⟨j, hj, rfl⟩ := hmem x hx
   rw [(h3 j hj).2.1]; exact hj, by
   have : c.toList.map (·.born) = List.range' 0 l.length := by
    refine List.ext_getElem (by simp [h2]) fun i k1 k2 => ?_
    simp at k1
    have := (h3 i (by omega)).2.1
    rw [getElem!_pos c i k1] at this
    simp [this]
   rw [this]; exact List.nodup_range', by
   rw [List.pairwise_iff_getElem]
   intro i j hi hj hij e
   simp at hi hj
   have k1 := (h3 i (by omega)).1
   have k2 := (h3 j (by omega)).1
   rw [getElem!_pos c i hi] at k1
   rw [getElem!_pos c j hj] at k2
   simp only [Array.getElem_toList] at e
   rw [k1, k2] at e
   have e' : (l[i]'(by omega)).1 = (l[j]'(by omega)).1 := by injection e
   have := (List.pairwise_iff_getElem.1 hnd) i j (by simp; omega) (by simp; omega) hij
   simp at this
   exact this e'⟩, fun x hx => by
   obtain ⟨j, hj, e⟩ := hmem x hx
   exact ⟨_, hrd x hx j hj e⟩⟩
 refine ⟨_, ⟨c, l.length, h1, hF, by omega, rfl⟩, ?_, ?_⟩
 ·simp [Maps.size, (WideShapes.sorted_perm _).length_eq, h2]
 ·have hp := (WideShapes.sorted_perm (c.toList.map (WideElems.rg (H := Unit) P kt fun _ => some (.nil, []))))
  refine (hp.map (fun p => Go.strOf p.1)).trans (.of_eq ?_)
  refine List.ext_getElem (by simp [h2]) fun i k1 k2 => ?_
  simp at k1 k2
  have := hrd (c[i]!) (by rw [getElem!_pos c i (by omega)]; simp) i (by omega) rfl
  rw [getElem!_pos c i (by omega)] at this
  simp [WideElems.rg_of this]
  rfl
end
section
theorem sortsK (m : Nat) : AnyZ.SortsIn Tryz.prog Tryz.sorted140_ren Fence.wide m :=
  ⟨fun blk off cap ss W hH hblk hsz => callsIn_wide.2 (AnyM.slices_Sort_string Tryz.sort214 blk off cap ss W hH hblk hsz),
   fun p cap W => callsIn_wide.2 (AnyM.slices_Sort_string_none Tryz.sort214 p cap W)⟩
theorem maps_Keys_int (mb : Option Nat) : SpecH Tryz.prog 165 [.v (.map mb)] [] (fun y hp' => ∃ g, y = .v (.func (.func 232) #[] #[.pointer (some ⟨g, 0, none⟩)]) ∧ hp' = [.box g ⟨[.v (.map mb)], 208, 1⟩]) := fun w A us ha _ _ _ => by
 have hu : us = #[.map mb] := by
  have h0 := ha.2 0 (by simp)
  have h1 : us.size = 1 := ha.1
  have h2 := h0.eq_v
  apply Array.ext (by simp [h1])
  intro i hi1 hi2
  obtain rfl : i = 0 := by omega
  rw [Array.getD_eq_getD_getElem?, Array.getElem?_eq_getElem (by omega)] at h2
  simpa using h2
 subst hu
 refine ((callsIn_wide (n := 5)).1 (AnyZ.keys_in Tryz.keys165 Fence.wide 5 trivial rfl mb w)).mono ?_
 rintro e w' ⟨rfl, rfl⟩
 refine ⟨_, _, _, ⟨w.heap.size, rfl, rfl⟩, rfl, List.pairwise_singleton _ _, .v _, fun e he => ?_, fun b ⟨e, he, hb⟩ hl => ?_, ((Chg.refl NoB w).alloc _).any⟩
 ·simp at he; subst he
  exact ⟨_, heap_alloc_new w _, rfl, Nat.le_refl _, fun j hj => by simp at hj; subst hj; exact ⟨_, rfl, .v _⟩⟩
 ·simp at he; subst he
  simp [Ent.blk] at hb; omega
set_option maxHeartbeats 1000000 in
theorem slices_Sorted_int {α : Type} {E : α → AV} {g mg : Nat} {l : List (ByteArray × α)} (hnd : (l.map (·.1)).Nodup) (hs : ∀ p ∈ l, p.1.size ≤ maxLen) (hl : l.length ≤ 1000000) :
    SpecH Tryz.prog 140 [.v (.func (.func 232) #[] #[.pointer (some ⟨g, 0, none⟩)])] [.box g ⟨[.v (.map (some mg))], 208, 1⟩, mapE (fun k : ByteArray => Value.string k) mg E l]
      (fun y hp' => ∃ u, y = .v u ∧ hp' = [.row u l.length 1 (strsL (sKeys l)) 9, .box g ⟨[.v (.map (some mg))], 208, 1⟩, mapE (fun k : ByteArray => Value.string k) mg E l]) := fun w A us ha hap hA hE => by
  have hu : us = #[.func (.func 232) #[] #[.pointer (some ⟨g, 0, none⟩)]] := by
    have h0 := ha.2 0 (by simp)
    have h1 : us.size = 1 := ha.1
    have h2 := h0.eq_v
    apply Array.ext (by simp [h1])
    intro i hi1 hi2
    obtain rfl : i = 0 := by omega
    rw [Array.getD_eq_getD_getElem?, Array.getElem?_eq_getElem (by omega)] at h2
    simpa using h2
  subst hu
  have hB := hE _ (List.mem_cons_self ..)
  have hM := hE _ (List.mem_cons_of_mem _ (List.mem_cons_self ..))
  obtain ⟨c, b1, b2, b3, b4⟩ := hB
  have hc : c = #[.map (some mg)] := by
    obtain ⟨u, q1, q2⟩ := b4 0 (by simp)
    have := q2.eq_v
    simp at b2 this
    apply Array.ext (by simp [b2])
    intro i hi1 hi2
    obtain rfl : i = 0 := by omega
    rw [Array.getElem?_eq_getElem (by omega)] at q1
    cases q1
    simpa using this
  subst hc
  have hlen : l.length ≤ maxLen := by simp only [maxLen]; omega
  obtain ⟨D, d1, d2, d3⟩ := own_of_mapE (kt := 9) Tryz.underlying9 hM hnd hs hlen
  have hgl : g < w.heap.size := (Array.getElem?_eq_some_iff.1 b1).1
  have hcell : w.cell? ⟨g, 0, none⟩ = some (.map (some mg)) := by simp [World.cell?, b1]
  have hseq : SeqGives Fence.wide 2 Tryz.prog 232 #[.pointer (some ⟨g, 0, none⟩)] encStr (fun ss => ss.Perm (strKeys D)) (Maps.size D) w :=
    AnyZ.keys_gives (ρ := Tryz.keys165_ren) { Tryz.keys165 with } Fence.wide _ trivial rfl (by omega) g mg l.length D _ hgl hcell d1
  have hsz : Maps.size D ≤ maxLen := by rw [d2]; exact hlen
  have hby : Maps.size D * 16 ≤ 140737488355328 := by rw [d2]; omega
  refine ((callsIn_wide (n := 5)).1 (AnyZ.sorted_in Tryz.sorted140 Fence.wide 5 trivial trivial trivial trivial rfl (by omega) (sortsK _) (enters_of Tryz.func214 (by kernel_rfl) rfl) 232 #[.pointer (some ⟨g, 0, none⟩)] trivial (enters_of Tryz.func232 (by kernel_rfl) rfl) _ _ hsz hby _ hseq)).mono ?_
  rintro e w' ⟨v, ss, rfl, hS, hrow, hnil, hb⟩
  have hS' : ss.Perm (l.map fun p => p.1.data.toList) := hS.trans d3
  have hssl : ss.length = l.length := by simpa using hS'.length_eq
  have hkeys : (ss.mergeSort (fun x y => decide (x ≤ y))).map encStr = (sKeys l).map fun k => Value.string k := by
    have := mergeSort_of_perm hS'
    unfold leB at this
    rw [this, sKeys, List.map_map]
    rfl
  rw [hkeys] at hrow
  have hchg : Chg NoB w w' := (Chg.ofBelow hb).mono fun k h1 h2 => absurd h1 (Nat.not_lt.2 h2)
  obtain ⟨r1, r2⟩ := hrow
  have hZ : ∀ b, b < w.heap.size ∧ A b → Zh w A [.box g ⟨[.v (.map (some mg))], 208, 1⟩, mapE (fun k : ByteArray => Value.string k) mg E l] [.row v l.length 1 (strsL (sKeys l)) 9, .box g ⟨[.v (.map (some mg))], 208, 1⟩, mapE (fun k : ByteArray => Value.string k) mg E l] w' b := fun b ⟨hb1, hb2⟩ => by
    refine ⟨Nat.lt_of_lt_of_le hb1 hchg.size, fun ⟨e, he, heb⟩ => ?_, fun _ => .inl hb2⟩
    rcases List.mem_cons.1 he with rfl | he
    · rcases r2 with ⟨rfl, _⟩ | ⟨g2, cap, cur, rfl, hge, _⟩
      · simp [Ent.blk, Value.ownBlock] at heb
      · simp [Ent.blk, Value.ownBlock] at heb; omega
    · exact hA b ⟨e, he, heb⟩ hb2
  have hold : ∀ e ∈ [Ent.box g ⟨[.v (.map (some mg))], 208, 1⟩, mapE (fun k : ByteArray => Value.string k) mg E l], ∀ b, e.blk = some b → b < w.heap.size := fun e he b heb => by
    rcases List.mem_cons.1 he with rfl | he
    · simp [Ent.blk] at heb; omega
    · simp at he; subst he
      simp [Ent.blk] at heb
      obtain ⟨c2, k1, _⟩ := hM
      have := (Array.getElem?_eq_some_iff.1 k1).1
      omega
  refine ⟨_, _, _, ⟨v, rfl, rfl⟩, rfl, ?_, .v _, fun e he => ?_, fun b ⟨e, he, heb⟩ hl => ?_, hchg.any⟩
  · refine List.pairwise_cons.2 ⟨fun q hq b h1 h2 => ?_, hap⟩
    rcases r2 with ⟨rfl, _⟩ | ⟨g2, cap, cur, rfl, hge, _⟩
    · simp [Ent.blk, Value.ownBlock] at h1
    · simp [Ent.blk, Value.ownBlock] at h1
      have := hold q hq b h2
      omega
  · rcases List.mem_cons.1 he with rfl | he
    · refine ⟨by simp [strsL, sKeys_len], ?_⟩
      rcases r2 with ⟨rfl, hz⟩ | ⟨g2, cap, cur, rfl, hge, k1, k2, k3, k4, k5⟩
      · exact .inl ⟨rfl, by omega⟩
      · refine .inr ⟨g2, cap, cur, by rw [hssl], by omega, k3, k1, k4, fun j hj => ?_⟩
        have hj' : j < (sKeys l).length := by simpa [strsL] using hj
        have hcur : cur[j]? = some (.string ((sKeys l)[j])) := by
          have := congrArg (fun z => z[j]?) k5
          simp only [List.getElem?_map, List.getElem?_eq_getElem hj', Option.map_some] at this
          rw [List.getElem?_take] at this
          split at this
          · simpa using this
          · cases this
        exact ⟨_, hcur, by simp only [strsL, List.getElem_map]; exact .v _⟩
    · exact (hE e he).keep (fun b hb _ => ⟨hchg.block b hb.1 (fun h => h), hZ b hb⟩) fun b hb => hchg.block b (hold e he b hb) (fun h => h)
  · rcases List.mem_cons.1 he with rfl | he
    · rcases r2 with ⟨rfl, _⟩ | ⟨g2, cap, cur, rfl, hge, _⟩
      · simp [Ent.blk, Value.ownBlock] at heb
      · simp [Ent.blk, Value.ownBlock] at heb; omega
    · exact ⟨e, he, heb⟩
end
end
section
structure PlaceS where
 name : ByteArray
 part : ByteArray
 x : Int
 y : Int
 quarter : Int
instance : Inhabited PlaceS := ⟨⟨ByteArray.empty, ByteArray.empty, 0, 0, 0⟩⟩
instance : Sxc PlaceS where
 k := 5
 pos := by decide
 cell m j := match j with
  | 0 => avS m.name
  | 1 => avS m.part
  | 2 => avI m.x
  | 3 => avI m.y
  | 4 => avI m.quarter
  | _ => .any
structure ProdS where
 key : ByteArray
 wide : Int
 high : Int
 places : List PlaceS
instance : Inhabited ProdS := ⟨⟨ByteArray.empty, 0, 0, []⟩⟩
abbrev avProd (p : ProdS) : AV := .agg [avS p.key, avI p.wide, avI p.high, avL p.places]
abbrev boxProd (g : Nat) (p : ProdS) (ty : TypeId) : Ent := .box g ⟨[avS p.key, avI p.wide, avI p.high, avL p.places], ty, 4⟩
structure SmP (p : ProdS) : Prop where
 key : p.key.size ≤ 1000000
 len : p.places.length ≤ 1000000
 name : ∀ i, (p.places.getD i default).name.size ≤ 1000000
 part : ∀ i, (p.places.getD i default).part.size ≤ 1000000
def placeE (p : ProdS) (i : Nat) : Int :=
 if (keyF (p.places.getD i default).name && keyF (p.places.getD i default).part) = false then 5
 else if (decide (0 < i) && sLe (p.places.getD i default).name (p.places.getD (i - 1) default).name) = true then 7
 else if (outR (p.places.getD i default).x 0 p.wide || (outR (p.places.getD i default).y 0 p.high || outR (p.places.getD i default).quarter 0 3)) = true then 1
 else 0
def prodF (p : ProdS) : Int :=
 if keyF p.key = false then 5
 else if (outR p.wide 1 500000 || outR p.high 1 500000) = true then 1
 else if 1000 < p.places.length then 2
 else firstE (placeE p) p.places.length
section
variable {p : ProdS} {i : Nat}
theorem placeE_5a (h : keyF (p.places.getD i default).name = false) : placeE p i = 5 := by rw [placeE, if_pos (by rw [h]; rfl)]
theorem placeE_5b (h : keyF (p.places.getD i default).part = false) : placeE p i = 5 := by rw [placeE, if_pos (by rw [h, Bool.and_false])]
theorem placeE_7 (h1 : keyF (p.places.getD i default).name = true) (h2 : keyF (p.places.getD i default).part = true) (hi : 0 < i) (hs : sLe (p.places.getD i default).name (p.places.getD (i - 1) default).name = true) : placeE p i = 7 := by
 rw [placeE, if_neg (by rw [h1, h2]; simp), if_pos (by rw [hs, decide_eq_true hi]; rfl)]
theorem placeE_x (h1 : keyF (p.places.getD i default).name = true) (h2 : keyF (p.places.getD i default).part = true) (hs : i = 0 ∨ sLe (p.places.getD i default).name (p.places.getD (i - 1) default).name = false) :
  placeE p i = if (outR (p.places.getD i default).x 0 p.wide || (outR (p.places.getD i default).y 0 p.high || outR (p.places.getD i default).quarter 0 3)) = true then 1 else 0 := by
 rw [placeE, if_neg (by rw [h1, h2]; simp), if_neg]
 rcases hs with rfl | hs
 ·simp
 ·rw [hs]; simp
theorem placeE_1 (h1 : keyF (p.places.getD i default).name = true) (h2 : keyF (p.places.getD i default).part = true) (hs : i = 0 ∨ sLe (p.places.getD i default).name (p.places.getD (i - 1) default).name = false)
  (ho : (outR (p.places.getD i default).x 0 p.wide || (outR (p.places.getD i default).y 0 p.high || outR (p.places.getD i default).quarter 0 3)) = true) : placeE p i = 1 := by rw [placeE_x h1 h2 hs, if_pos ho]
theorem placeE_0 (h1 : keyF (p.places.getD i default).name = true) (h2 : keyF (p.places.getD i default).part = true) (hs : i = 0 ∨ sLe (p.places.getD i default).name (p.places.getD (i - 1) default).name = false)
  (ho : (outR (p.places.getD i default).x 0 p.wide || (outR (p.places.getD i default).y 0 p.high || outR (p.places.getD i default).quarter 0 3)) = false) : placeE p i = 0 := by rw [placeE_x h1 h2 hs, if_neg (by rw [ho]; simp)]
theorem prodF_5 (h : keyF p.key = false) : prodF p = 5 := by rw [prodF, if_pos h]
theorem prodF_1 (h : keyF p.key = true) (h1 : (outR p.wide 1 500000 || outR p.high 1 500000) = true) : prodF p = 1 := by rw [prodF, if_neg (by rw [h]; simp), if_pos h1]
theorem prodF_2 (h : keyF p.key = true) (h1 : (outR p.wide 1 500000 || outR p.high 1 500000) = false) (h2 : 1000 < p.places.length) : prodF p = 2 := by rw [prodF, if_neg (by rw [h]; simp), if_neg (by rw [h1]; simp), if_pos h2]
theorem prodF_x (h : keyF p.key = true) (h1 : (outR p.wide 1 500000 || outR p.high 1 500000) = false) (h2 : p.places.length ≤ 1000) : prodF p = firstE (placeE p) p.places.length := by rw [prodF, if_neg (by rw [h]; simp), if_neg (by rw [h1]; simp), if_neg (by omega)]
theorem prodF_at (h : keyF p.key = true) (h1 : (outR p.wide 1 500000 || outR p.high 1 500000) = false) (h2 : p.places.length ≤ 1000) {q : Nat} (hq : q < p.places.length) (hn : ∀ j, j < q → placeE p j = 0) {e : Int} (he : placeE p q = e) (h0 : e ≠ 0) : prodF p = e := by
 rw [prodF_x h h1 h2, firstE_found hn (by rw [he]; exact h0) hq, he]
theorem prodF_ok (h : keyF p.key = true) (h1 : (outR p.wide 1 500000 || outR p.high 1 500000) = false) (h2 : p.places.length ≤ 1000) (hn : ∀ j, j < p.places.length → placeE p j = 0) : prodF p = 0 := by
 rw [prodF_x h h1 h2, firstE_none hn]
end
structure ProdOk (p : ProdS) : Prop where
 key : keyF p.key = true
 wide : 1 ≤ p.wide ∧ p.wide ≤ 500000
 high : 1 ≤ p.high ∧ p.high ≤ 500000
 len : p.places.length ≤ 1000
 all : ∀ j, j < p.places.length → placeE p j = 0
theorem prodOk {p : ProdS} (h : prodF p = 0) : ProdOk p := by
 unfold prodF at h
 split at h
 ·cases h
 ·rename_i h1
  split at h
  ·cases h
  ·rename_i h2
   split at h
   ·cases h
   ·rename_i h3
    have h2' : (outR p.wide 1 500000 || outR p.high 1 500000) = false := by simpa using h2
    simp only [outR, Bool.or_eq_false_iff, decide_eq_false_iff_not] at h2'
    exact ⟨by simpa using h1, by omega, by omega, by omega, firstE_zero h⟩
def cntP (l : List PlaceS) : List (ByteArray × Int) := l.foldl (fun m x => mput m x.part (mgetD m x.part 0 + 1)) []
theorem cntP_snoc (l : List PlaceS) (x : PlaceS) : cntP (l ++ [x]) = mput (cntP l) x.part (mgetD (cntP l) x.part 0 + 1) := by simp [cntP]
theorem take_snocD {α : Type} {l : List α} {q : Nat} (h : q < l.length) (d : α) : l.take (q + 1) = l.take q ++ [l.getD q d] := by
 rw [List.take_add_one, List.getD_eq_getElem?_getD, List.getElem?_eq_getElem h]; rfl
theorem cntP_take {l : List PlaceS} {q : Nat} (h : q < l.length) : cntP (l.take (q + 1)) = mput (cntP (l.take q)) (l.getD q default).part (mgetD (cntP (l.take q)) (l.getD q default).part 0 + 1) := by
 rw [take_snocD h default, cntP_snoc]
theorem mget_mput {α : Type} : ∀ (l : List (ByteArray × α)) (k k' : ByteArray) (x : α), mget (mput l k x) k' = if k' = k then some x else mget l k'
 | [], k, k', x => by simp [mput, mget]
 | p :: r, k, k', x => by
  by_cases e : k = p.1
  ·subst e
   simp only [mput, if_true, mget]
   by_cases e2 : k' = p.1
   ·simp [e2]
   ·simp [e2]
  ·simp only [mput, if_neg e, mget]
   by_cases e2 : k' = p.1
   ·rw [if_pos e2, if_neg (fun h => e (h.symm.trans e2))]; simp [e2]
   ·rw [if_neg e2, mget_mput r k k' x]; simp [e2]
theorem mgetD_mput {α : Type} (l : List (ByteArray × α)) (k k' : ByteArray) (x z : α) : mgetD (mput l k x) k' z = if k' = k then x else mgetD l k' z := by
 unfold mgetD; rw [mget_mput]; split <;> rfl
theorem cntP_count : ∀ (l : List PlaceS) (m : List (ByteArray × Int)) (k : ByteArray), mgetD (l.foldl (fun m x => mput m x.part (mgetD m x.part 0 + 1)) m) k 0 = mgetD m k 0 + (l.filter fun x => decide (x.part = k)).length
 | [], m, k => by simp
 | x :: l, m, k => by
  rw [List.foldl_cons, cntP_count l, mgetD_mput]
  by_cases e : k = x.part
  ·subst e; simp; omega
  ·rw [if_neg e, List.filter_cons_of_neg (by simp; exact fun h => e h.symm)]
theorem cntP_get (l : List PlaceS) (k : ByteArray) : mgetD (cntP l) k 0 = (l.filter fun x => decide (x.part = k)).length := by
 rw [cntP, cntP_count]; simp [mgetD, mget]
theorem cntP_bd (l : List PlaceS) (k : ByteArray) : 0 ≤ mgetD (cntP l) k 0 ∧ mgetD (cntP l) k 0 ≤ l.length := by
 rw [cntP_get]
 have := List.length_filter_le (fun x : PlaceS => decide (x.part = k)) l
 omega
theorem cntP_nodup' : ∀ (l : List PlaceS) (m : List (ByteArray × Int)), (m.map (·.1)).Nodup → ((l.foldl (fun m x => mput m x.part (mgetD m x.part 0 + 1)) m).map (·.1)).Nodup
 | [], m, h => h
 | x :: l, m, h => cntP_nodup' l _ (mput_nodup h _ _)
theorem cntP_nodup (l : List PlaceS) : ((cntP l).map (·.1)).Nodup := cntP_nodup' l [] List.nodup_nil
theorem cntP_mem' : ∀ (l : List PlaceS) (m : List (ByteArray × Int)) (k : ByteArray), k ∈ (l.foldl (fun m x => mput m x.part (mgetD m x.part 0 + 1)) m).map (·.1) ↔ k ∈ m.map (·.1) ∨ ∃ x ∈ l, x.part = k
 | [], m, k => by simp
 | x :: l, m, k => by
  rw [List.foldl_cons, cntP_mem' l, mput_mem, or_assoc]
  simp only [List.mem_cons, exists_eq_or_imp]
  exact ⟨fun h => h.elim .inl fun h => h.elim (fun h => .inr (.inl h.symm)) fun h => .inr (.inr h), fun h => h.elim .inl fun h => h.elim (fun h => .inr (.inl h.symm)) fun h => .inr (.inr h)⟩
theorem cntP_mem {l : List PlaceS} {k : ByteArray} : k ∈ (cntP l).map (·.1) ↔ ∃ x ∈ l, x.part = k := by rw [cntP, cntP_mem']; simp
theorem cntP_len (l : List PlaceS) : (cntP l).length ≤ l.length := by
 unfold cntP
 have : ∀ (l : List PlaceS) (m : List (ByteArray × Int)), (l.foldl (fun m x => mput m x.part (mgetD m x.part 0 + 1)) m).length ≤ m.length + l.length := by
  intro l
  induction l with
  | nil => intro m; simp
  | cons x l ih =>
   intro m
   have := ih (mput m x.part (mgetD m x.part 0 + 1))
   have h2 := mput_len m x.part (mgetD m x.part 0 + 1)
   simp only [List.foldl_cons, List.length_cons]
   split at h2 <;> omega
 simpa using this l []
def needsL (p : ProdS) : List NeedS := (sKeys (cntP p.places)).map fun k => ⟨k, mgetD (cntP p.places) k 0⟩
def needsR (p : ProdS) : List NeedS := if prodF p = 0 then needsL p else []
theorem needsL_len (p : ProdS) : (needsL p).length = (cntP p.places).length := by simp [needsL, sKeys_len]
end
section
section
variable {P : Program}
theorem run_next_it (w : World) (ty : TypeId) (m g clk : Nat) (sb : Array Nat) (c : Array MapEntry) (hg : w.heap[g]? = some (.mapIter (some m) clk sb clk)) (hm : w.heap[m]? = some (.map c clk)) (hold : ∀ x ∈ c.toList, x.born < clk) :
    ((leftOf c sb).size = 0 ∧ (Instr.next (.pointer (some ⟨g, 0, none⟩)) false ty).run P w = .ok (.tuple #[.bool false]) w) ∨
    ∃ e ∈ (leftOf c sb).toList, ∃ w1 : World, (w1 = w ∨ w1 = w.drew) ∧ (Instr.next (.pointer (some ⟨g, 0, none⟩)) false ty).run P w = .ok (.tuple #[.bool true, e.key, e.val]) { w1 with heap := w1.heap.setIfInBounds g (.mapIter (some m) clk (sb.push e.born) clk) } := by
  simp only [Instr.next, getObj, Sem.run_bind, Sem.run, hg, hm, Result.andThen, next_test_false sb c clk clk hold (Nat.le_refl _), Bool.false_eq_true, if_false]
  unfold leftOf
  have hmem : ∀ x ∈ (Array.filter (fun e => !sb.contains e.born) c).toList, x.born < clk := fun x hx => hold x (by simp at hx ⊢; exact hx.1)
  generalize Array.filter (fun e => !sb.contains e.born) c = L at hmem ⊢
  have e1 : L.filter (fun x => decide (x.born < clk)) = L := Array.filter_eq_self.2 (fun x hx => by simpa using hmem x (by simpa using hx))
  have e2 : L.filter (fun x => decide (x.born ≥ clk)) = #[] := by
    rw [Array.filter_eq_empty_iff]
    intro x hx
    have := hmem x (by simpa using hx)
    simp
    omega
  simp only [e1, e2, Array.append_empty]
  by_cases h0 : L.size = 0
  · left
    have : L = #[] := Array.eq_empty_of_size_eq_zero h0
    subst this
    refine ⟨rfl, ?_⟩
    simp [choose, Sem.run, Question.forced]
  · right
    have hne : L.isEmpty = false := by simp [Array.isEmpty, h0]
    simp only [hne, Bool.false_eq_true, if_false, Array.empty_append, Array.size_map]
    have hch : ∃ (j : Nat) (w1 : World), j < L.size ∧ (w1 = w ∨ w1 = w.drew) ∧ (choose (Question.mapNext L.size)).run P w = .ok j w1 := by
      by_cases hf : L.size ≤ 1
      · exact ⟨0, w, by omega, .inl rfl, by simp [choose, Sem.run, Question.forced, hf]⟩
      · exact ⟨_, w.drew, Nat.mod_lt _ (by omega), .inr rfl, by
          simp only [choose, Sem.run, Question.forced, decide_eq_true_eq, hf, if_false, Question.cut]
          rfl⟩
    obtain ⟨j, w1, hj, hal, hrun⟩ := hch
    refine ⟨L[j], by simp, w1, hal, ?_⟩
    have hg1 : w1.heap[g]? = some (.mapIter (some m) clk sb clk) := by rcases hal with rfl | rfl <;> exact hg
    simp only [hrun, Array.getElem?_map, Array.getElem?_eq_getElem hj, Option.map_some, Sem.run_bind, setObj, Sem.run, hg1, Result.andThen]
    rfl
theorem run_entry_it (w : World) (m g clk : Nat) (sb : Array Nat) (c : Array MapEntry) (e : MapEntry) (hg : w.heap[g]? = some (.mapIter (some m) clk sb clk)) (hm : w.heap[m]? = some (.map c clk)) (he : e ∈ c.toList) (hn : (c.toList.map (·.born)).Nodup) (hb : sb.back? = some e.born) :
  (Instr.entry (.pointer (some ⟨g, 0, none⟩))).run P w = .ok (.tuple #[e.key, e.val]) w := by
 have hf : c.find? (·.born == e.born) = some e := by rw [← Array.find?_toList]; exact find_born e c.toList hn he
 simp only [Instr.entry, getObj, Sem.run_bind, Sem.run, hg, hm, Result.andThen, hb, bne_self_eq_false, Bool.false_eq_true, if_false, hf]
 rfl
end
section
variable {κ α : Type} [Inhabited κ] [Inhabited α] {P : Program} {B : Bs} {W : Nat → Prop} {s : St'} {o : Oper} {K : St' → Prop} {kv : κ → Value} {E : α → AV}
abbrev avMap (kv : κ → Value) (E : α → AV) (l : List (κ × α)) : AV := .mpv l.length (fun j => kv (l.getD j default).1) (fun j => E (l.getD j default).2)
theorem getD_lt' {β : Type} [Inhabited β] (l : List β) {j : Nat} (h : j < l.length) : l.getD j default = l[j] := by rw [List.getD_eq_getElem?_getD, List.getElem?_eq_getElem h]; rfl
theorem born_nodup {c : Array MapEntry} {n : Nat} (hn : c.size = n) (h : ∀ j, j < n → (c[j]!).born = j) : (c.toList.map (·.born)).Nodup := by
 have : c.toList.map (·.born) = List.range n := by
  apply List.ext_getElem (by simp [hn])
  intro i h1 h2
  simp at h1 h2
  have := h i h2
  rw [getElem!_pos c i h1] at this
  simpa using this
 rw [this]; exact List.nodup_range
theorem Le.freezeM {t i g : Nat} {l : List (κ × α)} (hB : B.Ok) (hnew : True) (ht : look s.sl t = some (.v (.map (some g)))) (hi : s.hp[i]? = some (mapE kv g E l)) : Le B s ⟨(t, avMap kv E l) :: s.sl, s.hp.eraseIdx i, s.k⟩ := fun a w hr => by
 have hm := List.mem_of_getElem? hi
 have hr' := hr.erase i
 refine hr'.over t ?_
 have hu : a.tmps.getD t undef = _ := (hr.slots t _ ht).eq_v
 rw [hu]
 obtain ⟨c, h1, h2, h3⟩ := EntR.toMap (hr.blocks _ hm)
 refine .mpv _ _ _ g c l.length (hr.erased hB hi rfl) h1 h2 (fun j hj => ?_) (born_nodup h2 fun j hj => (h3 j hj).2.1) fun j hj => ?_
 ·obtain ⟨k1, k2, _⟩ := h3 j hj
  rw [k1, k2, getD_lt' l hj]; exact ⟨rfl, hj⟩
 ·obtain ⟨_, _, k3⟩ := h3 j hj
  rw [getD_lt' l hj]
  exact k3.keep fun b hb _ => ⟨rfl, hb.1, fun p hp => hb.2.1 p ((List.eraseIdx_sublist s.hp i).subset hp), hb.2.2⟩
end
section
variable {P : Program} {B : Bs} {W : Nat → Prop} {s : St'} {o : Oper} {K : St' → Prop} {n : Nat} {ks : Nat → Value} {f : Nat → AV}
theorem OpE.rangeM {t kt e : TypeId} {x : Operand} (ho : o.op = .range t x) (hB : B.Ok) (hd : okd B.nt o.dst = true) (hu : P.underlying t = some (.map kt e)) (hx : evO s x = some (.mpv n ks f))
  (hK : ∀ g, K ((St'.mk s.sl (s.hp ++ [.it g n ks f []]) s.k).put o.dst (.v (.pointer (some ⟨g, 0, none⟩))))) : OpE P B W s o K := by
 intro a w hr next Qx hn
 have hv := hr.ev hx
 generalize hxe : a.eval x = v at hv
 cases hv with
 | mpv n ks f b es clk hZ hb hes hk hdd hrr =>
  have hlt : b < w.heap.size := hZ.1
  have h1 := hr.new hB (.mapIter (some b) clk #[] clk) (.it w.heap.size n ks f []) rfl ⟨b, es, clk, clk, #[], by
    refine ⟨by simp; omega, fun p hp => ?_, hZ.2.2⟩
    rcases List.mem_append.1 hp with hp | hp
    ·exact hZ.2.1 p hp
    ·simp at hp; subst hp; intro h; simp [Ent.blk] at h; omega, by rw [@Go.heap_alloc_old w _ _ hlt]; exact hb, hes, hdd, fun j hj => ⟨(hk j hj).1, (hk j hj).2, (hrr j hj).keep fun b' hb' hl' => ⟨Below.heap_alloc _ _ _ hl', by simp; omega, fun p hp => by
     rcases List.mem_append.1 hp with hp | hp
     ·exact hb'.2.1 p hp
     ·simp at hp; subst hp; intro h; simp [Ent.blk] at h; omega, hb'.2.2⟩⟩, Go.heap_alloc_new w _, ⟨rfl, fun j h => by simp at h⟩, fun j hj => by simp⟩
  have hrun : (execOp a.eval o).run P w = .ok (.value (.pointer (some ⟨w.heap.size, 0, none⟩))) (w.alloc (.mapIter (some b) clk #[] clk)) := by
   simp [execOp, ho, hxe, run_range_map w t kt e b es clk hu hb]
  unfold Oper.wp
  rw [hrun]
  exact hn _ _ _ (hK _) (h1.put _ hd _ _ (.v _)) (.ofN ((Chg.refl _ _).alloc _))
theorem OpE.nextM {x : Operand} {g i : Nat} {seen : List Nat} (ho : o.op = .next x false) (hB : B.Ok) (hd : okd B.nt o.dst = true) (hx : evO s x = some (.v (.pointer (some ⟨g, 0, none⟩)))) (hi : s.hp[i]? = some (.it g n ks f seen)) (hW : W g)
  (h0 : (∀ j, j < n → j ∈ seen) → K (s.put o.dst (.tup [avB false])))
  (h1 : ∀ j, j < n → j ∉ seen → K ((St'.mk s.sl (s.hp.set i (.it g n ks f (j :: seen))) s.k).put o.dst (.tup [avB true, .v (ks j), f j]))) : OpE P B W s o K := by
 intro a w hr next Qx hn
 have hm := List.mem_of_getElem? hi
 obtain ⟨m, c, clk, last, sb, hZ, hmm, hc, hdd, hk, hg, ⟨rfl, hl2⟩, hs⟩ := hr.blocks _ hm
 have hxe : a.eval x = _ := (hr.ev hx).eq_v
 have hold : ∀ x ∈ c.toList, x.born < last := fun x hx => by
  obtain ⟨j, hj, rfl⟩ := List.getElem_of_mem hx
  have := (hk j (by simpa [hc] using hj)).2.1
  rw [getElem!_pos c j (by simpa using hj)] at this
  simpa using this
 unfold Oper.wp
 rcases run_next_it (P := P) w o.type m g last sb c hg hmm hold with ⟨hz, hrun⟩ | ⟨e, he, w1, hw1, hrun⟩
 ·have hex : (execOp a.eval o).run P w = .ok (.value (.tuple #[.bool false])) w := by simp [execOp, ho, hxe, hrun]
  rw [hex]
  refine hn _ _ _ (h0 fun j hj => ?_) (hr.put _ hd _ _ (.tup _ _ rfl fun q hq => ?_)) (.ofN (Chg.refl _ _))
  ·by_cases hb : sb.contains (c[j]!).born = true
   ·exact (hs j hj).1 hb
   ·exfalso
    have hjc : j < c.size := by omega
    have : c[j]! ∈ leftOf c sb := by
     unfold leftOf
     rw [Array.mem_filter]
     refine ⟨by rw [getElem!_pos c j hjc]; exact Array.getElem_mem hjc, by rw [Bool.not_eq_true] at hb; rw [hb]; rfl⟩
    have := Array.size_pos_of_mem this
    omega
  ·simp at hq; subst hq; exact .v _
 ·obtain ⟨he1, he2⟩ := mem_left he
  obtain ⟨j, hj, rfl⟩ := List.getElem_of_mem he1
  have hjc : j < c.size := by simpa using hj
  have hjn : j < n := by omega
  have hej : c.toList[j] = c[j]! := by rw [getElem!_pos c j hjc]; simp
  rw [hej] at hrun he2 he
  have hnot : j ∉ seen := fun h => by have := (hs j hjn).2 h; rw [this] at he2; cases he2
  have hgl : g < w.heap.size := hr.lt _ hm g rfl
  generalize hw2 : ({ w1 with heap := w1.heap.setIfInBounds g (.mapIter (some m) last (sb.push (c[j]!).born) last) } : World) = w2 at hrun
  have hch : Chg (fun b => b = g) w w2 := by
   subst hw2
   rcases hw1 with rfl | rfl
   ·exact ⟨rfl, rfl, rfl, by simp, fun b hb hne => by simp [Array.getElem?_setIfInBounds]; intro e; exact absurd e.symm hne⟩
   ·exact ⟨rfl, rfl, rfl, by show w.heap.size ≤ (w.heap.setIfInBounds g _).size; simp, fun b hb hne => by show (w.heap.setIfInBounds g _)[b]? = w.heap[b]?; rw [Array.getElem?_setIfInBounds_ne (Ne.symm hne)]⟩
  have hg2 : w2.heap[g]? = some (.mapIter (some m) last (sb.push (c[j]!).born) last) := by
   subst hw2
   rcases hw1 with rfl | rfl
   ·simp [hgl]
   ·show (w.heap.setIfInBounds g _)[g]? = _
    simp [hgl]
  have hz : ∀ b, Zn B s.hp w b → w2.heap[b]? = w.heap[b]? ∧ Zn B (s.hp.set i (.it g n ks f (j :: seen))) w2 b := fun b hb => by
   have hbg : b ≠ g := fun e => by subst e; exact hb.2.1 _ hm rfl
   refine ⟨hch.block b hb.1 hbg, Nat.lt_of_lt_of_le hb.1 hch.size, fun p hp hpb => ?_, hb.2.2⟩
   rcases List.mem_or_eq_of_mem_set hp with h | h
   ·exact hb.2.1 p h hpb
   ·subst h; exact hb.2.1 _ hm hpb
  have hex : (execOp a.eval o).run P w = .ok (.value (.tuple #[.bool true, (c[j]!).key, (c[j]!).val])) w2 := by simp [execOp, ho, hxe, hrun]
  rw [hex]
  have h2 := hr.set hB (e' := .it g n ks f (j :: seen)) hi (hch.mono fun b _ hb => by subst hb; rfl) (.inl rfl) ⟨m, c, last, last, sb.push (c[j]!).born, (hz m hZ).2, (hz m hZ).1.trans hmm, hc, hdd, fun q hq => ⟨(hk q hq).1, (hk q hq).2.1, (hk q hq).2.2.keep fun b hb _ => hz b hb⟩, hg2, ⟨rfl, fun q hq => by
    simp at hq; subst hq; exact ⟨hjn, by simp⟩⟩, fun q hq => by
    rw [contains_push, Bool.or_eq_true, hs q hq, List.mem_cons, beq_iff_eq, or_comm]
    refine or_congr ⟨fun e => ?_, fun e => by rw [e]⟩ Iff.rfl
    have hqc : q < c.size := by omega
    have n1 := List.pairwise_iff_getElem.1 hdd
    have eb : ∀ r (hr : r < c.size), (c.toList.map (·.born))[r]'(by simpa using hr) = (c[r]!).born := fun r hr => by rw [getElem!_pos c r hr]; simp
    rcases Nat.lt_trichotomy q j with h | h | h
    ·exact absurd (by rw [eb q hqc, eb j hjc]; exact e) (n1 q j (by simpa using hqc) (by simpa using hjc) h)
    ·exact h
    ·exact absurd (by rw [eb q hqc, eb j hjc]; exact e.symm) (n1 j q (by simpa using hjc) (by simpa using hqc) h)⟩
  refine hn _ _ _ (h1 j hjn hnot) (h2.put _ hd _ _ (.tup _ _ rfl fun q hq => ?_)) (hch.mono fun b _ hb => by subst hb; exact .inr hW)
  match q, hq with
  | 0, _ => exact .v _
  | 1, _ => show Rep _ _ (.v (ks j)) (c[j]!).key; rw [(hk j hjn).1]; exact .v _
  | 2, _ => exact (hk j hjn).2.2.keep fun b hb _ => hz b hb
theorem OpV.entryM {x : Operand} {g i j : Nat} {seen : List Nat} (ho : o.op = .entry x) (hB : B.Ok) (hx : evO s x = some (.v (.pointer (some ⟨g, 0, none⟩)))) (hi : s.hp[i]? = some (.it g n ks f (j :: seen))) : OpV P B NoB s o (.tup [.v (ks j), f j]) := by
 intro a w hr
 have hm := List.mem_of_getElem? hi
 obtain ⟨m, c, clk, last, sb, hZ, hmm, hc, hdd, hk, hg, ⟨rfl, hl2⟩, hs⟩ := hr.blocks _ hm
 have hxe : a.eval x = _ := (hr.ev hx).eq_v
 obtain ⟨hjn, hb⟩ := hl2 j rfl
 have hjc : j < c.size := by omega
 refine ⟨.tuple #[(c[j]!).key, (c[j]!).val], fun w' hcw => ?_, .tup _ _ rfl fun q hq => ?_⟩
 ·have hg' : w'.heap[g]? = _ := (hcw.block g (hr.lt _ hm g rfl) fun h => h.elim (hr.notStr hB hm rfl) (fun h => h)).trans hg
  have hm' : w'.heap[m]? = _ := (hcw.block m hZ.1 fun h => h.elim (fun h => by
   obtain ⟨h1, h2⟩ := hB.str m h
   exact absurd h ((hZ.2.2 (hB.low m h1)).2)) (fun h => h)).trans hmm
  have := run_entry_it (P := P) w' m g last sb c (c[j]!) hg' hm' (by rw [getElem!_pos c j hjc]; simp) hdd hb
  simp [execOp, ho, hxe, this]
 ·match q, hq with
  | 0, _ => show Rep _ _ (.v (ks j)) (c[j]!).key; rw [(hk j hjn).1]; exact .v _
  | 1, _ => exact (hk j hjn).2.2
end
end
section
def ndOf (p : ByteArray × Int) : NeedS := ⟨p.1, p.2⟩
def pickN (l : List (ByteArray × Int)) (seen : List Nat) : List NeedS := seen.reverse.map fun j => ndOf (l.getD j default)
theorem pickN_cons (l : List (ByteArray × Int)) (j : Nat) (seen : List Nat) : pickN l (j :: seen) = pickN l seen ++ [ndOf (l.getD j default)] := by simp [pickN]
theorem pickN_len (l : List (ByteArray × Int)) (seen : List Nat) : (pickN l seen).length = seen.length := by simp [pickN]
theorem seen_len {n : Nat} {seen : List Nat} (hd : seen.Nodup) (hs : ∀ j ∈ seen, j < n) : seen.length ≤ n := by
 have := hd.length_le_of_subset (l₂ := List.range n) (fun j hj => List.mem_range.2 (hs j hj))
 simpa using this
theorem mget_mem : ∀ {l : List (ByteArray × Int)} {p : ByteArray × Int}, (l.map (·.1)).Nodup → p ∈ l → mgetD l p.1 0 = p.2 := fun {l p} hd hp => by
 have h1 : mpos l p.1 < l.length := mpos_mem.2 (List.mem_map.2 ⟨p, hp, rfl⟩)
 have h2 := mpos_key l p.1 h1
 have hx : l[mpos l p.1] = p := by
  obtain ⟨j, hj, rfl⟩ := List.getElem_of_mem hp
  have := (List.getElem_inj (h₀ := by simpa using h1) (h₁ := by simpa using hj) hd).1 (by simpa using h2)
  simp [this]
 unfold mgetD
 rw [mget_pos, List.getElem?_eq_getElem h1, hx]; rfl
abbrev ltN (x z : NeedS) : Bool := decide (cmpB x.key z.key < 0)
theorem ltN_sLt (x z : NeedS) : ltN x z = sLt x.key z.key := cmpB_lt _ _
theorem sLt_tot {a b : ByteArray} (h : sLt a b = false) (hne : a ≠ b) : sLt b a = true := by
 refine sLt_of_not ?_
 unfold sLe
 rw [h]
 have : sEq a b = false := Bool.eq_false_iff.2 fun e => hne (sEq_eq.1 e)
 rw [this]; rfl
theorem ltN_trans {a b d : NeedS} (h1 : ltN a b = true) (h2 : ltN b d = true) : ltN a d = true := by
 rw [ltN_sLt] at *; exact sLt_trans h1 h2
theorem ltN_as {a b : NeedS} (h : ltN a b = true) : ltN b a = false := by
 rw [ltN_sLt] at *
 cases hb : sLt b.key a.key with
 | false => rfl
 | true => have := sLt_trans h hb; rw [sLt_irr] at this; cases this
theorem ltN_neg {a b d : NeedS} (h1 : ltN b a = false) (h2 : ltN d b = false) : ltN d a = false := by
 rw [ltN_sLt] at *
 cases h : sLt d.key a.key with
 | false => rfl
 | true =>
  by_cases e : a.key = b.key
  ·rw [e, h2] at h; cases h
  ·have := sLt_trans h (sLt_tot h1 (fun e' => e e'.symm))
   rw [this] at h2; cases h2
end
section
section
variable {p : List PaceS} {o : List OrdrS} {l : List Int} {start each : Int} (h : SchOk p o l start each)
include h
end
section
variable {p : List PaceS} {o : List OrdrS} {l : List Int} {start each : Int} (h : SchOk p o l start each)
include h
theorem SchOk.up : ∀ q, q + 1 < l.length → endP p o l start each q ≤ fromP p o l start each (q + 1) ∧ endP p o l start each q ≤ endP p o l start each (q + 1) := fun q hq => by
 have h1 := h.at_ (q := q + 1) hq
 have h6 := h.turn (i := (l.getD q 0).toNat) h1.2
 have hb := h.bd (q + 1) hq
 have : fromP p o l start each (q + 1) = max (endP p o l start each q + turnO p each (orA o (l.getD q 0)) (orA o (l.getD (q + 1) 0))) (orA o (l.getD (q + 1) 0)).ready := rfl
 have h7 : 0 ≤ turnO p each (orA o (l.getD q 0)) (orA o (l.getD (q + 1) 0)) := h6.1
 omega
theorem SchOk.mono {a : Nat} : ∀ b, a ≤ b → b < l.length → endP p o l start each a ≤ endP p o l start each b
 | 0, hab, _ => by rw [show a = 0 by omega]; exact Int.le_refl _
 | b + 1, hab, hb => by
  by_cases e : a = b + 1
  ·rw [e]; exact Int.le_refl _
  ·exact Int.le_trans (SchOk.mono b (by omega) (by omega)) (h.up b hb).2
end
section
variable {p : List PaceS} {o : List OrdrS} {l : List Int} {start each : Int} (h : SchOk p o l start each)
include h
end
end
section
abbrev pt (g : Nat) : AV := .v (.pointer (some ⟨g, 0, none⟩))
abbrev ptv (g : Nat) : Value := .pointer (some ⟨g, 0, none⟩)
theorem take_succ_getD {α : Type} {xs : List α} {q : Nat} {d : α} (h : q < xs.length) : xs.take (q + 1) = xs.take q ++ [xs.getD q d] := by
 rw [List.take_succ_eq_append_getElem h]
 simp [h]
theorem getD_set_ne {α : Type} {b : List α} {i k : Nat} {x d : α} (h : i ≠ k) : (b.set i x).getD k d = b.getD k d := by
 simp only [List.getD_eq_getElem?_getD, List.getElem?_set, if_neg h]
end
section
def DoesP (n : Nat) {τ : Type} (K : τ → List Ent → Prop) (step : τ → List Int → τ) (P : Program) (F : FuncId) (caps : Array Value) (T : TypeId) : Prop :=
 ∀ (o : List Int) (c : Nat) (a : τ) (h : List Ent) (u : Value), Ord n o → o.length = c → c = n → K a h →
  SpecH P F ([.v u] ++ caps.toList.map .v) (.row u c 1 (intsL o) T :: h) (fun y hp' => ∃ h', K (step a o) h' ∧ hp' = .row u c 1 (intsL o) T :: h')
abbrev ownO (n : Nat) (F Fo : FuncId) (caps : Array Value) (To Ti Td Tu Tb Tm : TypeId) (g0 g1 g2 g3 gu g4 c : Nat) (o : List Int) (u : Value) (h : List Ent) : List Ent :=
 [.box g4 ⟨[.v (.func (.func Fo) #[] #[.pointer (some ⟨g0, 0, none⟩), .pointer (some ⟨g1, 0, none⟩), .pointer (some ⟨g2, 0, none⟩), .pointer (some ⟨g3, 0, none⟩), .pointer (some ⟨g4, 0, none⟩)])], Tm, 1⟩,
  .box g3 ⟨[.v (.slice (some ⟨gu, 0, none⟩) n n)], Tu, 1⟩, .box gu ⟨usedL n o, Tb, n⟩, .row u c 1 (intsL o) Ti, .box g0 ⟨[.v u], To, 1⟩, .box g2 ⟨[.v (.func (.func F) #[] caps)], Td, 1⟩, .box g1 ⟨[avI (n : Int)], Ti, 1⟩] ++ h
theorem perm_do {r : Ent} {A R h : List Ent} : (A ++ r :: (R ++ h)).Perm ((r :: h) ++ (A ++ R)) := by
 refine List.perm_middle.trans (List.Perm.cons r ?_)
 rw [← List.append_assoc]
 exact List.perm_append_comm
theorem perm_od {r : Ent} {A R h : List Ent} : ((r :: h) ++ (A ++ R)).Perm (A ++ r :: (R ++ h)) := perm_do.symm
section
variable {P : Program} {B : Bs} {W : Nat → Prop} {s : St'} {o : Oper}
theorem OpV.makeFunc5 {fn : Fn} {c1 c2 c3 c4 c5 : Operand} {u1 u2 u3 u4 u5 : Value} (ho : o.op = .makeFunc fn #[] #[c1, c2, c3, c4, c5]) (h1 : evO s c1 = some (.v u1)) (h2 : evO s c2 = some (.v u2)) (h3 : evO s c3 = some (.v u3)) (h4 : evO s c4 = some (.v u4)) (h5 : evO s c5 = some (.v u5)) : OpV P B W s o (.v (.func fn #[] #[u1, u2, u3, u4, u5])) :=
 OpV.makeFunc ho fun a w hr => by simp [hr.evv h1, hr.evv h2, hr.evv h3, hr.evv h4, hr.evv h5]
end
end
section
theorem plan_result1 {i : Int} {x : WinS} (h : True) :
  SpecH Tryz.prog 191 [avI i, .agg [avI x.fr, avI x.to]] [] (fun y hp' => hp' = []) := by
 refine SpecH.of_VC Tryz.func191 rfl Tryz.ntmps191 (Nle rfl) fun w A hB => ?_
 refine VC.region ?_
 refine VO.op rfl (OpE.box rfl hB rfl rfl rfl ?_)
 intro g3
 refine VO.le _ (Le.drop 1) ?_
 refine VO.nil ?_
 exact Exists.intro _ (And.intro (RetV.none Tryz.results191) (rfl))
theorem res_does (n : Nat) : DoesW n (fun (a : Unit) h => h = []) (fun a i w => ()) Tryz.prog 191 #[] := by
 rintro i w a h h0 h1 rfl
 exact (plan_result1 (i := i) (x := w) trivial)
theorem plan_result {p : List PaceS} {o : List OrdrS} {l : List Int} {start each : Int} (hk : SchOk p o l start each) :
  SpecN Tryz.prog 108 [.at_ 3 (schC p o each), avInts l, avI start] (fun y => y = .agg [avI (resP p o l start each l.length).late, avI (resP p o l start each l.length).many, avI (resP p o l start each l.length).en]) := by
 refine SpecN.of_VCN Tryz.func108 rfl Tryz.ntmps108 (Nle rfl) fun w A hB => ?_
 refine VC.sr ?_
 refine VO.op rfl (OpE.alloc rfl hB rfl Tryz.zeroValue199 rfl ?_)
 intro g6
 refine VO.nil ?_
 refine VC.sr ?_
 refine VO.mw ?_
 refine VO.mw ?_
 refine VO.mw ?_
 refine VO.op rfl (OpE.callH (rest := [.box g6 ⟨_, _, _⟩]) rfl hB rfl Tryz.call110 rfl rfl (plan_run (h := []) hk Tryz.call191 (res_does _) (a := ()) rfl) (List.Perm.refl _) (fun _ _ => trivial) ?_)
 rintro _ _ ⟨_, e1, e2, rfl, rfl, rfl⟩
 refine VO.le _ (Le.drop 2) ?_
 refine VO.op rfl (OpE.store (i := 0) rfl hB rfl Tryz.sizeOf199 rfl rfl rfl rfl rfl rfl (Nle rfl) trivial ?_)
 refine VO.nil ?_
 refine VC.ret ?_
 exact Exists.intro _ (And.intro (RetN.one Tryz.results108 ((by first | exact ResN.cellF (i := 0) Tryz.isAgg199 Tryz.sizeOf199 rfl rfl rfl (flat_ofB rfl)))) (rfl))
end
section
structure SchS where
 best : List Int
 late : Int
 many : Int
 en : Int
 first : Bool
def stepS (p : List PaceS) (o : List OrdrS) (s e : Int) (a : SchS) (l : List Int) : SchS :=
 if a.first = true ∨ (resP p o l s e l.length).late < a.late ∨ ((resP p o l s e l.length).late = a.late ∧ (resP p o l s e l.length).en < a.en) then ⟨l, (resP p o l s e l.length).late, (resP p o l s e l.length).many, (resP p o l s e l.length).en, false⟩ else a
def bestS (p : List PaceS) (o : List OrdrS) (s e : Int) : SchS := ext o.length (stepS p o s e) o.length [] ⟨[], 0, 0, 0, true⟩
def bestSE (p : List PaceS) (o : List OrdrS) (s e : Int) : Int := if bothF p o ≠ 0 then bothF p o else if startF s e ≠ 0 then startF s e else if 8 < o.length then 2 else 0
def bestSL (p : List PaceS) (o : List OrdrS) (s e : Int) : List Int := if bestSE p o s e = 0 then (bestS p o s e).best else []
def bestSK (p : List PaceS) (o : List OrdrS) (s e : Int) : Int := if bestSE p o s e = 0 then (bestS p o s e).late else 0
theorem mkSch {p : List PaceS} {o : List OrdrS} {l : List Int} {s e : Int} (hb : bothF p o = 0) (hs : startF s e = 0) (ho : Ord o.length l) (hl : l.length = o.length) : SchOk p o l s e :=
 schOk (by rw [scheF_3 hb (schF_ok hl ho)]; exact hs)
section
variable {p : List PaceS} {o : List OrdrS} {s e : Int}
theorem stepS_t {a : SchS} {l : List Int} (h : a.first = true ∨ (resP p o l s e l.length).late < a.late ∨ ((resP p o l s e l.length).late = a.late ∧ (resP p o l s e l.length).en < a.en)) : stepS p o s e a l = ⟨l, (resP p o l s e l.length).late, (resP p o l s e l.length).many, (resP p o l s e l.length).en, false⟩ := by rw [stepS, if_pos h]
theorem stepS_f {a : SchS} {l : List Int} (h : ¬ (a.first = true ∨ (resP p o l s e l.length).late < a.late ∨ ((resP p o l s e l.length).late = a.late ∧ (resP p o l s e l.length).en < a.en))) : stepS p o s e a l = a := by rw [stepS, if_neg h]
theorem bestSE_1 (h : bothF p o ≠ 0) : bestSE p o s e = bothF p o := by rw [bestSE, if_pos h]
theorem bestSE_2 (h : bothF p o = 0) (h2 : startF s e ≠ 0) : bestSE p o s e = startF s e := by rw [bestSE, if_neg (by omega), if_pos h2]
theorem bestSE_3 (h : bothF p o = 0) (h2 : startF s e = 0) (h3 : 8 < o.length) : bestSE p o s e = 2 := by rw [bestSE, if_neg (by omega), if_neg (by omega), if_pos h3]
theorem bestSE_0 (h : bothF p o = 0) (h2 : startF s e = 0) (h3 : ¬ 8 < o.length) : bestSE p o s e = 0 := by rw [bestSE, if_neg (by omega), if_neg (by omega), if_neg h3]
theorem bestS_no (h : bestSE p o s e ≠ 0) : bestSL p o s e = [] ∧ bestSK p o s e = 0 := by rw [bestSL, if_neg h, bestSK, if_neg h]; exact ⟨rfl, rfl⟩
theorem bestS_ok (h : bestSE p o s e = 0) : bestSL p o s e = (bestS p o s e).best ∧ bestSK p o s e = (bestS p o s e).late := by rw [bestSL, if_pos h, bestSK, if_pos h]; exact ⟨rfl, rfl⟩
end
theorem cmp2_lt {a b c d : Int} : errsF [cmpI a b, cmpI c d] < 0 ↔ a < b ∨ (a = b ∧ c < d) := by
 unfold cmpI
 by_cases h1 : a < b
 ·rw [if_pos h1]; simp [errsF, h1]
 ·by_cases h2 : b < a
  ·rw [if_neg h1, if_pos h2]; simp [errsF]; omega
  ·rw [if_neg h1, if_neg h2]
   by_cases h3 : c < d
   ·rw [if_pos h3]; simp [errsF]; omega
   ·by_cases h4 : d < c
    ·rw [if_neg h3, if_pos h4]; simp [errsF]; omega
    ·rw [if_neg h3, if_neg h4]; simp [errsF]; omega
theorem VA.rowIs {P : Program} {B : Bs} {V : Nat → Nat → Prop} {ops : Array Oper} {Q : Exit → St' → Prop} {k : Nat} {L : Array Bool} {s : St'} {i n sz : Nat} {u : Value} {cs : List AV} {ty : TypeId} (hi : s.hp[i]? = some (.row u n sz cs ty)) (h : ∀ b c, u = .slice b n c → VA P B V ops Q k L s) : VA P B V ops Q k L s := fun a w hr => by
 obtain ⟨_, ⟨rfl, rfl⟩ | ⟨g, cap, c, rfl, _⟩⟩ := hr.blocks _ (List.mem_of_getElem? hi)
 ·exact h none 0 rfl a w hr
 ·exact h _ cap rfl a w hr
end
section
theorem not_true_false {b : Bool} (h : (!b) = true) : b = false := by cases b <;> simp_all
theorem not_false_true {b : Bool} (h : (!b) = false) : b = true := by cases b <;> simp_all
def eqLs {α : Type} (e : α → α → Bool) : List α → List α → Bool
 | [], [] => true
 | x :: l, y :: r => e x y && eqLs e l r
 | _, _ => false
theorem eqLs_self {α : Type} {e : α → α → Bool} (h : ∀ x, e x x = true) : ∀ l : List α, eqLs e l l = true
 | [] => rfl
 | x :: l => by rw [eqLs, h, eqLs_self h l]; rfl
theorem eqLs_len {α : Type} {e : α → α → Bool} : ∀ {l r : List α}, l.length ≠ r.length → eqLs e l r = false
 | [], [], h => absurd rfl h
 | [], _ :: _, _ => rfl
 | _ :: _, [], _ => rfl
 | x :: l, y :: r, h => by rw [eqLs, eqLs_len (by simpa using h), Bool.and_false]
theorem eqLs_at {α : Type} {e : α → α → Bool} {d : α} : ∀ {l r : List α} {q : Nat}, q < l.length → e (l.getD q d) (r.getD q d) = false → eqLs e l r = false
 | [], _, q, h, _ => by simp at h
 | x :: l, [], q, h, _ => rfl
 | x :: l, y :: r, 0, _, h2 => by simp at h2; rw [eqLs, h2]; rfl
 | x :: l, y :: r, q + 1, h1, h2 => by rw [eqLs, eqLs_at (d := d) (q := q) (by simpa using h1) (by simpa using h2), Bool.and_false]
theorem eqLs_all {α : Type} {e : α → α → Bool} {d : α} : ∀ {l r : List α}, l.length = r.length → (∀ j, j < l.length → e (l.getD j d) (r.getD j d) = true) → eqLs e l r = true
 | [], [], _, _ => rfl
 | [], _ :: _, h, _ => by simp at h
 | _ :: _, [], h, _ => by simp at h
 | x :: l, y :: r, h, h2 => by
  have h0 := h2 0 (by simp)
  simp at h0
  rw [eqLs, h0, eqLs_all (d := d) (by simpa using h) (fun j hj => by simpa using h2 (j + 1) (by simpa using hj))]
  rfl
end
section
def amtP (l : List NeedS) : List (ByteArray × Int) := l.foldl (fun m x => mput m x.key (mgetD m x.key 0 + x.count)) []
def sumK : List NeedS → ByteArray → Int
 | [], _ => 0
 | x :: r, k => (if k = x.key then x.count else 0) + sumK r k
theorem amtP_snoc (l : List NeedS) (x : NeedS) : amtP (l ++ [x]) = mput (amtP l) x.key (mgetD (amtP l) x.key 0 + x.count) := by simp [amtP]
theorem amtP_take {l : List NeedS} {q : Nat} (h : q < l.length) : amtP (l.take (q + 1)) = mput (amtP (l.take q)) (l.getD q default).key (mgetD (amtP (l.take q)) (l.getD q default).key 0 + (l.getD q default).count) := by
 rw [take_snocD h default, amtP_snoc]
theorem amtP_count : ∀ (l : List NeedS) (m : List (ByteArray × Int)) (k : ByteArray), mgetD (l.foldl (fun m x => mput m x.key (mgetD m x.key 0 + x.count)) m) k 0 = mgetD m k 0 + sumK l k
 | [], m, k => by simp [sumK]
 | x :: l, m, k => by
  rw [List.foldl_cons, amtP_count l, mgetD_mput, sumK]
  by_cases e : k = x.key
  ·subst e; simp; omega
  ·rw [if_neg e, if_neg e]; omega
theorem amtP_get (l : List NeedS) (k : ByteArray) : mgetD (amtP l) k 0 = sumK l k := by
 rw [amtP, amtP_count]; simp [mgetD, mget]
theorem sumK_bd {c : Int} (h0 : 0 ≤ c) : ∀ {l : List NeedS} (h : ∀ y ∈ l, 0 ≤ y.count ∧ y.count ≤ c) (k : ByteArray), 0 ≤ sumK l k ∧ sumK l k ≤ c * l.length
 | [], _, k => by simp [sumK]
 | x :: l, h, k => by
  have ih := sumK_bd h0 (l := l) (fun y hy => h y (List.mem_cons_of_mem _ hy)) k
  have hx := h x (List.mem_cons_self ..)
  rw [sumK, List.length_cons, Int.natCast_add, Int.mul_add, Int.natCast_one, Int.mul_one]
  split <;> omega
theorem amtP_nodup' : ∀ (l : List NeedS) (m : List (ByteArray × Int)), (m.map (·.1)).Nodup → ((l.foldl (fun m x => mput m x.key (mgetD m x.key 0 + x.count)) m).map (·.1)).Nodup
 | [], m, h => h
 | x :: l, m, h => amtP_nodup' l _ (mput_nodup h _ _)
theorem amtP_nodup (l : List NeedS) : ((amtP l).map (·.1)).Nodup := amtP_nodup' l [] List.nodup_nil
theorem amtP_mem' : ∀ (l : List NeedS) (m : List (ByteArray × Int)) (k : ByteArray), k ∈ (l.foldl (fun m x => mput m x.key (mgetD m x.key 0 + x.count)) m).map (·.1) ↔ k ∈ m.map (·.1) ∨ ∃ x ∈ l, x.key = k
 | [], m, k => by simp
 | x :: l, m, k => by
  rw [List.foldl_cons, amtP_mem' l, mput_mem, or_assoc]
  simp only [List.mem_cons, exists_eq_or_imp]
  exact ⟨fun h => h.elim .inl fun h => h.elim (fun h => .inr (.inl h.symm)) fun h => .inr (.inr h), fun h => h.elim .inl fun h => h.elim (fun h => .inr (.inl h.symm)) fun h => .inr (.inr h)⟩
theorem amtP_mem {l : List NeedS} {k : ByteArray} : k ∈ (amtP l).map (·.1) ↔ ∃ x ∈ l, x.key = k := by rw [amtP, amtP_mem']; simp
theorem nodup_bd {l r : List ByteArray} (h : l.Nodup) (hs : ∀ x ∈ l, x ∈ r) : l.length ≤ r.length := h.length_le_of_subset hs
def subP (m : List (ByteArray × Int)) (l : List NeedS) : List (ByteArray × Int) := l.foldl (fun m x => mput m x.key (mgetD m x.key 0 - x.count)) m
theorem subP_get : ∀ (l : List NeedS) (m : List (ByteArray × Int)) (k : ByteArray), mgetD (subP m l) k 0 = mgetD m k 0 - sumK l k
 | [], m, k => by simp [sumK, subP]
 | x :: l, m, k => by
  show mgetD (subP (mput m x.key (mgetD m x.key 0 - x.count)) l) k 0 = _
  rw [subP_get l, mgetD_mput, sumK]
  by_cases e : k = x.key
  ·subst e; simp; omega
  ·rw [if_neg e, if_neg e]; omega
def kitN (l : List NeedS) (c : Int) : List NeedS := l.map fun n => (⟨n.key, n.count * c⟩ : NeedS)
theorem kitN_len (l : List NeedS) (c : Int) : (kitN l c).length = l.length := by simp [kitN]
theorem kitN_take {l : List NeedS} {c : Int} {q : Nat} (h : q < l.length) : kitN (l.take (q + 1)) c = kitN (l.take q) c ++ [⟨(l.getD q default).key, (l.getD q default).count * c⟩] := by
 rw [take_snocD h default]; simp [kitN]
def kitL (p : List PaceS) (x : OrdrS) : List NeedS := kitN (paceO p x.product).needs x.count
def kitsL (p : List PaceS) (o : List OrdrS) : List NeedS := o.flatMap (kitL p)
theorem kitsL_take {p : List PaceS} {o : List OrdrS} {q : Nat} (h : q < o.length) : kitsL p (o.take (q + 1)) = kitsL p (o.take q) ++ kitL p (o.getD q default) := by
 rw [take_snocD h default]; simp [kitsL]
def shG (st : List NeedS) (n : NeedS) : NeedS := ⟨n.key, n.count - sumK st n.key⟩
def pickS (l : List (ByteArray × Int)) (st : List NeedS) (seen : List Nat) : List NeedS := ((pickN l seen).map (shG st)).filter fun n => decide (0 < n.count)
theorem pickS_t {l : List (ByteArray × Int)} {st : List NeedS} {j : Nat} {seen : List Nat} (h : sumK st (l.getD j default).1 < (l.getD j default).2) : pickS l st (j :: seen) = pickS l st seen ++ [⟨(l.getD j default).1, (l.getD j default).2 - sumK st (l.getD j default).1⟩] := by
 unfold pickS
 rw [pickN_cons, List.map_append, List.filter_append]
 congr 1
 rw [List.map_cons, List.map_nil, List.filter_cons_of_pos (by simp [shG, ndOf, -List.getD_eq_getElem?_getD]; omega)]
 rfl
theorem pickS_f {l : List (ByteArray × Int)} {st : List NeedS} {j : Nat} {seen : List Nat} (h : (l.getD j default).2 ≤ sumK st (l.getD j default).1) : pickS l st (j :: seen) = pickS l st seen := by
 unfold pickS
 rw [pickN_cons, List.map_append, List.filter_append, List.map_cons, List.map_nil, List.filter_cons_of_neg (by simp [shG, ndOf, -List.getD_eq_getElem?_getD]; omega)]
 simp
theorem pickS_len (l : List (ByteArray × Int)) (st : List NeedS) (seen : List Nat) : (pickS l st seen).length ≤ seen.length := by
 unfold pickS
 refine Nat.le_trans (List.length_filter_le _ _) ?_
 rw [List.length_map, pickN_len]; exact Nat.le_refl _
def MBd (b : Int) (m : List (ByteArray × Int)) : Prop := ∀ k, -b ≤ mgetD m k 0 ∧ mgetD m k 0 ≤ b
theorem MBd.amt {c : Int} (h0 : 0 ≤ c) {l : List NeedS} (h : ∀ y ∈ l, 0 ≤ y.count ∧ y.count ≤ c) : MBd (c * l.length) (amtP l) := fun k => by
 rw [amtP_get]; have := sumK_bd h0 h k; omega
theorem MBd.sub {b c : Int} (h0 : 0 ≤ c) {m : List (ByteArray × Int)} {l : List NeedS} (hm : MBd b m) (h : ∀ y ∈ l, 0 ≤ y.count ∧ y.count ≤ c) : MBd (b + c * l.length) (subP m l) := fun k => by
 rw [subP_get]; have := sumK_bd h0 h k; have := hm k; omega
theorem MBd.mono {b c : Int} {m : List (ByteArray × Int)} (hm : MBd b m) (h : b ≤ c) : MBd c m := fun k => by have := hm k; omega
def covT (m : List (ByteArray × Int)) (l : List NeedS) : Bool := l.any fun n => decide (mgetD m n.key 0 < n.count)
def covS (p : List PaceS) (o : List OrdrS) (a : List (ByteArray × Int) × List ByteArray) (i : Int) : List (ByteArray × Int) × List ByteArray :=
 if covT a.1 (kitL p (o.getD i.toNat default)) = true then a else (subP a.1 (kitL p (o.getD i.toNat default)), a.2 ++ [(o.getD i.toNat default).key])
def covR (p : List PaceS) (o : List OrdrS) (st : List NeedS) (l : List Int) : List (ByteArray × Int) × List ByteArray := l.foldl (covS p o) (amtP st, [])
theorem covR_take {p : List PaceS} {o : List OrdrS} {st : List NeedS} {l : List Int} {q : Nat} (h : q < l.length) : covR p o st (l.take (q + 1)) = covS p o (covR p o st (l.take q)) (l.getD q 0) := by
 rw [take_snocD h 0]; simp [covR]
theorem covS_t {p : List PaceS} {o : List OrdrS} {a : List (ByteArray × Int) × List ByteArray} {i : Int} (h : covT a.1 (kitL p (o.getD i.toNat default)) = true) : covS p o a i = a := by rw [covS, if_pos h]
theorem covS_f {p : List PaceS} {o : List OrdrS} {a : List (ByteArray × Int) × List ByteArray} {i : Int} (h : covT a.1 (kitL p (o.getD i.toNat default)) = false) : covS p o a i = (subP a.1 (kitL p (o.getD i.toNat default)), a.2 ++ [(o.getD i.toNat default).key]) := by rw [covS, if_neg (by rw [h]; simp)]
theorem needs_bd {l : List NeedS} {lo hi : Int} (h : needsF l lo hi = 0) : ∀ y ∈ l, lo ≤ y.count ∧ y.count ≤ hi := fun y hy => by
 obtain ⟨i, hi', rfl⟩ := List.getElem_of_mem hy
 have hl := needsF_lenP h
 rw [needsF, if_neg (by omega)] at h
 have := firstE_zero h i hi'
 unfold needE at this
 rw [show l.getD i default = l[i] by rw [List.getD_eq_getElem?_getD, List.getElem?_eq_getElem hi']; rfl] at this
 split at this
 ·cases this
 ·split at this
  ·cases this
  ·split at this
   ·cases this
   ·rename_i h1
    unfold outR at h1
    simp at h1
    omega
end
end Go.Proofs.YtcploodfholkkaaGreatDoor
