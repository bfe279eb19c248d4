/- Part 5 of a proof: the walks and laws that it needs. -/
import Derived.Test.YtemnnmohdpabhaaGreatDoorProg
import Derived.Shelf.Abstract
import Derived.Deep.QuietTactic
import Derived.BigQuiet
import Derived.BigRegion
import Derived.Deep.RegionLaw
import Derived.Deep.LoopGhost
import Derived.Deep.DeepCutAuto
import Derived.Test.YtemnnmohdpabhaaGreatDoorZL4
namespace Go.Proofs.YtemnnmohdpabhaaGreatDoor
open Go.RowKit
set_option linter.unusedVariables false
set_option linter.unusedSimpArgs false

structure MR where
 key : ByteArray
 each : Int
 fixed : Int
 feeders : Int
 b : Option Addr
 c : Nat
 can : List ByteArray
instance : Inhabited MR := ⟨⟨ByteArray.empty, 0, 0, 0, none, 0, []⟩⟩
def MR.val (m : MR) : Value := .slice m.b m.can.length m.c
instance : Sxc MR where
 k := 5
 pos := by decide
 cell m j := match j with
  | 0 => avS m.key
  | 1 => avI m.each
  | 2 => avI m.fixed
  | 3 => avI m.feeders
  | 4 => .v (.slice m.b m.can.length m.c)
  | _ => .any
def rowM (m : MR) : Ent := .row (.slice m.b m.can.length m.c) m.can.length 1 (strsL m.can) 9
def mkKey (q : Nat) : ByteArray := ⟨#[109]⟩ ++ Utf8.encode (49 + (q : Int))
theorem encode_small (n : Int) : (Utf8.encode n).size ≤ 4 := by
 unfold Utf8.encode
 simp only
 repeat' split
 all_goals simp [ByteArray.size]
theorem permM {m : MR} {e : Ent} {l : List MR} : (rowM m :: e :: l.map rowM).Perm (e :: (l ++ [m]).map rowM) := by
 rw [List.map_append]
 exact (List.Perm.swap e (rowM m) _).trans (List.Perm.cons e (List.perm_append_comm (l₁ := [rowM m]) (l₂ := l.map rowM)))
theorem famAt {e : Ent} {l : List MR} {m : Nat} (h : m < l.length) : (e :: l.map rowM)[m + 1]? = some (rowM (l.getD m default)) := by simp [h]
def toM (m : MR) : Mach := ⟨m.key, m.each, m.fixed, m.feeders, m.can⟩
theorem Rep.im_mono {w : World} {Z : Nat → Prop} {n sz : Nat} {f g : Nat → AV} (h : ∀ j, j < n * sz → ∀ u, Rep w Z (f j) u → Rep w Z (g j) u) {u : Value} (hr : Rep w Z (.im n sz f) u) : Rep w Z (.im n sz g) u := by
 cases hr with
 | nil => exact .nil sz g
 | im n sz f b off cap c e u hZ h1 h2 hb hc hr => exact .im n sz g b off cap c e u hZ h1 h2 hb hc fun j hj => h j hj _ (hr j hj)
theorem fam_avL {w : World} {Z : Nat → Prop} {l : List MR} {u : Value} {n : Nat} (hn : n = l.length) (h : Rep w Z (.im n 5 fun j => (rowL l).getD j .any) u)
  (hc : ∀ q, q < l.length → Rep w Z (avStrs (l.getD q default).can) (.slice (l.getD q default).b (l.getD q default).can.length (l.getD q default).c)) : Rep w Z (avL (l.map toM)) u := by
 subst hn
 have e : avL (l.map toM) = .im l.length 5 (fun j => Sxc.cell ((l.map toM).getD (j / 5) default) (j % 5)) := by
  show AV.im (l.map toM).length 5 _ = _
  rw [List.length_map]
  rfl
 rw [e]
 refine h.im_mono fun j hj u hu => ?_
 have hd : j / 5 < l.length := by omega
 have hm : j % 5 < 5 := by omega
 have e1 := rowL_get l (j / 5) (j % 5) hd hm
 have e2 : j / 5 * Sxc.k MR + j % 5 = j := by show j / 5 * 5 + j % 5 = j; omega
 rw [e2] at e1
 rw [List.getD_eq_getElem?_getD, e1] at hu
 have e3 : (l.map toM).getD (j / 5) default = toM (l.getD (j / 5) default) := by simp [hd]
 rw [e3]
 have hq := hc _ hd
 simp only [Option.getD_some] at hu
 generalize j % 5 = i at hu hm
 match i, hm with
 | 0, _ => exact hu
 | 1, _ => exact hu
 | 2, _ => exact hu
 | 3, _ => exact hu
 | 4, _ =>
  have : u = .slice (l.getD (j / 5) default).b (l.getD (j / 5) default).can.length (l.getD (j / 5) default).c := hu.eq_v
  rw [this]; exact hq
theorem Le.fam {B : Bs} {s : St'} {t n : Nat} {u : Value} {l : List MR} (hB : B.Ok) (hnew : True) (ht : look s.sl t = some (.v u)) (hn : n = l.length)
  (hu : (∃ ty, s.hp[0]? = some (.row u n 5 (rowL l) ty)) ∨ ∃ g cap ty tot, u = .slice (some ⟨g, 0, none⟩) n cap ∧ n ≤ cap ∧ cap ≤ maxLen ∧ s.hp[0]? = some (.box g ⟨rowL l, ty, tot⟩))
  (hrows : ∀ q, q < l.length → s.hp[q + 1]? = some (rowM (l.getD q default))) : Le B s ⟨(t, avL (l.map toM)) :: s.sl, [], s.k⟩ := fun a w hr => by
 have hold : ∀ e ∈ s.hp, ∀ g, e.blk = some g → g < w.heap.size → Zn B [] w g := fun e he g hg hl => ⟨hl, fun p hp => by simp at hp, fun h0 => by
  have h1 := hr.own e he g hg
  exact ⟨.inr (h1.2 h0), fun hs => h1.1 (hB.str g hs).1⟩⟩
 have hZ : ∀ b, Zn B s.hp w b → Zn B [] w b := fun b hb => ⟨hb.1, fun p hp => by simp at hp, hb.2.2⟩
 have hr' : R B ⟨s.sl, [], s.k⟩ a w := hr.drop (fun _ _ h => h) (List.nil_sublist _)
 refine hr'.over t ?_
 rw [(hr.slots t _ ht).eq_v]
 refine fam_avL hn ?_ fun q hq => ?_
 ·rcases hu with ⟨ty, hi⟩ | ⟨g, cap, ty, tot, rfl, h1, h2, hi⟩
  ·exact hr.repRow hi hZ fun g hg hl => hold _ (List.mem_of_getElem? hi) g hg hl
  ·have := hr.repBox (off := 0) (n := n) (sz := 5) (cap := cap) hi (by show 0 + n * 5 ≤ (rowL l).length; rw [rowL_len, hn]; show 0 + l.length * 5 ≤ l.length * 5; omega) h1 h2 hZ (hold _ (List.mem_of_getElem? hi) g rfl)
   exact this.im_congr fun j hj => by rw [Nat.zero_add]
 ·have hi := hrows q hq
  exact Rep.strs rfl (hr.repRow hi hZ fun g hg hl => hold _ (List.mem_of_getElem? hi) g hg hl)
def MRok (x : MR) : Prop := x.key.size ≤ 1000 ∧ x.can.length ≤ 5 ∧ ∀ y ∈ x.can, y.size ≤ 1000
theorem MRok.getD {l : List MR} (h : ∀ x ∈ l, MRok x) {m : Nat} (hm : m < l.length) : MRok (l.getD m default) := by
 have := h _ (List.getElem_mem hm)
 simpa [hm] using this
theorem famAt' {e : Ent} {L : List Ent} {l : List MR} {q : Nat} (h : l.map rowM = L) (hq : q < l.length) : (e :: L)[q + 1]? = some (rowM (l.getD q default)) := by subst h; exact famAt hq
theorem famSet {l : List MR} {m : Nat} {x : MR} (hm : m < l.length) (hx : rowM x = rowM (l.getD m default)) : (l.set m x).map rowM = l.map rowM := by
 rw [List.map_set, hx]
 apply List.ext_getElem (by simp)
 intro i h1 h2
 rw [List.getElem_set]
 split
 ·rename_i e; subst e; simp [hm]
 ·rfl
theorem MRok.small {l : List MR} (hl : l.length ≤ 100) (h : ∀ x ∈ l, x.key.size ≤ 1000 ∧ x.can.length ≤ 6 ∧ ∀ y ∈ x.can, y.size ≤ 1000) : SmallM (l.map toM) := by
 have key : ∀ i, ((l.map toM).getD i default).key.size ≤ 1000 ∧ ((l.map toM).getD i default).can.length ≤ 6 ∧ ∀ y ∈ ((l.map toM).getD i default).can, y.size ≤ 1000 := fun i => by
  by_cases hi : i < l.length
  ·have := h _ (List.getElem_mem hi)
   simpa [hi, toM] using this
  ·have : (l.map toM).getD i default = default := by simp [List.getD_eq_getElem?_getD, hi]
   rw [this]
   exact ⟨by decide, by decide, fun y hy => by cases hy⟩
 refine ⟨by rw [List.length_map]; omega, fun i => by have := (key i).1; omega, fun i => by have := (key i).2.1; omega, fun i j => ?_⟩
 by_cases hj : j < ((l.map toM).getD i default).can.length
 ·have := (key i).2.2 _ (List.getElem_mem hj)
  rw [List.getD_eq_getElem?_getD, List.getElem?_eq_getElem hj]
  simp only [Option.getD_some]
  omega
 ·rw [List.getD_eq_getElem?_getD, List.getElem?_eq_none (by omega)]
  decide
theorem MRok.six {x : MR} (h : MRok x) : x.key.size ≤ 1000 ∧ x.can.length ≤ 6 ∧ ∀ y ∈ x.can, y.size ≤ 1000 := ⟨h.1, by have := h.2.1; omega, h.2.2⟩
theorem MRok.set {l : List MR} (h : ∀ x ∈ l, MRok x) {m : Nat} {x : MR} (hx : x.key.size ≤ 1000 ∧ x.can.length ≤ 6 ∧ ∀ y ∈ x.can, y.size ≤ 1000) : ∀ y ∈ l.set m x, y.key.size ≤ 1000 ∧ y.can.length ≤ 6 ∧ ∀ z ∈ y.can, z.size ≤ 1000 := fun y hy => by
 rcases List.mem_or_eq_of_mem_set hy with h' | rfl
 ·exact (h y h').six
 ·exact hx
set_option maxRecDepth 100000 in
theorem machines_T {p : Nat} {L : List Int}  :
    SpecT Tryz.prog (TT p L) (fun b => b = p) 8 [sp p] 60 (fun y => ∃ ms : List Mach, (SmallM ms ∧ 0 < ms.length ∧ ms.length ≤ 100) ∧ y = avL ms) := by
  refine SpecT.of_VC Tryz.func8 rfl Tryz.ntmps8 (Nle rfl) (low := (fun b => b ≤ p)) (fun w A k h => h.ok) fun w A k hk hB => ?_
  have hnew : True := trivial
  refine VC.sr ?_
  refine VO.ma rfl rfl rfl rfl ?_
  refine VO.nil ?_
  refine VC.sr ?_
  refine VO.ma rfl rfl rfl rfl ?_
  refine VO.nil ?_
  refine VC.seq ?_
  refine VC.sr ?_
  refine VO.mv rfl rfl rfl rfl ?_
  refine VO.op rfl (OpE.callT' (k) rfl rfl hB rfl Tryz.call26 rfl ((range_T (by omega) (by omega) (by omega))) (by omega) ?_)
  rintro _ ⟨r10, hr10, rfl⟩
  refine VO.mv rfl rfl rfl rfl ?_
  refine VO.nil ?_
  refine VC.block ?_
  refine VC.le _ (Le.nilRow 5 106) ?_
  obtain ⟨n, rfl⟩ : ∃ m : Nat, r10 = m := ⟨r10.toNat, by omega⟩
  refine VC.loopK [] trivial ({t : Value × List MR × Nat // t.2.2 ≤ n ∧ t.2.1.length = t.2.2 ∧ ∀ x ∈ t.2.1, MRok x}) (fun (iZ : {t : Value × List MR × Nat // t.2.2 ≤ n ∧ t.2.1.length = t.2.2 ∧ ∀ x ∈ t.2.1, MRok x}) => match iZ with | ⟨⟨uo, l, q⟩, hq, hl, hok⟩ => [(0, sp p), (3, .v uo), (10, avI (n : Int)), (11, avI (q : Int))]) (fun (iZ : {t : Value × List MR × Nat // t.2.2 ≤ n ∧ t.2.1.length = t.2.2 ∧ ∀ x ∈ t.2.1, MRok x}) => match iZ with | ⟨⟨uo, l, q⟩, hq, hl, hok⟩ => (.row uo l.length 5 (rowL l) 106 :: l.map rowM)) (fun (iZ : {t : Value × List MR × Nat // t.2.2 ≤ n ∧ t.2.1.length = t.2.2 ∧ ∀ x ∈ t.2.1, MRok x}) => match iZ with | ⟨⟨uo, l, q⟩, hq, hl, hok⟩ => k + 1 + 8 * q) (fun (iZ : {t : Value × List MR × Nat // t.2.2 ≤ n ∧ t.2.1.length = t.2.2 ∧ ∀ x ∈ t.2.1, MRok x}) => match iZ with | ⟨⟨uo, l, q⟩, hq, hl, hok⟩ => n - q) ⟨(.slice none 0 0, [], 0), Nat.zero_le _, rfl, fun x h => by simp at h⟩ (Le.mkP hB ⟨rfl, rfl, rfl, rfl, trivial⟩ (List.Sublist.refl _) (List.Perm.refl _) (show k + 1 ≤ k + 1 + 8 * 0 by omega)) ?_
  rintro ⟨⟨uo, l, q⟩, hq, hl, hok⟩
  show VC _ _ _ _ ⟨[(0, sp p), (3, .v uo), (10, avI (n : Int)), (11, avI (q : Int))] ++ [], (.row uo l.length 5 (rowL l) 106 :: l.map rowM), k + 1 + 8 * q⟩
  simp only at hq hl hok
  refine VC.sr ?_
  refine VO.val rfl rfl (OpV.lss rfl rfl rfl) ?_
  refine VO.nil ?_
  refine VC.seq ?_
  refine VC.cond rfl (fun aH1b => ?_) (fun aH1b => ?_)
  · have aH1 := aH1b
    try simp only [qqT, qqF, qqN, qqM, qqL, qqE] at aH1
    refine VC.skip ?_
    refine VC.seq ?_
    refine VC.block ?_
    refine VC.sr ?_
    refine VO.mv rfl rfl rfl rfl ?_
    refine VO.ma rfl rfl rfl rfl ?_
    refine VO.nil ?_
    refine VC.sr ?_
    refine VO.mv rfl rfl rfl rfl ?_
    refine VO.val rfl rfl (OpV.add rfl rfl rfl (by unfold fits; omega)) ?_
    refine VO.val rfl rfl (OpV.conv rfl Tryz.underlying3 Tryz.underlying21 rfl (IntWalk.i32_in _ (by omega))) ?_
    refine VO.val rfl rfl (OpV.convStr rfl Tryz.underlying21 Tryz.underlying9 rfl) ?_
    refine VO.val rfl rfl (OpV.sadd rfl rfl rfl (by have := encode_small (49 + (q : Int)); have h1 : (⟨#[109]⟩ : ByteArray).size = 1 := rfl; omega)) ?_
    refine VO.mv rfl rfl rfl rfl ?_
    refine VO.op rfl (OpE.buildSlice (zc := #[.int .i64 0, .int .i64 0, .int .i64 0, .int .i64 0]) rfl hB rfl Tryz.underlying22 Tryz.sizeOf3 Tryz.zeroValue3 (by decide) (by decide) (by kernel_rfl) rfl rfl ?_)
    refine VO.op rfl (OpE.callT' (k + 1 + 8 * q) rfl rfl hB rfl Tryz.call38 rfl (pick_X (by rfl) (by decide) (by decide) (by repeat (first | exact AllX.nil | refine AllX.cons ?_))) (by omega) ?_)
    rintro _ ⟨r21, rfl⟩
    refine VO.mv rfl rfl rfl rfl ?_
    refine VO.op rfl (OpE.buildSlice (zc := #[.int .i64 0, .int .i64 0, .int .i64 0, .int .i64 0]) rfl hB rfl Tryz.underlying22 Tryz.sizeOf3 Tryz.zeroValue3 (by decide) (by decide) (by kernel_rfl) rfl rfl ?_)
    refine VO.op rfl (OpE.callT' (k + 1 + 8 * q + 1) rfl rfl hB rfl Tryz.call38 rfl (pick_X (by rfl) (by decide) (by decide) (by repeat (first | exact AllX.nil | refine AllX.cons ?_))) (by omega) ?_)
    rintro _ ⟨r24, rfl⟩
    refine VO.mv rfl rfl rfl rfl ?_
    refine VO.op rfl (OpE.buildSlice (zc := #[.int .i64 0, .int .i64 0, .int .i64 0, .int .i64 0]) rfl hB rfl Tryz.underlying22 Tryz.sizeOf3 Tryz.zeroValue3 (by decide) (by decide) (by kernel_rfl) rfl rfl ?_)
    refine VO.op rfl (OpE.callT' (k + 1 + 8 * q + 1 + 1) rfl rfl hB rfl Tryz.call38 rfl (pick_X (by rfl) (by decide) (by decide) (by repeat (first | exact AllX.nil | refine AllX.cons ?_))) (by omega) ?_)
    rintro _ ⟨r27, rfl⟩
    refine VO.val rfl rfl (OpV.build (pls := #[(0, 1), (1, 1), (2, 1), (3, 1), (4, 1)]) rfl Tryz.zeroValue106 Tryz.underlying106 (fun w => by kernel_rfl) rfl rfl) ?_
    refine VO.op rfl (OpE.alloc rfl hB rfl Tryz.zeroValue106 rfl ?_)
    intro g5
    refine VO.le _ (Le.front rfl) ?_
    refine VO.op rfl (OpE.store (i := 0) rfl hB rfl Tryz.sizeOf106 rfl rfl rfl rfl rfl rfl (Nle rfl) trivial ?_)
    refine VO.nil ?_
    refine VC.seq ?_
    refine VC.sr ?_
    refine VO.op rfl (OpE.buildSlice (zc := #[.string ⟨#[]⟩, .string ⟨#[]⟩, .string ⟨#[]⟩, .string ⟨#[]⟩, .string ⟨#[]⟩]) rfl hB rfl Tryz.underlying40 Tryz.sizeOf9 Tryz.zeroValue9 (by decide) (by decide) (by kernel_rfl) rfl rfl ?_)
    refine VO.le _ (Le.recast (t := 29) (y := avStrs keys5) rfl (fun w Z u h => Rep.strs (xs := keys5) rfl h)) ?_
    refine VO.val rfl rfl (OpV.len_im rfl Tryz.underlying40 rfl) ?_
    refine VO.mv rfl rfl rfl rfl ?_
    refine VO.nil ?_
    refine VC.block ?_
    refine VC.le _ (Le.nilRow 1 9) ?_
    refine VC.le _ (Le.front rfl) ?_
    refine VC.loopK [] trivial ({t : Option Addr × Nat × List ByteArray × Nat // t.2.2.2 ≤ 5 ∧ t.2.2.1.length ≤ t.2.2.2 ∧ ∀ x ∈ t.2.2.1, x.size ≤ 1000}) (fun (iZ : {t : Option Addr × Nat × List ByteArray × Nat // t.2.2.2 ≤ 5 ∧ t.2.2.1.length ≤ t.2.2.2 ∧ ∀ x ∈ t.2.2.1, x.size ≤ 1000}) => match iZ with | ⟨⟨b, c, can, r⟩, hr, hcl, hcs⟩ => [(0, sp p), (3, .v uo), (5, .v (.pointer (some ⟨g5, 0, none⟩))), (10, avI (n : Int)), (11, avI (q : Int)), (29, avStrs keys5), (30, avI 5), (31, avI (r : Int))]) (fun (iZ : {t : Option Addr × Nat × List ByteArray × Nat // t.2.2.2 ≤ 5 ∧ t.2.2.1.length ≤ t.2.2.2 ∧ ∀ x ∈ t.2.2.1, x.size ≤ 1000}) => match iZ with | ⟨⟨b, c, can, r⟩, hr, hcl, hcs⟩ => (.row (.slice b can.length c) can.length 1 (strsL can) 9 :: .box g5 ⟨[avS (mkKey q), avI r21, avI r24, avI r27, .v (.slice b can.length c)], 106, 5⟩ :: .row uo l.length 5 (rowL l) 106 :: l.map rowM)) (fun (iZ : {t : Option Addr × Nat × List ByteArray × Nat // t.2.2.2 ≤ 5 ∧ t.2.2.1.length ≤ t.2.2.2 ∧ ∀ x ∈ t.2.2.1, x.size ≤ 1000}) => match iZ with | ⟨⟨b, c, can, r⟩, hr, hcl, hcs⟩ => k + 1 + 8 * q + 3 + r) (fun (iZ : {t : Option Addr × Nat × List ByteArray × Nat // t.2.2.2 ≤ 5 ∧ t.2.2.1.length ≤ t.2.2.2 ∧ ∀ x ∈ t.2.2.1, x.size ≤ 1000}) => match iZ with | ⟨⟨b, c, can, r⟩, hr, hcl, hcs⟩ => 5 - r) ⟨(none, 0, [], 0), by decide, by decide, fun x h => by simp at h⟩ (Le.mkP hB ⟨rfl, rfl, rfl, rfl, rfl, rfl, rfl, rfl, trivial⟩ (List.Sublist.refl _) (List.Perm.refl _) (show k + 1 + 8 * q + 1 + 1 + 1 ≤ k + 1 + 8 * q + 3 + 0 by omega)) ?_
    rintro ⟨⟨b, c, can, r⟩, hr, hcl, hcs⟩
    show VC _ _ _ _ ⟨[(0, sp p), (3, .v uo), (5, .v (.pointer (some ⟨g5, 0, none⟩))), (10, avI (n : Int)), (11, avI (q : Int)), (29, avStrs keys5), (30, avI 5), (31, avI (r : Int))] ++ [], (.row (.slice b can.length c) can.length 1 (strsL can) 9 :: .box g5 ⟨[avS (mkKey q), avI r21, avI r24, avI r27, .v (.slice b can.length c)], 106, 5⟩ :: .row uo l.length 5 (rowL l) 106 :: l.map rowM), k + 1 + 8 * q + 3 + r⟩
    simp only at hr hcl hcs
    refine VC.sr ?_
    refine VO.val rfl rfl (OpV.lss rfl rfl rfl) ?_
    refine VO.nil ?_
    refine VC.seq ?_
    refine VC.cond rfl (fun aH2b => ?_) (fun aH2b => ?_)
    · have aH2 := aH2b
      try simp only [qqT, qqF, qqN, qqM, qqL, qqE] at aH2
      refine VC.skip ?_
      refine VC.seq ?_
      refine VC.block ?_
      refine VC.sr ?_
      refine VO.val rfl rfl (OpV.indexAddr_1 rfl Tryz.underlying40 Tryz.sizeOf9 rfl rfl rfl (by show _ < 5; omega)) ?_
      refine VO.val rfl rfl (OpV.load_at rfl hB OutW.no Tryz.isAgg9 rfl rfl) ?_
      refine VO.ma rfl rfl rfl rfl ?_
      refine VO.nil ?_
      refine VC.sr ?_
      refine VO.mv rfl rfl rfl rfl ?_
      refine VO.op rfl (OpE.callT' (k + 1 + 8 * q + 3 + r) rfl rfl hB rfl Tryz.call10 rfl ((flip_T (by omega))) (by omega) ?_)
      rintro _ ⟨r36, rfl⟩
      refine VO.val rfl rfl (OpV.not rfl rfl) ?_
      refine VO.nil ?_
      refine VC.cond rfl (fun aH3b => ?_) (fun aH3b => ?_)
      · have aH3 := aH3b
        try simp only [qqT, qqF, qqN, qqM, qqL, qqE] at aH3
        refine VC.region ?_
        refine VO.val rfl rfl (OpV.fieldAddrO 4 rfl Tryz.underlying106 rfl rfl Tryz.sizeOf40 rfl) ?_
        refine VO.val rfl rfl (OpV.load_own (i := 1) rfl hB Tryz.isAgg40 rfl rfl rfl (fun h => h)) ?_
        refine VO.mv rfl rfl rfl rfl ?_
        refine VO.op rfl (OpE.buildSlice (zc := #[.string ⟨#[]⟩]) rfl hB rfl Tryz.underlying40 Tryz.sizeOf9 Tryz.zeroValue9 (by decide) (by decide) (by kernel_rfl) rfl rfl ?_)
        refine VO.op rfl (OpE.append1S (i := 0) rfl hB rfl Tryz.underlying40 (infoOf Tryz.t9 1 (by kernel_rfl) rfl rfl) rfl (by decide) (by decide) rfl rfl rfl rfl (strsL_snoc _ _) (by omega) (fun _ _ => trivial) ?_)
        intro b2 c2
        refine VO.val rfl rfl (OpV.fieldAddrO 4 rfl Tryz.underlying106 rfl rfl Tryz.sizeOf40 rfl) ?_
        refine VO.op rfl (OpE.store (i := 1) rfl hB rfl Tryz.sizeOf40 rfl rfl rfl rfl rfl rfl (Nle rfl) trivial ?_)
        refine VO.nil ?_
        refine VC.region ?_
        refine VO.val rfl rfl (OpV.add rfl rfl rfl (by unfold fits; omega)) ?_
        refine VO.mv rfl rfl rfl rfl ?_
        refine VO.nil ?_
        exact Exists.intro (⟨(b2, c2, can ++ [keys5.getD r ByteArray.empty], r + 1), by show r + 1 ≤ 5; omega, by show (can ++ [_]).length ≤ r + 1; simp; omega, fun x hx => by rcases List.mem_append.1 hx with hx | hx; exact hcs x hx; (simp at hx; subst hx; exact keys5_size _)⟩) (And.intro (Le.mkP hB ⟨rfl, rfl, rfl, rfl, rfl, rfl, rfl, rfl, trivial⟩ (List.Sublist.refl _) (by dsimp only; first | exact List.Perm.refl _ | (rw [List.length_append]; exact List.Perm.refl _)) (show k + 1 + 8 * q + 3 + r + 1 ≤ k + 1 + 8 * q + 3 + (r + 1) by omega)) (by first | omega | (show _ < _; omega) | (simp only []; omega)))
      · have aH3 := aH3b
        try simp only [qqT, qqF, qqN, qqM, qqL, qqE] at aH3
        refine VC.skip ?_
        refine VC.region ?_
        refine VO.val rfl rfl (OpV.add rfl rfl rfl (by unfold fits; omega)) ?_
        refine VO.mv rfl rfl rfl rfl ?_
        refine VO.nil ?_
        exact Exists.intro (⟨(b, c, can, r + 1), by show r + 1 ≤ 5; omega, by show can.length ≤ r + 1; omega, hcs⟩) (And.intro (Le.mkP hB ⟨rfl, rfl, rfl, rfl, rfl, rfl, rfl, rfl, trivial⟩ (List.Sublist.refl _) (by dsimp only; first | exact List.Perm.refl _ | (rw [List.length_append]; exact List.Perm.refl _)) (show k + 1 + 8 * q + 3 + r + 1 ≤ k + 1 + 8 * q + 3 + (r + 1) by omega)) (by first | omega | (show _ < _; omega) | (simp only []; omega)))
    · have aH2 := aH2b
      try simp only [qqT, qqF, qqN, qqM, qqL, qqE] at aH2
      refine VC.exit ?_
      refine VC.region ?_
      refine VO.mv rfl rfl rfl rfl ?_
      refine VO.val rfl rfl (OpV.loadK_own (i := 1) rfl hB Tryz.isAgg106 Tryz.sizeOf106 rfl rfl rfl (fun h => h)) ?_
      refine VO.op rfl (OpE.buildSlice (zc := #[.string ⟨#[]⟩, .int .i64 0, .int .i64 0, .int .i64 0, .slice none 0 0]) rfl hB rfl Tryz.underlying26 Tryz.sizeOf106 Tryz.zeroValue106 (by decide) (by decide) (by kernel_rfl) rfl rfl ?_)
      refine VO.op rfl (OpE.append1 (i := 2) rfl hB rfl Tryz.underlying26 (infoOf Tryz.t106 5 (by kernel_rfl) rfl rfl) rfl (by decide) (by decide) rfl rfl rfl rfl (rowL_snoc l (⟨mkKey q, r21, r24, r27, b, c, can⟩ : MR)) (by omega) (fun _ _ => trivial) ?_)
      intro uo2
      refine VO.ma rfl rfl rfl rfl ?_
      refine VO.nil ?_
      refine VC.region ?_
      refine VO.val rfl rfl (OpV.add rfl rfl rfl (by unfold fits; omega)) ?_
      refine VO.mv rfl rfl rfl rfl ?_
      refine VO.nil ?_
      exact Exists.intro (⟨(uo2, l ++ [⟨mkKey q, r21, r24, r27, b, c, can⟩], q + 1), by show q + 1 ≤ n; omega, by show (l ++ [_]).length = q + 1; simp; omega, fun x hx => by rcases List.mem_append.1 hx with hx | hx; exact hok x hx; (simp at hx; subst hx; exact ⟨by have := encode_small (49 + (q : Int)); show (⟨#[109]⟩ ++ Utf8.encode (49 + (q : Int)) : ByteArray).size ≤ 1000; rw [ByteArray.size_append]; have h1 : (⟨#[109]⟩ : ByteArray).size = 1 := rfl; omega, by show can.length ≤ 5; omega, hcs⟩)⟩) (And.intro (Le.mkP hB ⟨rfl, rfl, rfl, rfl, trivial⟩ (hp1 := rowM ⟨mkKey q, r21, r24, r27, b, c, can⟩ :: .row uo2 (l.length + 1) 5 (rowL (l ++ [⟨mkKey q, r21, r24, r27, b, c, can⟩])) 106 :: l.map rowM) (List.Sublist.cons_cons _ (List.Sublist.cons _ (List.Sublist.refl _))) (by dsimp only; rw [List.length_append]; exact permM) (show k + 1 + 8 * q + 3 + r ≤ k + 1 + 8 * (q + 1) by omega)) (by first | omega | (show _ < _; omega) | (simp only []; omega)))
  · have aH1 := aH1b
    try simp only [qqT, qqF, qqN, qqM, qqL, qqE] at aH1
    refine VC.exit ?_
    refine VC.seq ?_
    refine VC.sr ?_
    refine VO.mv rfl rfl rfl rfl ?_
    refine VO.op rfl (OpE.callT' (k + 1 + 8 * q) rfl rfl hB rfl Tryz.call10 rfl ((flip_T (by omega))) (by omega) ?_)
    rintro _ ⟨r51, rfl⟩
    refine VO.nil ?_
    refine VC.cond rfl (fun aH4b => ?_) (fun aH4b => ?_)
    · have aH4 := aH4b
      try simp only [qqT, qqF, qqN, qqM, qqL, qqE] at aH4
      refine VC.seq ?_
      refine VC.asBox (i := 0) rfl (by omega) (fun g cap hu hcap hmx => ?_)
      subst hu
      refine VC.region ?_
      refine VO.mv rfl rfl rfl rfl ?_
      refine VO.mv rfl rfl rfl rfl ?_
      refine VO.mv rfl rfl rfl rfl ?_
      refine VO.val rfl rfl (OpV.len_v rfl Tryz.underlying26 rfl) ?_
      refine VO.op rfl (OpE.callT' (k + 1 + 8 * q + 1) rfl rfl hB rfl Tryz.call69 rfl ((next_T (by omega))) (by omega) ?_)
      rintro _ ⟨r56, hr56, rfl⟩
      obtain ⟨m, rfl⟩ : ∃ m : Nat, r56 = m := ⟨r56.toNat, by omega⟩
      refine VO.val rfl rfl (OpV.indexAddr_q rfl Tryz.underlying26 Tryz.sizeOf106 rfl rfl rfl (by omega)) ?_
      refine VO.ma rfl rfl rfl rfl ?_
      refine VO.nil ?_
      refine VC.sr ?_
      refine VO.mv rfl rfl rfl rfl ?_
      refine VO.op rfl (OpE.callT' (k + 1 + 8 * q + 1 + 1) rfl rfl hB rfl Tryz.call69 rfl ((next_T (by omega))) (by omega) ?_)
      rintro _ ⟨r59, hr59, rfl⟩
      refine VO.nil ?_
      refine VC.block ?_
      refine VC.sr ?_
      refine VO.val rfl rfl (OpV.eql rfl rfl rfl) ?_
      refine VO.ma rfl rfl rfl rfl ?_
      refine VO.nil ?_
      refine VC.cond rfl (fun aH5b => ?_) (fun aH5b => ?_)
      · have aH5 := aH5b
        try simp only [qqT, qqF, qqN, qqM, qqL, qqE] at aH5
        refine VC.draw (fun j b => (j = 14 ∧ b = g) ∨ (j = 17 ∧ b = g)) hB (by kernel_rfl) ?_
        refine VA.take (i := 0) rfl (by kernel_rfl) (by kernel_rfl) (by kernel_rfl) rfl rfl (OpV.move (.inl rfl) rfl) ?_
        refine VA.take (i := 1) rfl (by kernel_rfl) (by kernel_rfl) (by kernel_rfl) rfl rfl (OpV.move (.inl rfl) rfl) ?_
        refine VA.take (i := 2) rfl (by kernel_rfl) (by kernel_rfl) (by kernel_rfl) rfl rfl (OpV.move (.inl rfl) rfl) ?_
        refine VA.take (i := 5) rfl (by kernel_rfl) (by kernel_rfl) (by kernel_rfl) rfl rfl (OpV.move (.inl rfl) rfl) ?_
        refine VA.take (i := 6) rfl (by kernel_rfl) (by kernel_rfl) (by kernel_rfl) rfl rfl (OpV.move (.inl rfl) rfl) ?_
        refine VA.take (i := 7) rfl (by kernel_rfl) (by kernel_rfl) (by kernel_rfl) rfl rfl (OpV.nilCheck rfl rfl) ?_
        refine VA.take (i := 8) rfl (by kernel_rfl) (by kernel_rfl) (by kernel_rfl) rfl rfl (OpV.fieldAddrO 3 rfl Tryz.underlying106 rfl rfl Tryz.sizeOf3 rfl) ?_
        refine VA.take (i := 9) rfl (by kernel_rfl) (by kernel_rfl) (by kernel_rfl) rfl rfl (OpV.load_own (i := 0) rfl hB Tryz.isAgg3 rfl rfl (rowL_at rfl (by omega) (by decide)) (by first | exact Wi.not1 (by kernel_rfl) | exact Wi.not2 (by kernel_rfl) (by kernel_rfl) | exact Wi.notX (by kernel_rfl))) ?_
        refine VA.all (rs := [3, 10]) (by kernel_rfl) (by decide) ?_
        refine ⟨⟨_, rfl, .inl rfl, ?_⟩, ⟨_, rfl, .inl rfl, ?_⟩, trivial⟩
        ·
          refine OpE.buildSlice (zc := #[.string ⟨#[]⟩, .string ⟨#[]⟩, .string ⟨#[]⟩]) rfl hB rfl Tryz.underlying40 Tryz.sizeOf9 Tryz.zeroValue9 (by decide) (by decide) (by kernel_rfl) rfl rfl ?_
          refine VA.all (rs := [4, 10]) (by kernel_rfl) (by decide) ?_
          refine ⟨⟨_, rfl, .inl rfl, ?_⟩, ⟨_, rfl, .inl rfl, ?_⟩, trivial⟩
          ·
            refine OpE.callT' (k + 1 + 8 * q + 1 + 1 + 1) rfl rfl hB rfl Tryz.call70 rfl (some_T 1000 (by rfl) (by decide) (by decide) (by repeat (first | exact AllS.nil | refine AllS.cons (by decide) ?_))) (by omega) ?_
            rintro _ ⟨r78, hr78, rfl⟩
            refine VA.all (rs := [10]) (by kernel_rfl) (by decide) ?_
            refine ⟨⟨_, rfl, .inl rfl, ?_⟩, trivial⟩
            refine OpE.buildSlice (zc := #[.int .i64 0, .int .i64 0, .int .i64 0]) rfl hB rfl Tryz.underlying22 Tryz.sizeOf3 Tryz.zeroValue3 (by decide) (by decide) (by kernel_rfl) rfl rfl ?_
            refine VA.all (rs := [11]) (by kernel_rfl) (by decide) ?_
            refine ⟨⟨_, rfl, .inl rfl, ?_⟩, trivial⟩
            refine OpE.callT' (k + 1 + 8 * q + 1 + 1 + 1 + 1) rfl rfl hB rfl Tryz.call38 rfl (pick_X (by rfl) (by decide) (by decide) (by repeat (first | exact AllX.nil | refine AllX.cons ?_))) (by omega) ?_
            rintro _ ⟨r85, rfl⟩
            refine VA.take (i := 12) rfl (by kernel_rfl) (by kernel_rfl) (by kernel_rfl) rfl rfl (OpV.nilCheck rfl rfl) ?_
            refine VA.take (i := 13) rfl (by kernel_rfl) (by kernel_rfl) (by kernel_rfl) rfl rfl (OpV.fieldAddrO 0 rfl Tryz.underlying106 rfl rfl Tryz.sizeOf9 rfl) ?_
            refine VA.all (rs := [14]) (by kernel_rfl) (by decide) ?_
            refine ⟨⟨_, rfl, .inl rfl, ?_⟩, trivial⟩
            refine OpE.store1 (i := 0) rfl hB rfl Tryz.sizeOf9 rfl rfl rfl rfl rfl rfl (rowL_in rfl (by omega) (by decide)) (rowL_set (x := ({l.getD m default with key := r78} : MR)) rfl (by omega) (by decide) rfl (ne5_0 rfl rfl rfl rfl)) (by first | exact ⟨rfl, rfl⟩ | exact .inl ⟨rfl, rfl⟩ | exact .inr ⟨rfl, rfl⟩ | exact ⟨rfl, trivial⟩ | exact .inl ⟨rfl, trivial⟩ | exact .inr ⟨rfl, trivial⟩ | exact ⟨by decide, rfl⟩) ?_
            refine VA.take (i := 15) rfl (by kernel_rfl) (by kernel_rfl) (by kernel_rfl) rfl rfl (OpV.nilCheck rfl rfl) ?_
            refine VA.take (i := 16) rfl (by kernel_rfl) (by kernel_rfl) (by kernel_rfl) rfl rfl (OpV.fieldAddrO 3 rfl Tryz.underlying106 rfl rfl Tryz.sizeOf3 rfl) ?_
            refine VA.all (rs := [17]) (by kernel_rfl) (by decide) ?_
            refine ⟨⟨_, rfl, .inl rfl, ?_⟩, trivial⟩
            refine OpE.store1 (i := 0) rfl hB rfl Tryz.sizeOf3 rfl rfl rfl rfl rfl rfl (rowL_in rfl (by rw [List.length_set]; omega) (by decide)) (rowL_set (x := ({l.getD m default with key := r78, feeders := r85} : MR)) rfl (by rw [List.length_set]; omega) (by decide) rfl (by rw [getD_set_self (by omega)]; exact ne5_3 rfl rfl rfl rfl)) (by first | exact ⟨rfl, rfl⟩ | exact .inl ⟨rfl, rfl⟩ | exact .inr ⟨rfl, rfl⟩ | exact ⟨rfl, trivial⟩ | exact .inl ⟨rfl, trivial⟩ | exact .inr ⟨rfl, trivial⟩ | exact ⟨by decide, rfl⟩) ?_
            refine VA.done (by kernel_rfl) ?_
            refine VC.sr ?_
            refine VO.mv rfl rfl rfl rfl ?_
            refine VO.ma rfl rfl rfl rfl ?_
            refine VO.nil ?_
            refine VC.le _ (Le.fam (t := 2) (l := (l.set m {l.getD m default with key := r78}).set m {l.getD m default with key := r78, feeders := r85}) hB hnew rfl (by simp) (.inr ⟨_, _, _, _, rfl, hcap, hmx, rfl⟩) (fun q hq => famAt' ((famSet (by rw [List.length_set]; omega) (by rw [getD_set_self (by omega)]; rfl)).trans (famSet (by omega) rfl)) hq)) ?_
            refine VC.ret ?_
            exact Exists.intro _ (And.intro (RetV.one Tryz.results8 (ResV.tmp rfl)) (And.intro (by first | exact ⟨_, ⟨MRok.small (by omega) (fun x hx => (hok x hx).six), by rw [List.length_map]; omega, by rw [List.length_map]; omega⟩, rfl⟩ | exact ⟨_, ⟨MRok.small (by simp; omega) (by rw [List.set_set]; exact MRok.set hok ⟨hr78, (MRok.getD hok (m := m) (by omega)).six.2⟩), by simp; omega, by simp; omega⟩, rfl⟩ | exact ⟨_, ⟨MRok.small (by simp; omega) (by rw [List.set_set]; exact MRok.set hok ⟨(MRok.getD hok (m := m) (by omega)).1, (MRok.getD hok (m := m) (by omega)).six.2⟩), by simp; omega, by simp; omega⟩, rfl⟩ | exact ⟨(l.set m {l.getD m default with b := b3, c := c3, can := (l.getD m default).can ++ [r67]}).map toM, ⟨MRok.small (by simp; omega) (MRok.set hok (m := m) (x := {l.getD m default with b := b3, c := c3, can := (l.getD m default).can ++ [r67]}) ⟨(MRok.getD hok (m := m) (by omega)).1, by show ((l.getD m default).can ++ [r67]).length ≤ 6; have := (MRok.getD hok (m := m) (by omega)).2.1; rw [List.length_append, List.length_singleton]; omega, fun y hy => by rcases List.mem_append.1 (show y ∈ (l.getD m default).can ++ [r67] from hy) with hy | hy; exact (MRok.getD hok (m := m) (by omega)).2.2 y hy; (rw [List.mem_singleton] at hy; subst hy; exact hr67)⟩), by simp; omega, by simp; omega⟩, rfl⟩) ((show k + 1 + 8 * q + 1 + 1 + 1 + 1 + 1 ≤ k + 60 by omega))))
          ·
            refine OpE.buildSlice (zc := #[.int .i64 0, .int .i64 0, .int .i64 0]) rfl hB rfl Tryz.underlying22 Tryz.sizeOf3 Tryz.zeroValue3 (by decide) (by decide) (by kernel_rfl) rfl rfl ?_
            refine VA.all (rs := [4]) (by kernel_rfl) (by decide) ?_
            refine ⟨⟨_, rfl, .inl rfl, ?_⟩, trivial⟩
            refine OpE.callT' (k + 1 + 8 * q + 1 + 1 + 1) rfl rfl hB rfl Tryz.call70 rfl (some_T 1000 (by rfl) (by decide) (by decide) (by repeat (first | exact AllS.nil | refine AllS.cons (by decide) ?_))) (by omega) ?_
            rintro _ ⟨r78, hr78, rfl⟩
            refine VA.all (rs := [11]) (by kernel_rfl) (by decide) ?_
            refine ⟨⟨_, rfl, .inl rfl, ?_⟩, trivial⟩
            refine OpE.callT' (k + 1 + 8 * q + 1 + 1 + 1 + 1) rfl rfl hB rfl Tryz.call38 rfl (pick_X (by rfl) (by decide) (by decide) (by repeat (first | exact AllX.nil | refine AllX.cons ?_))) (by omega) ?_
            rintro _ ⟨r85, rfl⟩
            refine VA.take (i := 12) rfl (by kernel_rfl) (by kernel_rfl) (by kernel_rfl) rfl rfl (OpV.nilCheck rfl rfl) ?_
            refine VA.take (i := 13) rfl (by kernel_rfl) (by kernel_rfl) (by kernel_rfl) rfl rfl (OpV.fieldAddrO 0 rfl Tryz.underlying106 rfl rfl Tryz.sizeOf9 rfl) ?_
            refine VA.all (rs := [14]) (by kernel_rfl) (by decide) ?_
            refine ⟨⟨_, rfl, .inl rfl, ?_⟩, trivial⟩
            refine OpE.store1 (i := 0) rfl hB rfl Tryz.sizeOf9 rfl rfl rfl rfl rfl rfl (rowL_in rfl (by omega) (by decide)) (rowL_set (x := ({l.getD m default with key := r78} : MR)) rfl (by omega) (by decide) rfl (ne5_0 rfl rfl rfl rfl)) (by first | exact ⟨rfl, rfl⟩ | exact .inl ⟨rfl, rfl⟩ | exact .inr ⟨rfl, rfl⟩ | exact ⟨rfl, trivial⟩ | exact .inl ⟨rfl, trivial⟩ | exact .inr ⟨rfl, trivial⟩ | exact ⟨by decide, rfl⟩) ?_
            refine VA.take (i := 15) rfl (by kernel_rfl) (by kernel_rfl) (by kernel_rfl) rfl rfl (OpV.nilCheck rfl rfl) ?_
            refine VA.take (i := 16) rfl (by kernel_rfl) (by kernel_rfl) (by kernel_rfl) rfl rfl (OpV.fieldAddrO 3 rfl Tryz.underlying106 rfl rfl Tryz.sizeOf3 rfl) ?_
            refine VA.all (rs := [17]) (by kernel_rfl) (by decide) ?_
            refine ⟨⟨_, rfl, .inl rfl, ?_⟩, trivial⟩
            refine OpE.store1 (i := 0) rfl hB rfl Tryz.sizeOf3 rfl rfl rfl rfl rfl rfl (rowL_in rfl (by rw [List.length_set]; omega) (by decide)) (rowL_set (x := ({l.getD m default with key := r78, feeders := r85} : MR)) rfl (by rw [List.length_set]; omega) (by decide) rfl (by rw [getD_set_self (by omega)]; exact ne5_3 rfl rfl rfl rfl)) (by first | exact ⟨rfl, rfl⟩ | exact .inl ⟨rfl, rfl⟩ | exact .inr ⟨rfl, rfl⟩ | exact ⟨rfl, trivial⟩ | exact .inl ⟨rfl, trivial⟩ | exact .inr ⟨rfl, trivial⟩ | exact ⟨by decide, rfl⟩) ?_
            refine VA.done (by kernel_rfl) ?_
            refine VC.sr ?_
            refine VO.mv rfl rfl rfl rfl ?_
            refine VO.ma rfl rfl rfl rfl ?_
            refine VO.nil ?_
            refine VC.le _ (Le.fam (t := 2) (l := (l.set m {l.getD m default with key := r78}).set m {l.getD m default with key := r78, feeders := r85}) hB hnew rfl (by simp) (.inr ⟨_, _, _, _, rfl, hcap, hmx, rfl⟩) (fun q hq => famAt' ((famSet (by rw [List.length_set]; omega) (by rw [getD_set_self (by omega)]; rfl)).trans (famSet (by omega) rfl)) hq)) ?_
            refine VC.ret ?_
            exact Exists.intro _ (And.intro (RetV.one Tryz.results8 (ResV.tmp rfl)) (And.intro (by first | exact ⟨_, ⟨MRok.small (by omega) (fun x hx => (hok x hx).six), by rw [List.length_map]; omega, by rw [List.length_map]; omega⟩, rfl⟩ | exact ⟨_, ⟨MRok.small (by simp; omega) (by rw [List.set_set]; exact MRok.set hok ⟨hr78, (MRok.getD hok (m := m) (by omega)).six.2⟩), by simp; omega, by simp; omega⟩, rfl⟩ | exact ⟨_, ⟨MRok.small (by simp; omega) (by rw [List.set_set]; exact MRok.set hok ⟨(MRok.getD hok (m := m) (by omega)).1, (MRok.getD hok (m := m) (by omega)).six.2⟩), by simp; omega, by simp; omega⟩, rfl⟩ | exact ⟨(l.set m {l.getD m default with b := b3, c := c3, can := (l.getD m default).can ++ [r67]}).map toM, ⟨MRok.small (by simp; omega) (MRok.set hok (m := m) (x := {l.getD m default with b := b3, c := c3, can := (l.getD m default).can ++ [r67]}) ⟨(MRok.getD hok (m := m) (by omega)).1, by show ((l.getD m default).can ++ [r67]).length ≤ 6; have := (MRok.getD hok (m := m) (by omega)).2.1; rw [List.length_append, List.length_singleton]; omega, fun y hy => by rcases List.mem_append.1 (show y ∈ (l.getD m default).can ++ [r67] from hy) with hy | hy; exact (MRok.getD hok (m := m) (by omega)).2.2 y hy; (rw [List.mem_singleton] at hy; subst hy; exact hr67)⟩), by simp; omega, by simp; omega⟩, rfl⟩) ((show k + 1 + 8 * q + 1 + 1 + 1 + 1 + 1 ≤ k + 60 by omega))))
        ·
          refine OpE.buildSlice (zc := #[.int .i64 0, .int .i64 0, .int .i64 0]) rfl hB rfl Tryz.underlying22 Tryz.sizeOf3 Tryz.zeroValue3 (by decide) (by decide) (by kernel_rfl) rfl rfl ?_
          refine VA.all (rs := [3]) (by kernel_rfl) (by decide) ?_
          refine ⟨⟨_, rfl, .inl rfl, ?_⟩, trivial⟩
          refine OpE.buildSlice (zc := #[.string ⟨#[]⟩, .string ⟨#[]⟩, .string ⟨#[]⟩]) rfl hB rfl Tryz.underlying40 Tryz.sizeOf9 Tryz.zeroValue9 (by decide) (by decide) (by kernel_rfl) rfl rfl ?_
          refine VA.all (rs := [4]) (by kernel_rfl) (by decide) ?_
          refine ⟨⟨_, rfl, .inl rfl, ?_⟩, trivial⟩
          refine OpE.callT' (k + 1 + 8 * q + 1 + 1 + 1) rfl rfl hB rfl Tryz.call70 rfl (some_T 1000 (by rfl) (by decide) (by decide) (by repeat (first | exact AllS.nil | refine AllS.cons (by decide) ?_))) (by omega) ?_
          rintro _ ⟨r78, hr78, rfl⟩
          refine VA.all (rs := [11]) (by kernel_rfl) (by decide) ?_
          refine ⟨⟨_, rfl, .inl rfl, ?_⟩, trivial⟩
          refine OpE.callT' (k + 1 + 8 * q + 1 + 1 + 1 + 1) rfl rfl hB rfl Tryz.call38 rfl (pick_X (by rfl) (by decide) (by decide) (by repeat (first | exact AllX.nil | refine AllX.cons ?_))) (by omega) ?_
          rintro _ ⟨r85, rfl⟩
          refine VA.take (i := 12) rfl (by kernel_rfl) (by kernel_rfl) (by kernel_rfl) rfl rfl (OpV.nilCheck rfl rfl) ?_
          refine VA.take (i := 13) rfl (by kernel_rfl) (by kernel_rfl) (by kernel_rfl) rfl rfl (OpV.fieldAddrO 0 rfl Tryz.underlying106 rfl rfl Tryz.sizeOf9 rfl) ?_
          refine VA.all (rs := [14]) (by kernel_rfl) (by decide) ?_
          refine ⟨⟨_, rfl, .inl rfl, ?_⟩, trivial⟩
          refine OpE.store1 (i := 0) rfl hB rfl Tryz.sizeOf9 rfl rfl rfl rfl rfl rfl (rowL_in rfl (by omega) (by decide)) (rowL_set (x := ({l.getD m default with key := r78} : MR)) rfl (by omega) (by decide) rfl (ne5_0 rfl rfl rfl rfl)) (by first | exact ⟨rfl, rfl⟩ | exact .inl ⟨rfl, rfl⟩ | exact .inr ⟨rfl, rfl⟩ | exact ⟨rfl, trivial⟩ | exact .inl ⟨rfl, trivial⟩ | exact .inr ⟨rfl, trivial⟩ | exact ⟨by decide, rfl⟩) ?_
          refine VA.take (i := 15) rfl (by kernel_rfl) (by kernel_rfl) (by kernel_rfl) rfl rfl (OpV.nilCheck rfl rfl) ?_
          refine VA.take (i := 16) rfl (by kernel_rfl) (by kernel_rfl) (by kernel_rfl) rfl rfl (OpV.fieldAddrO 3 rfl Tryz.underlying106 rfl rfl Tryz.sizeOf3 rfl) ?_
          refine VA.all (rs := [17]) (by kernel_rfl) (by decide) ?_
          refine ⟨⟨_, rfl, .inl rfl, ?_⟩, trivial⟩
          refine OpE.store1 (i := 0) rfl hB rfl Tryz.sizeOf3 rfl rfl rfl rfl rfl rfl (rowL_in rfl (by rw [List.length_set]; omega) (by decide)) (rowL_set (x := ({l.getD m default with key := r78, feeders := r85} : MR)) rfl (by rw [List.length_set]; omega) (by decide) rfl (by rw [getD_set_self (by omega)]; exact ne5_3 rfl rfl rfl rfl)) (by first | exact ⟨rfl, rfl⟩ | exact .inl ⟨rfl, rfl⟩ | exact .inr ⟨rfl, rfl⟩ | exact ⟨rfl, trivial⟩ | exact .inl ⟨rfl, trivial⟩ | exact .inr ⟨rfl, trivial⟩ | exact ⟨by decide, rfl⟩) ?_
          refine VA.done (by kernel_rfl) ?_
          refine VC.sr ?_
          refine VO.mv rfl rfl rfl rfl ?_
          refine VO.ma rfl rfl rfl rfl ?_
          refine VO.nil ?_
          refine VC.le _ (Le.fam (t := 2) (l := (l.set m {l.getD m default with key := r78}).set m {l.getD m default with key := r78, feeders := r85}) hB hnew rfl (by simp) (.inr ⟨_, _, _, _, rfl, hcap, hmx, rfl⟩) (fun q hq => famAt' ((famSet (by rw [List.length_set]; omega) (by rw [getD_set_self (by omega)]; rfl)).trans (famSet (by omega) rfl)) hq)) ?_
          refine VC.ret ?_
          exact Exists.intro _ (And.intro (RetV.one Tryz.results8 (ResV.tmp rfl)) (And.intro (by first | exact ⟨_, ⟨MRok.small (by omega) (fun x hx => (hok x hx).six), by rw [List.length_map]; omega, by rw [List.length_map]; omega⟩, rfl⟩ | exact ⟨_, ⟨MRok.small (by simp; omega) (by rw [List.set_set]; exact MRok.set hok ⟨hr78, (MRok.getD hok (m := m) (by omega)).six.2⟩), by simp; omega, by simp; omega⟩, rfl⟩ | exact ⟨_, ⟨MRok.small (by simp; omega) (by rw [List.set_set]; exact MRok.set hok ⟨(MRok.getD hok (m := m) (by omega)).1, (MRok.getD hok (m := m) (by omega)).six.2⟩), by simp; omega, by simp; omega⟩, rfl⟩ | exact ⟨(l.set m {l.getD m default with b := b3, c := c3, can := (l.getD m default).can ++ [r67]}).map toM, ⟨MRok.small (by simp; omega) (MRok.set hok (m := m) (x := {l.getD m default with b := b3, c := c3, can := (l.getD m default).can ++ [r67]}) ⟨(MRok.getD hok (m := m) (by omega)).1, by show ((l.getD m default).can ++ [r67]).length ≤ 6; have := (MRok.getD hok (m := m) (by omega)).2.1; rw [List.length_append, List.length_singleton]; omega, fun y hy => by rcases List.mem_append.1 (show y ∈ (l.getD m default).can ++ [r67] from hy) with hy | hy; exact (MRok.getD hok (m := m) (by omega)).2.2 y hy; (rw [List.mem_singleton] at hy; subst hy; exact hr67)⟩), by simp; omega, by simp; omega⟩, rfl⟩) ((show k + 1 + 8 * q + 1 + 1 + 1 + 1 + 1 ≤ k + 60 by omega))))
      · have aH5 := aH5b
        try simp only [qqT, qqF, qqN, qqM, qqL, qqE] at aH5
        refine VC.sr ?_
        refine VO.val rfl rfl (OpV.eql rfl rfl rfl) ?_
        refine VO.ma rfl rfl rfl rfl ?_
        refine VO.nil ?_
        refine VC.cond rfl (fun aH6b => ?_) (fun aH6b => ?_)
        · have aH6 := aH6b
          try simp only [qqT, qqF, qqN, qqM, qqL, qqE] at aH6
          refine VC.draw (fun j b => (j = 14 ∧ b = g) ∨ (j = 17 ∧ b = g)) hB (by kernel_rfl) ?_
          refine VA.take (i := 0) rfl (by kernel_rfl) (by kernel_rfl) (by kernel_rfl) rfl rfl (OpV.move (.inl rfl) rfl) ?_
          refine VA.take (i := 1) rfl (by kernel_rfl) (by kernel_rfl) (by kernel_rfl) rfl rfl (OpV.move (.inl rfl) rfl) ?_
          refine VA.take (i := 2) rfl (by kernel_rfl) (by kernel_rfl) (by kernel_rfl) rfl rfl (OpV.move (.inl rfl) rfl) ?_
          refine VA.take (i := 5) rfl (by kernel_rfl) (by kernel_rfl) (by kernel_rfl) rfl rfl (OpV.move (.inl rfl) rfl) ?_
          refine VA.take (i := 6) rfl (by kernel_rfl) (by kernel_rfl) (by kernel_rfl) rfl rfl (OpV.move (.inl rfl) rfl) ?_
          refine VA.take (i := 7) rfl (by kernel_rfl) (by kernel_rfl) (by kernel_rfl) rfl rfl (OpV.nilCheck rfl rfl) ?_
          refine VA.take (i := 8) rfl (by kernel_rfl) (by kernel_rfl) (by kernel_rfl) rfl rfl (OpV.fieldAddrO 2 rfl Tryz.underlying106 rfl rfl Tryz.sizeOf3 rfl) ?_
          refine VA.take (i := 9) rfl (by kernel_rfl) (by kernel_rfl) (by kernel_rfl) rfl rfl (OpV.load_own (i := 0) rfl hB Tryz.isAgg3 rfl rfl (rowL_at rfl (by omega) (by decide)) (by first | exact Wi.not1 (by kernel_rfl) | exact Wi.not2 (by kernel_rfl) (by kernel_rfl) | exact Wi.notX (by kernel_rfl))) ?_
          refine VA.all (rs := [3, 10]) (by kernel_rfl) (by decide) ?_
          refine ⟨⟨_, rfl, .inl rfl, ?_⟩, ⟨_, rfl, .inl rfl, ?_⟩, trivial⟩
          ·
            refine OpE.buildSlice (zc := #[.int .i64 0, .int .i64 0, .int .i64 0]) rfl hB rfl Tryz.underlying22 Tryz.sizeOf3 Tryz.zeroValue3 (by decide) (by decide) (by kernel_rfl) rfl rfl ?_
            refine VA.all (rs := [4, 10]) (by kernel_rfl) (by decide) ?_
            refine ⟨⟨_, rfl, .inl rfl, ?_⟩, ⟨_, rfl, .inl rfl, ?_⟩, trivial⟩
            ·
              refine OpE.callT' (k + 1 + 8 * q + 1 + 1 + 1) rfl rfl hB rfl Tryz.call38 rfl (pick_X (by rfl) (by decide) (by decide) (by repeat (first | exact AllX.nil | refine AllX.cons ?_))) (by omega) ?_
              rintro _ ⟨r96, rfl⟩
              refine VA.all (rs := [10]) (by kernel_rfl) (by decide) ?_
              refine ⟨⟨_, rfl, .inl rfl, ?_⟩, trivial⟩
              refine OpE.buildSlice (zc := #[.int .i64 0, .int .i64 0, .int .i64 0]) rfl hB rfl Tryz.underlying22 Tryz.sizeOf3 Tryz.zeroValue3 (by decide) (by decide) (by kernel_rfl) rfl rfl ?_
              refine VA.all (rs := [11]) (by kernel_rfl) (by decide) ?_
              refine ⟨⟨_, rfl, .inl rfl, ?_⟩, trivial⟩
              refine OpE.callT' (k + 1 + 8 * q + 1 + 1 + 1 + 1) rfl rfl hB rfl Tryz.call38 rfl (pick_X (by rfl) (by decide) (by decide) (by repeat (first | exact AllX.nil | refine AllX.cons ?_))) (by omega) ?_
              rintro _ ⟨r103, rfl⟩
              refine VA.take (i := 12) rfl (by kernel_rfl) (by kernel_rfl) (by kernel_rfl) rfl rfl (OpV.nilCheck rfl rfl) ?_
              refine VA.take (i := 13) rfl (by kernel_rfl) (by kernel_rfl) (by kernel_rfl) rfl rfl (OpV.fieldAddrO 1 rfl Tryz.underlying106 rfl rfl Tryz.sizeOf3 rfl) ?_
              refine VA.all (rs := [14]) (by kernel_rfl) (by decide) ?_
              refine ⟨⟨_, rfl, .inl rfl, ?_⟩, trivial⟩
              refine OpE.store1 (i := 0) rfl hB rfl Tryz.sizeOf3 rfl rfl rfl rfl rfl rfl (rowL_in rfl (by omega) (by decide)) (rowL_set (x := ({l.getD m default with each := r96} : MR)) rfl (by omega) (by decide) rfl (ne5_1 rfl rfl rfl rfl)) (by first | exact ⟨rfl, rfl⟩ | exact .inl ⟨rfl, rfl⟩ | exact .inr ⟨rfl, rfl⟩ | exact ⟨rfl, trivial⟩ | exact .inl ⟨rfl, trivial⟩ | exact .inr ⟨rfl, trivial⟩ | exact ⟨by decide, rfl⟩) ?_
              refine VA.take (i := 15) rfl (by kernel_rfl) (by kernel_rfl) (by kernel_rfl) rfl rfl (OpV.nilCheck rfl rfl) ?_
              refine VA.take (i := 16) rfl (by kernel_rfl) (by kernel_rfl) (by kernel_rfl) rfl rfl (OpV.fieldAddrO 2 rfl Tryz.underlying106 rfl rfl Tryz.sizeOf3 rfl) ?_
              refine VA.all (rs := [17]) (by kernel_rfl) (by decide) ?_
              refine ⟨⟨_, rfl, .inl rfl, ?_⟩, trivial⟩
              refine OpE.store1 (i := 0) rfl hB rfl Tryz.sizeOf3 rfl rfl rfl rfl rfl rfl (rowL_in rfl (by rw [List.length_set]; omega) (by decide)) (rowL_set (x := ({l.getD m default with each := r96, fixed := r103} : MR)) rfl (by rw [List.length_set]; omega) (by decide) rfl (by rw [getD_set_self (by omega)]; exact ne5_2 rfl rfl rfl rfl)) (by first | exact ⟨rfl, rfl⟩ | exact .inl ⟨rfl, rfl⟩ | exact .inr ⟨rfl, rfl⟩ | exact ⟨rfl, trivial⟩ | exact .inl ⟨rfl, trivial⟩ | exact .inr ⟨rfl, trivial⟩ | exact ⟨by decide, rfl⟩) ?_
              refine VA.done (by kernel_rfl) ?_
              refine VC.sr ?_
              refine VO.mv rfl rfl rfl rfl ?_
              refine VO.ma rfl rfl rfl rfl ?_
              refine VO.nil ?_
              refine VC.le _ (Le.fam (t := 2) (l := (l.set m {l.getD m default with each := r96}).set m {l.getD m default with each := r96, fixed := r103}) hB hnew rfl (by simp) (.inr ⟨_, _, _, _, rfl, hcap, hmx, rfl⟩) (fun q hq => famAt' ((famSet (by rw [List.length_set]; omega) (by rw [getD_set_self (by omega)]; rfl)).trans (famSet (by omega) rfl)) hq)) ?_
              refine VC.ret ?_
              exact Exists.intro _ (And.intro (RetV.one Tryz.results8 (ResV.tmp rfl)) (And.intro (by first | exact ⟨_, ⟨MRok.small (by omega) (fun x hx => (hok x hx).six), by rw [List.length_map]; omega, by rw [List.length_map]; omega⟩, rfl⟩ | exact ⟨_, ⟨MRok.small (by simp; omega) (by rw [List.set_set]; exact MRok.set hok ⟨hr78, (MRok.getD hok (m := m) (by omega)).six.2⟩), by simp; omega, by simp; omega⟩, rfl⟩ | exact ⟨_, ⟨MRok.small (by simp; omega) (by rw [List.set_set]; exact MRok.set hok ⟨(MRok.getD hok (m := m) (by omega)).1, (MRok.getD hok (m := m) (by omega)).six.2⟩), by simp; omega, by simp; omega⟩, rfl⟩ | exact ⟨(l.set m {l.getD m default with b := b3, c := c3, can := (l.getD m default).can ++ [r67]}).map toM, ⟨MRok.small (by simp; omega) (MRok.set hok (m := m) (x := {l.getD m default with b := b3, c := c3, can := (l.getD m default).can ++ [r67]}) ⟨(MRok.getD hok (m := m) (by omega)).1, by show ((l.getD m default).can ++ [r67]).length ≤ 6; have := (MRok.getD hok (m := m) (by omega)).2.1; rw [List.length_append, List.length_singleton]; omega, fun y hy => by rcases List.mem_append.1 (show y ∈ (l.getD m default).can ++ [r67] from hy) with hy | hy; exact (MRok.getD hok (m := m) (by omega)).2.2 y hy; (rw [List.mem_singleton] at hy; subst hy; exact hr67)⟩), by simp; omega, by simp; omega⟩, rfl⟩) ((show k + 1 + 8 * q + 1 + 1 + 1 + 1 + 1 ≤ k + 60 by omega))))
            ·
              refine OpE.buildSlice (zc := #[.int .i64 0, .int .i64 0, .int .i64 0]) rfl hB rfl Tryz.underlying22 Tryz.sizeOf3 Tryz.zeroValue3 (by decide) (by decide) (by kernel_rfl) rfl rfl ?_
              refine VA.all (rs := [4]) (by kernel_rfl) (by decide) ?_
              refine ⟨⟨_, rfl, .inl rfl, ?_⟩, trivial⟩
              refine OpE.callT' (k + 1 + 8 * q + 1 + 1 + 1) rfl rfl hB rfl Tryz.call38 rfl (pick_X (by rfl) (by decide) (by decide) (by repeat (first | exact AllX.nil | refine AllX.cons ?_))) (by omega) ?_
              rintro _ ⟨r96, rfl⟩
              refine VA.all (rs := [11]) (by kernel_rfl) (by decide) ?_
              refine ⟨⟨_, rfl, .inl rfl, ?_⟩, trivial⟩
              refine OpE.callT' (k + 1 + 8 * q + 1 + 1 + 1 + 1) rfl rfl hB rfl Tryz.call38 rfl (pick_X (by rfl) (by decide) (by decide) (by repeat (first | exact AllX.nil | refine AllX.cons ?_))) (by omega) ?_
              rintro _ ⟨r103, rfl⟩
              refine VA.take (i := 12) rfl (by kernel_rfl) (by kernel_rfl) (by kernel_rfl) rfl rfl (OpV.nilCheck rfl rfl) ?_
              refine VA.take (i := 13) rfl (by kernel_rfl) (by kernel_rfl) (by kernel_rfl) rfl rfl (OpV.fieldAddrO 1 rfl Tryz.underlying106 rfl rfl Tryz.sizeOf3 rfl) ?_
              refine VA.all (rs := [14]) (by kernel_rfl) (by decide) ?_
              refine ⟨⟨_, rfl, .inl rfl, ?_⟩, trivial⟩
              refine OpE.store1 (i := 0) rfl hB rfl Tryz.sizeOf3 rfl rfl rfl rfl rfl rfl (rowL_in rfl (by omega) (by decide)) (rowL_set (x := ({l.getD m default with each := r96} : MR)) rfl (by omega) (by decide) rfl (ne5_1 rfl rfl rfl rfl)) (by first | exact ⟨rfl, rfl⟩ | exact .inl ⟨rfl, rfl⟩ | exact .inr ⟨rfl, rfl⟩ | exact ⟨rfl, trivial⟩ | exact .inl ⟨rfl, trivial⟩ | exact .inr ⟨rfl, trivial⟩ | exact ⟨by decide, rfl⟩) ?_
              refine VA.take (i := 15) rfl (by kernel_rfl) (by kernel_rfl) (by kernel_rfl) rfl rfl (OpV.nilCheck rfl rfl) ?_
              refine VA.take (i := 16) rfl (by kernel_rfl) (by kernel_rfl) (by kernel_rfl) rfl rfl (OpV.fieldAddrO 2 rfl Tryz.underlying106 rfl rfl Tryz.sizeOf3 rfl) ?_
              refine VA.all (rs := [17]) (by kernel_rfl) (by decide) ?_
              refine ⟨⟨_, rfl, .inl rfl, ?_⟩, trivial⟩
              refine OpE.store1 (i := 0) rfl hB rfl Tryz.sizeOf3 rfl rfl rfl rfl rfl rfl (rowL_in rfl (by rw [List.length_set]; omega) (by decide)) (rowL_set (x := ({l.getD m default with each := r96, fixed := r103} : MR)) rfl (by rw [List.length_set]; omega) (by decide) rfl (by rw [getD_set_self (by omega)]; exact ne5_2 rfl rfl rfl rfl)) (by first | exact ⟨rfl, rfl⟩ | exact .inl ⟨rfl, rfl⟩ | exact .inr ⟨rfl, rfl⟩ | exact ⟨rfl, trivial⟩ | exact .inl ⟨rfl, trivial⟩ | exact .inr ⟨rfl, trivial⟩ | exact ⟨by decide, rfl⟩) ?_
              refine VA.done (by kernel_rfl) ?_
              refine VC.sr ?_
              refine VO.mv rfl rfl rfl rfl ?_
              refine VO.ma rfl rfl rfl rfl ?_
              refine VO.nil ?_
              refine VC.le _ (Le.fam (t := 2) (l := (l.set m {l.getD m default with each := r96}).set m {l.getD m default with each := r96, fixed := r103}) hB hnew rfl (by simp) (.inr ⟨_, _, _, _, rfl, hcap, hmx, rfl⟩) (fun q hq => famAt' ((famSet (by rw [List.length_set]; omega) (by rw [getD_set_self (by omega)]; rfl)).trans (famSet (by omega) rfl)) hq)) ?_
              refine VC.ret ?_
              exact Exists.intro _ (And.intro (RetV.one Tryz.results8 (ResV.tmp rfl)) (And.intro (by first | exact ⟨_, ⟨MRok.small (by omega) (fun x hx => (hok x hx).six), by rw [List.length_map]; omega, by rw [List.length_map]; omega⟩, rfl⟩ | exact ⟨_, ⟨MRok.small (by simp; omega) (by rw [List.set_set]; exact MRok.set hok ⟨hr78, (MRok.getD hok (m := m) (by omega)).six.2⟩), by simp; omega, by simp; omega⟩, rfl⟩ | exact ⟨_, ⟨MRok.small (by simp; omega) (by rw [List.set_set]; exact MRok.set hok ⟨(MRok.getD hok (m := m) (by omega)).1, (MRok.getD hok (m := m) (by omega)).six.2⟩), by simp; omega, by simp; omega⟩, rfl⟩ | exact ⟨(l.set m {l.getD m default with b := b3, c := c3, can := (l.getD m default).can ++ [r67]}).map toM, ⟨MRok.small (by simp; omega) (MRok.set hok (m := m) (x := {l.getD m default with b := b3, c := c3, can := (l.getD m default).can ++ [r67]}) ⟨(MRok.getD hok (m := m) (by omega)).1, by show ((l.getD m default).can ++ [r67]).length ≤ 6; have := (MRok.getD hok (m := m) (by omega)).2.1; rw [List.length_append, List.length_singleton]; omega, fun y hy => by rcases List.mem_append.1 (show y ∈ (l.getD m default).can ++ [r67] from hy) with hy | hy; exact (MRok.getD hok (m := m) (by omega)).2.2 y hy; (rw [List.mem_singleton] at hy; subst hy; exact hr67)⟩), by simp; omega, by simp; omega⟩, rfl⟩) ((show k + 1 + 8 * q + 1 + 1 + 1 + 1 + 1 ≤ k + 60 by omega))))
          ·
            refine OpE.buildSlice (zc := #[.int .i64 0, .int .i64 0, .int .i64 0]) rfl hB rfl Tryz.underlying22 Tryz.sizeOf3 Tryz.zeroValue3 (by decide) (by decide) (by kernel_rfl) rfl rfl ?_
            refine VA.all (rs := [3]) (by kernel_rfl) (by decide) ?_
            refine ⟨⟨_, rfl, .inl rfl, ?_⟩, trivial⟩
            refine OpE.buildSlice (zc := #[.int .i64 0, .int .i64 0, .int .i64 0]) rfl hB rfl Tryz.underlying22 Tryz.sizeOf3 Tryz.zeroValue3 (by decide) (by decide) (by kernel_rfl) rfl rfl ?_
            refine VA.all (rs := [4]) (by kernel_rfl) (by decide) ?_
            refine ⟨⟨_, rfl, .inl rfl, ?_⟩, trivial⟩
            refine OpE.callT' (k + 1 + 8 * q + 1 + 1 + 1) rfl rfl hB rfl Tryz.call38 rfl (pick_X (by rfl) (by decide) (by decide) (by repeat (first | exact AllX.nil | refine AllX.cons ?_))) (by omega) ?_
            rintro _ ⟨r96, rfl⟩
            refine VA.all (rs := [11]) (by kernel_rfl) (by decide) ?_
            refine ⟨⟨_, rfl, .inl rfl, ?_⟩, trivial⟩
            refine OpE.callT' (k + 1 + 8 * q + 1 + 1 + 1 + 1) rfl rfl hB rfl Tryz.call38 rfl (pick_X (by rfl) (by decide) (by decide) (by repeat (first | exact AllX.nil | refine AllX.cons ?_))) (by omega) ?_
            rintro _ ⟨r103, rfl⟩
            refine VA.take (i := 12) rfl (by kernel_rfl) (by kernel_rfl) (by kernel_rfl) rfl rfl (OpV.nilCheck rfl rfl) ?_
            refine VA.take (i := 13) rfl (by kernel_rfl) (by kernel_rfl) (by kernel_rfl) rfl rfl (OpV.fieldAddrO 1 rfl Tryz.underlying106 rfl rfl Tryz.sizeOf3 rfl) ?_
            refine VA.all (rs := [14]) (by kernel_rfl) (by decide) ?_
            refine ⟨⟨_, rfl, .inl rfl, ?_⟩, trivial⟩
            refine OpE.store1 (i := 0) rfl hB rfl Tryz.sizeOf3 rfl rfl rfl rfl rfl rfl (rowL_in rfl (by omega) (by decide)) (rowL_set (x := ({l.getD m default with each := r96} : MR)) rfl (by omega) (by decide) rfl (ne5_1 rfl rfl rfl rfl)) (by first | exact ⟨rfl, rfl⟩ | exact .inl ⟨rfl, rfl⟩ | exact .inr ⟨rfl, rfl⟩ | exact ⟨rfl, trivial⟩ | exact .inl ⟨rfl, trivial⟩ | exact .inr ⟨rfl, trivial⟩ | exact ⟨by decide, rfl⟩) ?_
            refine VA.take (i := 15) rfl (by kernel_rfl) (by kernel_rfl) (by kernel_rfl) rfl rfl (OpV.nilCheck rfl rfl) ?_
            refine VA.take (i := 16) rfl (by kernel_rfl) (by kernel_rfl) (by kernel_rfl) rfl rfl (OpV.fieldAddrO 2 rfl Tryz.underlying106 rfl rfl Tryz.sizeOf3 rfl) ?_
            refine VA.all (rs := [17]) (by kernel_rfl) (by decide) ?_
            refine ⟨⟨_, rfl, .inl rfl, ?_⟩, trivial⟩
            refine OpE.store1 (i := 0) rfl hB rfl Tryz.sizeOf3 rfl rfl rfl rfl rfl rfl (rowL_in rfl (by rw [List.length_set]; omega) (by decide)) (rowL_set (x := ({l.getD m default with each := r96, fixed := r103} : MR)) rfl (by rw [List.length_set]; omega) (by decide) rfl (by rw [getD_set_self (by omega)]; exact ne5_2 rfl rfl rfl rfl)) (by first | exact ⟨rfl, rfl⟩ | exact .inl ⟨rfl, rfl⟩ | exact .inr ⟨rfl, rfl⟩ | exact ⟨rfl, trivial⟩ | exact .inl ⟨rfl, trivial⟩ | exact .inr ⟨rfl, trivial⟩ | exact ⟨by decide, rfl⟩) ?_
            refine VA.done (by kernel_rfl) ?_
            refine VC.sr ?_
            refine VO.mv rfl rfl rfl rfl ?_
            refine VO.ma rfl rfl rfl rfl ?_
            refine VO.nil ?_
            refine VC.le _ (Le.fam (t := 2) (l := (l.set m {l.getD m default with each := r96}).set m {l.getD m default with each := r96, fixed := r103}) hB hnew rfl (by simp) (.inr ⟨_, _, _, _, rfl, hcap, hmx, rfl⟩) (fun q hq => famAt' ((famSet (by rw [List.length_set]; omega) (by rw [getD_set_self (by omega)]; rfl)).trans (famSet (by omega) rfl)) hq)) ?_
            refine VC.ret ?_
            exact Exists.intro _ (And.intro (RetV.one Tryz.results8 (ResV.tmp rfl)) (And.intro (by first | exact ⟨_, ⟨MRok.small (by omega) (fun x hx => (hok x hx).six), by rw [List.length_map]; omega, by rw [List.length_map]; omega⟩, rfl⟩ | exact ⟨_, ⟨MRok.small (by simp; omega) (by rw [List.set_set]; exact MRok.set hok ⟨hr78, (MRok.getD hok (m := m) (by omega)).six.2⟩), by simp; omega, by simp; omega⟩, rfl⟩ | exact ⟨_, ⟨MRok.small (by simp; omega) (by rw [List.set_set]; exact MRok.set hok ⟨(MRok.getD hok (m := m) (by omega)).1, (MRok.getD hok (m := m) (by omega)).six.2⟩), by simp; omega, by simp; omega⟩, rfl⟩ | exact ⟨(l.set m {l.getD m default with b := b3, c := c3, can := (l.getD m default).can ++ [r67]}).map toM, ⟨MRok.small (by simp; omega) (MRok.set hok (m := m) (x := {l.getD m default with b := b3, c := c3, can := (l.getD m default).can ++ [r67]}) ⟨(MRok.getD hok (m := m) (by omega)).1, by show ((l.getD m default).can ++ [r67]).length ≤ 6; have := (MRok.getD hok (m := m) (by omega)).2.1; rw [List.length_append, List.length_singleton]; omega, fun y hy => by rcases List.mem_append.1 (show y ∈ (l.getD m default).can ++ [r67] from hy) with hy | hy; exact (MRok.getD hok (m := m) (by omega)).2.2 y hy; (rw [List.mem_singleton] at hy; subst hy; exact hr67)⟩), by simp; omega, by simp; omega⟩, rfl⟩) ((show k + 1 + 8 * q + 1 + 1 + 1 + 1 + 1 ≤ k + 60 by omega))))
        · have aH6 := aH6b
          try simp only [qqT, qqF, qqN, qqM, qqL, qqE] at aH6
          refine VC.draw (fun j b => (j = 9 ∧ (l.getD m default).val.ownBlock = some b) ∨ (j = 12 ∧ b = g)) hB (by kernel_rfl) ?_
          refine VA.take (i := 0) rfl (by kernel_rfl) (by kernel_rfl) (by kernel_rfl) rfl rfl (OpV.move (.inl rfl) rfl) ?_
          refine VA.take (i := 1) rfl (by kernel_rfl) (by kernel_rfl) (by kernel_rfl) rfl rfl (OpV.move (.inl rfl) rfl) ?_
          refine VA.take (i := 2) rfl (by kernel_rfl) (by kernel_rfl) (by kernel_rfl) rfl rfl (OpV.nilCheck rfl rfl) ?_
          refine VA.take (i := 3) rfl (by kernel_rfl) (by kernel_rfl) (by kernel_rfl) rfl rfl (OpV.fieldAddrO 4 rfl Tryz.underlying106 rfl rfl Tryz.sizeOf40 rfl) ?_
          refine VA.take (i := 4) rfl (by kernel_rfl) (by kernel_rfl) (by kernel_rfl) rfl rfl (OpV.load_own (i := 0) rfl hB Tryz.isAgg40 rfl rfl (rowL_at rfl (by omega) (by decide)) (by first | exact Wi.not1 (by kernel_rfl) | exact Wi.not2 (by kernel_rfl) (by kernel_rfl) | exact Wi.notX (by kernel_rfl))) ?_
          refine VA.take (i := 5) rfl (by kernel_rfl) (by kernel_rfl) (by kernel_rfl) rfl rfl (OpV.move (.inl rfl) rfl) ?_
          refine VA.all (rs := [6]) (by kernel_rfl) (by decide) ?_
          refine ⟨⟨_, rfl, .inl rfl, ?_⟩, trivial⟩
          refine OpE.buildSlice (zc := #[.string ⟨#[]⟩, .string ⟨#[]⟩, .string ⟨#[]⟩]) rfl hB rfl Tryz.underlying40 Tryz.sizeOf9 Tryz.zeroValue9 (by decide) (by decide) (by kernel_rfl) rfl rfl ?_
          refine VA.all (rs := [7]) (by kernel_rfl) (by decide) ?_
          refine ⟨⟨_, rfl, .inl rfl, ?_⟩, trivial⟩
          refine OpE.callT' (k + 1 + 8 * q + 1 + 1 + 1) rfl rfl hB rfl Tryz.call70 rfl (some_T 1000 (by rfl) (by decide) (by decide) (by repeat (first | exact AllS.nil | refine AllS.cons (by decide) ?_))) (by omega) ?_
          rintro _ ⟨r67, hr67, rfl⟩
          refine VA.all (rs := [8]) (by kernel_rfl) (by decide) ?_
          refine ⟨⟨_, rfl, .inl rfl, ?_⟩, trivial⟩
          refine OpE.buildSlice (zc := #[.string ⟨#[]⟩]) rfl hB rfl Tryz.underlying40 Tryz.sizeOf9 Tryz.zeroValue9 (by decide) (by decide) (by kernel_rfl) rfl rfl ?_
          refine VA.all (rs := [9]) (by kernel_rfl) (by decide) ?_
          refine ⟨⟨_, rfl, .inl rfl, ?_⟩, trivial⟩
          refine OpE.append1S (i := m + 1) rfl hB rfl Tryz.underlying40 (infoOf Tryz.t9 1 (by kernel_rfl) rfl rfl) rfl (by decide) (by decide) rfl (famAt (by omega)) rfl rfl (strsL_snoc _ _) (by have := (MRok.getD hok (m := m) (by omega)).2.1; omega) (fun _ h => .inl ⟨rfl, h⟩) ?_
          intro b3 c3
          refine VA.take (i := 10) rfl (by kernel_rfl) (by kernel_rfl) (by kernel_rfl) rfl rfl (OpV.nilCheck rfl rfl) ?_
          refine VA.take (i := 11) rfl (by kernel_rfl) (by kernel_rfl) (by kernel_rfl) rfl rfl (OpV.fieldAddrO 4 rfl Tryz.underlying106 rfl rfl Tryz.sizeOf40 rfl) ?_
          refine VA.all (rs := [12]) (by kernel_rfl) (by decide) ?_
          refine ⟨⟨_, rfl, .inl rfl, ?_⟩, trivial⟩
          refine OpE.store1 (i := 0) rfl hB rfl Tryz.sizeOf40 rfl rfl rfl rfl rfl rfl (rowL_in rfl (by omega) (by decide)) (rowL_set (x := ({l.getD m default with b := b3, c := c3, can := (l.getD m default).can ++ [r67]} : MR)) rfl (by omega) (by decide) (by show AV.v _ = AV.v _; rw [List.length_append]; rfl) (ne5_4 rfl rfl rfl rfl)) (by first | exact ⟨rfl, rfl⟩ | exact .inl ⟨rfl, rfl⟩ | exact .inr ⟨rfl, rfl⟩ | exact ⟨rfl, trivial⟩ | exact .inl ⟨rfl, trivial⟩ | exact .inr ⟨rfl, trivial⟩ | exact ⟨by decide, rfl⟩) ?_
          refine VA.done (by kernel_rfl) ?_
          refine VC.sr ?_
          refine VO.mv rfl rfl rfl rfl ?_
          refine VO.ma rfl rfl rfl rfl ?_
          refine VO.nil ?_
          refine VC.le _ (Le.fam (t := 2) (l := l.set m {l.getD m default with b := b3, c := c3, can := (l.getD m default).can ++ [r67]}) hB hnew rfl (by simp) (.inr ⟨_, _, _, _, rfl, hcap, hmx, rfl⟩) (fun q hq => famAt' (by rw [List.map_set]; unfold rowM; rw [List.length_append]; rfl) hq)) ?_
          refine VC.ret ?_
          exact Exists.intro _ (And.intro (RetV.one Tryz.results8 (ResV.tmp rfl)) (And.intro (by first | exact ⟨_, ⟨MRok.small (by omega) (fun x hx => (hok x hx).six), by rw [List.length_map]; omega, by rw [List.length_map]; omega⟩, rfl⟩ | exact ⟨_, ⟨MRok.small (by simp; omega) (by rw [List.set_set]; exact MRok.set hok ⟨hr78, (MRok.getD hok (m := m) (by omega)).six.2⟩), by simp; omega, by simp; omega⟩, rfl⟩ | exact ⟨_, ⟨MRok.small (by simp; omega) (by rw [List.set_set]; exact MRok.set hok ⟨(MRok.getD hok (m := m) (by omega)).1, (MRok.getD hok (m := m) (by omega)).six.2⟩), by simp; omega, by simp; omega⟩, rfl⟩ | exact ⟨(l.set m {l.getD m default with b := b3, c := c3, can := (l.getD m default).can ++ [r67]}).map toM, ⟨MRok.small (by simp; omega) (MRok.set hok (m := m) (x := {l.getD m default with b := b3, c := c3, can := (l.getD m default).can ++ [r67]}) ⟨(MRok.getD hok (m := m) (by omega)).1, by show ((l.getD m default).can ++ [r67]).length ≤ 6; have := (MRok.getD hok (m := m) (by omega)).2.1; rw [List.length_append, List.length_singleton]; omega, fun y hy => by rcases List.mem_append.1 (show y ∈ (l.getD m default).can ++ [r67] from hy) with hy | hy; exact (MRok.getD hok (m := m) (by omega)).2.2 y hy; (rw [List.mem_singleton] at hy; subst hy; exact hr67)⟩), by simp; omega, by simp; omega⟩, rfl⟩) ((show k + 1 + 8 * q + 1 + 1 + 1 + 1 ≤ k + 60 by omega))))
    · have aH4 := aH4b
      try simp only [qqT, qqF, qqN, qqM, qqL, qqE] at aH4
      refine VC.skip ?_
      refine VC.sr ?_
      refine VO.mv rfl rfl rfl rfl ?_
      refine VO.ma rfl rfl rfl rfl ?_
      refine VO.nil ?_
      refine VC.le _ (Le.fam (t := 2) (l := l) hB hnew rfl rfl (.inl ⟨_, rfl⟩) (fun q hq => famAt hq)) ?_
      refine VC.ret ?_
      exact Exists.intro _ (And.intro (RetV.one Tryz.results8 (ResV.tmp rfl)) (And.intro (by first | exact ⟨_, ⟨MRok.small (by omega) (fun x hx => (hok x hx).six), by rw [List.length_map]; omega, by rw [List.length_map]; omega⟩, rfl⟩ | exact ⟨_, ⟨MRok.small (by simp; omega) (by rw [List.set_set]; exact MRok.set hok ⟨hr78, (MRok.getD hok (m := m) (by omega)).six.2⟩), by simp; omega, by simp; omega⟩, rfl⟩ | exact ⟨_, ⟨MRok.small (by simp; omega) (by rw [List.set_set]; exact MRok.set hok ⟨(MRok.getD hok (m := m) (by omega)).1, (MRok.getD hok (m := m) (by omega)).six.2⟩), by simp; omega, by simp; omega⟩, rfl⟩ | exact ⟨(l.set m {l.getD m default with b := b3, c := c3, can := (l.getD m default).can ++ [r67]}).map toM, ⟨MRok.small (by simp; omega) (MRok.set hok (m := m) (x := {l.getD m default with b := b3, c := c3, can := (l.getD m default).can ++ [r67]}) ⟨(MRok.getD hok (m := m) (by omega)).1, by show ((l.getD m default).can ++ [r67]).length ≤ 6; have := (MRok.getD hok (m := m) (by omega)).2.1; rw [List.length_append, List.length_singleton]; omega, fun y hy => by rcases List.mem_append.1 (show y ∈ (l.getD m default).can ++ [r67] from hy) with hy | hy; exact (MRok.getD hok (m := m) (by omega)).2.2 y hy; (rw [List.mem_singleton] at hy; subst hy; exact hr67)⟩), by simp; omega, by simp; omega⟩, rfl⟩) ((show k + 1 + 8 * q + 1 ≤ k + 60 by omega))))
end Go.Proofs.YtemnnmohdpabhaaGreatDoor
namespace Go.Proofs.YtemnnmohdpabhaaGreatDoor
open Go.RowKit
set_option linter.unusedVariables false
set_option linter.unusedSimpArgs false
def mnyK (q : Nat) : ByteArray := ⟨#[97]⟩ ++ Utf8.encode (97 + (q : Int))
theorem mnyK_size (q : Nat) : (mnyK q).size ≤ 1000 := by
 unfold mnyK
 have := encode_small (97 + (q : Int))
 rw [ByteArray.size_append]
 have h1 : (⟨#[97]⟩ : ByteArray).size = 1 := rfl
 omega
def mnyC (n : Nat) : List ByteArray := (List.range n).map mnyK
theorem mnyC_len (n : Nat) : (mnyC n).length = n := by simp [mnyC]
theorem mnyC_succ (n : Nat) : mnyC n ++ [mnyK n] = mnyC (n + 1) := by simp [mnyC, List.range_succ]
def mnyM (can : List ByteArray) : List Mach := [⟨⟨#[109, 49]⟩, 1, 0, 20, can⟩, ⟨⟨#[109, 50]⟩, 2, 0, 3, can.take 4⟩]
theorem mnyC_get (n j : Nat) : ((mnyC n).getD j ByteArray.empty).size ≤ 1000 := by
 rw [List.getD_eq_getElem?_getD]
 cases hj : (mnyC n)[j]? with
 | none => decide
 | some x =>
  have := List.mem_of_getElem? hj
  unfold mnyC at this
  obtain ⟨q, _, rfl⟩ := List.mem_map.1 this
  exact mnyK_size q
theorem mnyM_small (n : Nat) (hn : n ≤ 100) : SmallM (mnyM (mnyC n)) := by
 refine ⟨by show 2 ≤ 1000000000; decide, fun i => ?_, fun i => ?_, fun i j => ?_⟩
 ·match i with
  | 0 => show ByteArray.size ⟨#[109, 49]⟩ ≤ _; decide
  | 1 => show ByteArray.size ⟨#[109, 50]⟩ ≤ _; decide
  | i + 2 => show (([] : List Mach).getD i default).key.size ≤ _; first | (simp; done) | (simp; decide)
 ·match i with
  | 0 => show (mnyC n).length ≤ _; rw [mnyC_len]; omega
  | 1 => show ((mnyC n).take 4).length ≤ _; rw [List.length_take]; omega
  | i + 2 => show (([] : List Mach).getD i default).can.length ≤ _; first | (simp; done) | (simp; decide)
 ·match i with
  | 0 => have := mnyC_get n j; show ((mnyC n).getD j ByteArray.empty).size ≤ _; omega
  | 1 =>
   show (((mnyC n).take 4).getD j ByteArray.empty).size ≤ _
   have := mnyC_get n j
   rw [List.getD_eq_getElem?_getD] at this ⊢
   rw [List.getElem?_take]
   split
   ·omega
   ·decide
  | i + 2 => show (([] : List ByteArray).getD j ByteArray.empty).size ≤ _; first | (simp; done) | (simp; decide)
theorem NOk.small2 {ns : List NeedS} (hl : ns.length ≤ 13) (h : ∀ x ∈ ns, x.key.size ≤ 1000) : SmallN ns := ⟨by omega, fun i => by
 rw [List.getD_eq_getElem?_getD]
 cases hi : ns[i]? with
 | none => decide
 | some x => have := h x (List.mem_of_getElem? hi); simp; omega⟩
set_option maxRecDepth 100000 in
theorem manyNeeds_T {p : Nat} {L : List Int}  :
  SpecT Tryz.prog (TT p L) (fun b => b = p) 11 [sp p] 30 (fun y => ∃ ms ns, (SmallM ms ∧ SmallN ns ∧ ns.length ≤ 13) ∧ y = .tup [avL ms, avL ns]) := by
 refine SpecT.of_VC Tryz.func11 rfl Tryz.ntmps11 (Nle rfl) (low := (fun b => b ≤ p)) (fun w A k h => h.ok) fun w A k hk hB => ?_
 have hnew : True := trivial
 refine VC.sr ?_
 refine VO.ma rfl rfl rfl rfl ?_
 refine VO.ma rfl rfl rfl rfl ?_
 refine VO.nil ?_
 refine VC.sr ?_
 refine VO.ma rfl rfl rfl rfl ?_
 refine VO.nil ?_
 refine VC.sr ?_
 refine VO.ma rfl rfl rfl rfl ?_
 refine VO.nil ?_
 refine VC.seq ?_
 refine VC.sr ?_
 refine VO.mv rfl rfl rfl rfl ?_
 refine VO.op rfl (OpE.callT' (k) rfl rfl hB rfl Tryz.call26 rfl ((range_T (by omega) (by omega) (by omega))) (by omega) ?_)
 rintro _ ⟨r9, hr9, rfl⟩
 obtain ⟨n, hn⟩ : ∃ n : Nat, 12 + r9 = n := ⟨(12 + r9).toNat, by omega⟩
 have hn13 : 12 ≤ n ∧ n ≤ 13 := by omega
 refine VO.val rfl rfl (OpV.add rfl rfl rfl (by unfold fits; omega)) ?_
 refine VO.le _ (Le.recast (t := 10) (y := avI (n : Int)) rfl (fun w Z u h => by rw [← hn]; exact h)) ?_
 refine VO.mv rfl rfl rfl rfl ?_
 refine VO.nil ?_
 refine VC.block ?_
 refine VC.le _ (Le.nilRow 1 9) ?_
 refine VC.le _ (Le.nilRow 2 111) ?_
 refine VC.loopK [(0, _), (10, _)] ⟨rfl, rfl, trivial⟩ ({z : (Value × Value) × List NeedS × Nat // z.2.2 ≤ n ∧ z.2.1.length = z.2.2 ∧ ∀ x ∈ z.2.1, x.key.size ≤ 1000}) (fun (iZ : {z : (Value × Value) × List NeedS × Nat // z.2.2 ≤ n ∧ z.2.1.length = z.2.2 ∧ ∀ x ∈ z.2.1, x.key.size ≤ 1000}) => match iZ with | ⟨⟨⟨un, uc⟩, ns, q⟩, hq, hl, hk⟩ => [(4, .v un), (5, .v uc), (11, avI (q : Int))]) (fun (iZ : {z : (Value × Value) × List NeedS × Nat // z.2.2 ≤ n ∧ z.2.1.length = z.2.2 ∧ ∀ x ∈ z.2.1, x.key.size ≤ 1000}) => match iZ with | ⟨⟨⟨un, uc⟩, ns, q⟩, hq, hl, hk⟩ => [.row uc (mnyC q).length 1 (strsL (mnyC q)) 9, .row un ns.length 2 (rowL ns) 111]) (fun (iZ : {z : (Value × Value) × List NeedS × Nat // z.2.2 ≤ n ∧ z.2.1.length = z.2.2 ∧ ∀ x ∈ z.2.1, x.key.size ≤ 1000}) => match iZ with | ⟨⟨⟨un, uc⟩, ns, q⟩, hq, hl, hk⟩ => k + 1 + 2 * q) (fun (iZ : {z : (Value × Value) × List NeedS × Nat // z.2.2 ≤ n ∧ z.2.1.length = z.2.2 ∧ ∀ x ∈ z.2.1, x.key.size ≤ 1000}) => match iZ with | ⟨⟨⟨un, uc⟩, ns, q⟩, hq, hl, hk⟩ => n - q) ⟨((.slice none 0 0, .slice none 0 0), [], 0), Nat.zero_le _, rfl, fun x h => by simp at h⟩ (Le.mk hB [0, 1] ⟨rfl, rfl, rfl, rfl, rfl, trivial⟩ rfl rfl (show k + 1 ≤ k + 1 + 2 * 0 by omega)) ?_
 rintro ⟨⟨⟨un, uc⟩, ns, q⟩, hq, hl, hk⟩
 show VC _ _ _ _ ⟨[(4, .v un), (5, .v uc), (11, avI (q : Int))] ++ [(0, _), (10, _)], [.row uc (mnyC q).length 1 (strsL (mnyC q)) 9, .row un ns.length 2 (rowL ns) 111], k + 1 + 2 * q⟩
 simp only at hq hl hk
 have hcl := mnyC_len q
 have hen := encode_small (97 + (q : Int))
 have h97 : (⟨#[97]⟩ : ByteArray).size = 1 := rfl
 refine VC.sr ?_
 refine VO.val rfl rfl (OpV.lss rfl rfl rfl) ?_
 refine VO.nil ?_
 refine VC.seq ?_
 refine VC.cond rfl (fun aH1b => ?_) (fun aH1b => ?_)
 ·have aH1 := aH1b
  try simp only [qqT, qqF, qqN, qqM, qqL, qqE] at aH1
  refine VC.skip ?_
  refine VC.seq ?_
  refine VC.block ?_
  refine VC.sr ?_
  refine VO.mv rfl rfl rfl rfl ?_
  refine VO.ma rfl rfl rfl rfl ?_
  refine VO.nil ?_
  refine VC.sr ?_
  refine VO.mv rfl rfl rfl rfl ?_
  refine VO.val rfl rfl (OpV.add rfl rfl rfl (by unfold fits; omega)) ?_
  refine VO.val rfl rfl (OpV.conv rfl Tryz.underlying3 Tryz.underlying21 rfl (by unfold IntKind.wrap; simp [IntKind.bits, IntKind.signed]; omega)) ?_
  refine VO.val rfl rfl (OpV.convStr rfl Tryz.underlying21 Tryz.underlying9 rfl) ?_
  refine VO.val rfl rfl (OpV.sadd rfl rfl rfl (by omega)) ?_
  refine VO.ma rfl rfl rfl rfl ?_
  refine VO.nil ?_
  refine VC.sr ?_
  refine VO.mv rfl rfl rfl rfl ?_
  refine VO.mv rfl rfl rfl rfl ?_
  refine VO.op rfl (OpE.buildSlice (zc := #[.string ⟨#[]⟩]) rfl hB rfl Tryz.underlying40 Tryz.sizeOf9 Tryz.zeroValue9 (by decide) (by decide) (by kernel_rfl) rfl rfl ?_)
  refine VO.op rfl (OpE.append1 (i := 0) rfl hB rfl Tryz.underlying40 (infoOf Tryz.t9 1 (by kernel_rfl) rfl rfl) rfl (by decide) (by decide) rfl rfl rfl rfl ((strsL_snoc _ _).trans (congrArg strsL (mnyC_succ q))) (by omega) (fun _ _ => trivial) ?_)
  intro u22
  refine VO.ma rfl rfl rfl rfl ?_
  refine VO.nil ?_
  refine VC.region ?_
  refine VO.mv rfl rfl rfl rfl ?_
  refine VO.mv rfl rfl rfl rfl ?_
  refine VO.mv rfl rfl rfl rfl ?_
  refine VO.op rfl (OpE.callT' (k + 1 + 2 * q) rfl rfl hB rfl Tryz.call26 rfl ((range_T (by omega) (by omega) (by omega))) (by omega) ?_)
  rintro _ ⟨r26, hr26, rfl⟩
  refine VO.val rfl rfl (OpV.build (pls := #[(0, 1), (1, 1)]) rfl Tryz.zeroValue111 Tryz.underlying111 (fun w => by kernel_rfl) rfl rfl) ?_
  refine VO.op rfl (OpE.buildSlice (zc := #[.string ⟨#[]⟩, .int .i64 0]) rfl hB rfl Tryz.underlying28 Tryz.sizeOf111 Tryz.zeroValue111 (by decide) (by decide) (by kernel_rfl) rfl rfl ?_)
  refine VO.op rfl (OpE.append1 (i := 1) rfl hB rfl Tryz.underlying28 (infoOf Tryz.t111 2 (by kernel_rfl) rfl rfl) rfl (by decide) (by decide) rfl rfl rfl rfl (rowL_snoc ns (⟨mnyK q, r26⟩ : NeedS)) (by omega) (fun _ _ => trivial) ?_)
  intro u29
  refine VO.ma rfl rfl rfl rfl ?_
  refine VO.nil ?_
  refine VC.region ?_
  refine VO.val rfl rfl (OpV.add rfl rfl rfl (by unfold fits; omega)) ?_
  refine VO.mv rfl rfl rfl rfl ?_
  refine VO.nil ?_
  exact Exists.intro (⟨((u29, u22), ns ++ [⟨mnyK q, r26⟩], q + 1), by show q + 1 ≤ n; omega, by show (ns ++ [_]).length = q + 1; simp; omega, fun x hx => by rcases List.mem_append.1 hx with hx | hx; exact hk x hx; (simp at hx; subst hx; exact mnyK_size _)⟩) (And.intro (Le.mk hB [0, 1] ⟨rfl, rfl, rfl, rfl, rfl, trivial⟩ rfl (by dsimp only; rw [List.length_append, mnyC_len, mnyC_len]; rfl) (show k + 1 + 2 * q + 1 ≤ k + 1 + 2 * (q + 1) by omega)) (by first | omega | (show _ < _; omega) | (simp only []; omega)))
 ·have aH1 := aH1b
  try simp only [qqT, qqF, qqN, qqM, qqL, qqE] at aH1
  refine VC.exit ?_
  refine VC.seq ?_
  obtain rfl : q = n := by omega
  refine VC.le _ (Le.rowS (t := 5) (i := 0) (xs := mnyC q) hB hnew rfl rfl rfl) ?_
  refine VC.region ?_
  refine VO.mv rfl rfl rfl rfl ?_
  refine VO.val rfl rfl (OpV.build (pls := #[(0, 1), (1, 1), (2, 1), (3, 1), (4, 1)]) rfl Tryz.zeroValue106 Tryz.underlying106 (fun w => by kernel_rfl) rfl rfl) ?_
  refine VO.mv rfl rfl rfl rfl ?_
  refine VO.val rfl rfl (OpV.slice_strs (l := 0) (h := 4) rfl Tryz.underlying40 Tryz.sizeOf9 rfl rfl ⟨_, _, rfl, rfl⟩ (by omega) (by rw [mnyC_len]; omega)) ?_
  refine VO.val rfl rfl (OpV.build (pls := #[(0, 1), (1, 1), (2, 1), (3, 1), (4, 1)]) rfl Tryz.zeroValue106 Tryz.underlying106 (fun w => by kernel_rfl) rfl rfl) ?_
  refine VO.op rfl (OpE.buildSlice (zc := #[.string ⟨#[]⟩, .int .i64 0, .int .i64 0, .int .i64 0, .slice none 0 0, .string ⟨#[]⟩, .int .i64 0, .int .i64 0, .int .i64 0, .slice none 0 0]) rfl hB rfl Tryz.underlying26 Tryz.sizeOf106 Tryz.zeroValue106 (by decide) (by decide) (by kernel_rfl) rfl rfl ?_)
  refine VO.le _ (Le.recast (t := 36) (y := avL (mnyM (mnyC q))) rfl (fun w Z u h => Rep.rowL (xs := mnyM (mnyC q)) rfl h)) ?_
  refine VO.mv rfl rfl rfl rfl ?_
  refine VO.ma rfl rfl rfl rfl ?_
  refine VO.ma rfl rfl rfl rfl ?_
  refine VO.nil ?_
  refine VC.le _ (Le.rowT (t := 3) (i := 0) (n := ns.length) (xs := ns) hB hnew rfl rfl rfl) ?_
  refine VC.ret ?_
  exact Exists.intro _ (And.intro (RetV.two Tryz.results11 (ResV.tmp rfl) (ResV.tmp rfl)) (And.intro (⟨_, _, ⟨mnyM_small q (by omega), NOk.small2 (by omega) hk, by omega⟩, rfl⟩) ((show k + 1 + 2 * q ≤ k + 30 by omega))))
end Go.Proofs.YtemnnmohdpabhaaGreatDoor
namespace Go.Proofs.YtemnnmohdpabhaaGreatDoor
open Go.RowKit
set_option linter.unusedVariables false
set_option linter.unusedSimpArgs false
theorem not_true_false {b : Bool} (h : (!b) = true) : b = false := by cases b <;> simp_all
theorem not_false_true {b : Bool} (h : (!b) = false) : b = true := by cases b <;> simp_all
def eqLs {α : Type} (e : α → α → Bool) : List α → List α → Bool
 | [], [] => true
 | x :: l, y :: r => e x y && eqLs e l r
 | _, _ => false
theorem eqLs_len {α : Type} {e : α → α → Bool} : ∀ {l r : List α}, l.length ≠ r.length → eqLs e l r = false
 | [], [], h => absurd rfl h
 | [], _ :: _, _ => rfl
 | _ :: _, [], _ => rfl
 | x :: l, y :: r, h => by rw [eqLs, eqLs_len (by simpa using h), Bool.and_false]
theorem eqLs_at {α : Type} {e : α → α → Bool} {d : α} : ∀ {l r : List α} {q : Nat}, q < l.length → e (l.getD q d) (r.getD q d) = false → eqLs e l r = false
 | [], _, q, h, _ => by simp at h
 | x :: l, [], q, h, _ => rfl
 | x :: l, y :: r, 0, _, h2 => by simp at h2; rw [eqLs, h2]; rfl
 | x :: l, y :: r, q + 1, h1, h2 => by rw [eqLs, eqLs_at (d := d) (q := q) (by simpa using h1) (by simpa using h2), Bool.and_false]
theorem eqLs_all {α : Type} {e : α → α → Bool} {d : α} : ∀ {l r : List α}, l.length = r.length → (∀ j, j < l.length → e (l.getD j d) (r.getD j d) = true) → eqLs e l r = true
 | [], [], _, _ => rfl
 | [], _ :: _, h, _ => by simp at h
 | _ :: _, [], h, _ => by simp at h
 | x :: l, y :: r, h, h2 => by
  have h0 := h2 0 (by simp)
  simp at h0
  rw [eqLs, h0, eqLs_all (d := d) (by simpa using h) (fun j hj => by simpa using h2 (j + 1) (by simpa using hj))]
  rfl
set_option maxRecDepth 100000 in
theorem slices_Equal_str {xs ys : List ByteArray} (hl : xs.length ≤ 1000000000) (hl' : ys.length ≤ 1000000000) :
  SpecN Tryz.prog 24 [avStrs xs, avStrs ys] (fun y => y = avB (eqLs sEq xs ys)) := by
 refine SpecN.of_VCN Tryz.func24 rfl Tryz.ntmps24 (Nle rfl) fun w A hB => ?_
 have hnew : True := trivial
 refine VC.sr ?_
 refine VO.ma rfl rfl rfl rfl ?_
 refine VO.nil ?_
 refine VC.seq ?_
 refine VC.sr ?_
 refine VO.mv rfl rfl rfl rfl ?_
 refine VO.val rfl rfl (OpV.len_im rfl Tryz.underlying40 rfl) ?_
 refine VO.mv rfl rfl rfl rfl ?_
 refine VO.val rfl rfl (OpV.len_im rfl Tryz.underlying40 rfl) ?_
 refine VO.val rfl rfl (OpV.neq rfl rfl rfl) ?_
 refine VO.nil ?_
 refine VC.cond rfl (fun aH1b => ?_) (fun aH1b => ?_)
 ·have aH1 := aH1b
  try simp only [qqT, qqF, qqN, qqM, qqL, qqE] at aH1
  refine VC.sr ?_
  refine VO.ma rfl rfl rfl rfl ?_
  refine VO.nil ?_
  refine VC.ret ?_
  exact Exists.intro _ (And.intro (RetN.one Tryz.results24 (ResN.v rfl)) (by first | rw [eqLs_len (by omega)] | rw [eqLs_at (d := ByteArray.empty) (q := q) (by omega) (not_true_false h2b)] | rw [eqLs_all (d := ByteArray.empty) (by omega) (fun j hj => hn j (by omega))]))
 ·have aH1 := aH1b
  try simp only [qqT, qqF, qqN, qqM, qqL, qqE] at aH1
  refine VC.skip ?_
  refine VC.seq ?_
  refine VC.sr ?_
  refine VO.mv rfl rfl rfl rfl ?_
  refine VO.val rfl rfl (OpV.len_im rfl Tryz.underlying40 rfl) ?_
  refine VO.mv rfl rfl rfl rfl ?_
  refine VO.nil ?_
  refine VC.block ?_
  refine VC.loopK [(0, _), (1, _), (12, _)] ⟨rfl, rfl, rfl, trivial⟩ ({q : Nat // q ≤ xs.length ∧ ∀ j, j < q → sEq (xs.getD j ByteArray.empty) (ys.getD j ByteArray.empty) = true}) (fun (iZ : {q : Nat // q ≤ xs.length ∧ ∀ j, j < q → sEq (xs.getD j ByteArray.empty) (ys.getD j ByteArray.empty) = true}) => match iZ with | ⟨q, hq, hn⟩ => [(13, avI (q : Int))]) (fun (iZ : {q : Nat // q ≤ xs.length ∧ ∀ j, j < q → sEq (xs.getD j ByteArray.empty) (ys.getD j ByteArray.empty) = true}) => match iZ with | ⟨q, hq, hn⟩ => []) (fun (iZ : {q : Nat // q ≤ xs.length ∧ ∀ j, j < q → sEq (xs.getD j ByteArray.empty) (ys.getD j ByteArray.empty) = true}) => match iZ with | ⟨q, hq, hn⟩ => 0) (fun (iZ : {q : Nat // q ≤ xs.length ∧ ∀ j, j < q → sEq (xs.getD j ByteArray.empty) (ys.getD j ByteArray.empty) = true}) => match iZ with | ⟨q, hq, hn⟩ => xs.length - q) ⟨0, Nat.zero_le _, fun j hj => absurd hj (Nat.not_lt_zero j)⟩ (Le.mk hB [] ⟨rfl, rfl, rfl, rfl, trivial⟩ rfl rfl (Nat.le_refl _)) ?_
  rintro ⟨q, hq, hn⟩
  show VC _ _ _ _ ⟨[(13, avI (q : Int))] ++ [(0, _), (1, _), (12, _)], [], 0⟩
  refine VC.sr ?_
  refine VO.val rfl rfl (OpV.lss rfl rfl rfl) ?_
  refine VO.nil ?_
  refine VC.seq ?_
  refine VC.cond rfl (fun aH2b => ?_) (fun aH2b => ?_)
  ·have aH2 := aH2b
   try simp only [qqT, qqF, qqN, qqM, qqL, qqE] at aH2
   refine VC.skip ?_
   refine VC.seq ?_
   refine VC.block ?_
   refine VC.sr ?_
   refine VO.mv rfl rfl rfl rfl ?_
   refine VO.ma rfl rfl rfl rfl ?_
   refine VO.nil ?_
   refine VC.seq ?_
   refine VC.draw (fun _ => NoB) hB (by kernel_rfl) ?_
   refine VA.take (i := 0) rfl (by kernel_rfl) (by kernel_rfl) (by kernel_rfl) rfl rfl (OpV.move (.inl rfl) rfl) ?_
   refine VA.take (i := 1) rfl (by kernel_rfl) (by kernel_rfl) (by kernel_rfl) rfl rfl (OpV.move (.inl rfl) rfl) ?_
   refine VA.take (i := 2) rfl (by kernel_rfl) (by kernel_rfl) (by kernel_rfl) rfl rfl (OpV.indexAddr_1 rfl Tryz.underlying40 Tryz.sizeOf9 rfl rfl rfl (by omega)) ?_
   refine VA.take (i := 3) rfl (by kernel_rfl) (by kernel_rfl) (by kernel_rfl) rfl rfl (OpV.load_at rfl hB OutW.wi0 Tryz.isAgg9 rfl rfl) ?_
   refine VA.take (i := 4) rfl (by kernel_rfl) (by kernel_rfl) (by kernel_rfl) rfl rfl (OpV.move (.inl rfl) rfl) ?_
   refine VA.take (i := 5) rfl (by kernel_rfl) (by kernel_rfl) (by kernel_rfl) rfl rfl (OpV.move (.inl rfl) rfl) ?_
   refine VA.take (i := 6) rfl (by kernel_rfl) (by kernel_rfl) (by kernel_rfl) rfl rfl (OpV.indexAddr_1 rfl Tryz.underlying40 Tryz.sizeOf9 rfl rfl rfl (by omega)) ?_
   refine VA.take (i := 7) rfl (by kernel_rfl) (by kernel_rfl) (by kernel_rfl) rfl rfl (OpV.load_at rfl hB OutW.wi0 Tryz.isAgg9 rfl rfl) ?_
   refine VA.take (i := 8) rfl (by kernel_rfl) (by kernel_rfl) (by kernel_rfl) rfl rfl (OpV.sneq rfl rfl rfl) ?_
   refine VA.done (by kernel_rfl) ?_
   refine VC.cond rfl (fun h2b => ?_) (fun h2b => ?_)
   ·have h2 := h2b
    try simp only [qqT, qqF, qqN, qqM, qqL, qqE] at h2
    refine VC.sr ?_
    refine VO.ma rfl rfl rfl rfl ?_
    refine VO.nil ?_
    refine VC.ret ?_
    exact Exists.intro _ (And.intro (RetN.one Tryz.results24 (ResN.v rfl)) (by first | rw [eqLs_len (by omega)] | rw [eqLs_at (d := ByteArray.empty) (q := q) (by omega) (not_true_false h2b)] | rw [eqLs_all (d := ByteArray.empty) (by omega) (fun j hj => hn j (by omega))]))
   ·have h2 := h2b
    try simp only [qqT, qqF, qqN, qqM, qqL, qqE] at h2
    refine VC.skip ?_
    refine VC.region ?_
    refine VO.val rfl rfl (OpV.add rfl rfl rfl (by unfold fits; omega)) ?_
    refine VO.mv rfl rfl rfl rfl ?_
    refine VO.nil ?_
    exact Exists.intro (⟨q + 1, by omega, lt_succ_cases hn (not_false_true h2b)⟩) (And.intro (Le.mk hB [] ⟨rfl, rfl, rfl, rfl, trivial⟩ rfl rfl (Nat.le_refl _)) (by first | omega | (show _ < _; omega) | (simp only []; omega)))
  ·have aH2 := aH2b
   try simp only [qqT, qqF, qqN, qqM, qqL, qqE] at aH2
   refine VC.exit ?_
   refine VC.sr ?_
   refine VO.ma rfl rfl rfl rfl ?_
   refine VO.nil ?_
   refine VC.ret ?_
   exact Exists.intro _ (And.intro (RetN.one Tryz.results24 (ResN.v rfl)) (by first | rw [eqLs_len (by omega)] | rw [eqLs_at (d := ByteArray.empty) (q := q) (by omega) (not_true_false h2b)] | rw [eqLs_all (d := ByteArray.empty) (by omega) (fun j hj => hn j (by omega))]))
end Go.Proofs.YtemnnmohdpabhaaGreatDoor
namespace Go.Proofs.YtemnnmohdpabhaaGreatDoor
open Go.RowKit
set_option linter.unusedVariables false
set_option linter.unusedSimpArgs false

def Inp (w : World) (a : Option Addr) (L : List Int) : Prop :=
 L.length ≤ 9223372036854775807 ∧ ∀ i, i < L.length → ∃ b o, a = some ⟨b, o, none⟩ ∧ w.cell? ⟨b, o + i, none⟩ = some (.int .i64 (L.getD i 0))

theorem Inp.ofRow {w : World} {a : Option Addr} {len cap : Nat} {zs : List Int}
  (h : (a = none ∧ len = 0 ∧ cap = 0 ∧ zs = []) ∨
   ∃ x, a = some x ∧ len ≤ cap ∧ cap ≤ maxLen ∧ zs.length = cap ∧ (∀ i, i < zs.length → w.cell? (x.add i) = some (.int .i64 (zs.getD i 0))) ∧ ∀ n ∈ zs, (Lit.int .i64 n).wf = true) :
  ∃ L : List Int, L.length = len ∧ Inp w a L := by
 rcases h with ⟨rfl, rfl, rfl, rfl⟩ | ⟨x, rfl, h1, h2, h3, h4, h5⟩
 ·exact ⟨[], rfl, by simp, by simp⟩
 ·unfold maxLen at h2
  refine ⟨zs.take len, by simp; omega, by simp; omega, fun i hi => ?_⟩
  have hi' : i < len ∧ i < zs.length := by simp at hi; omega
  obtain ⟨b, o, s⟩ := x
  have h0 := h4 0 (by omega)
  have hs : s = none := by
   cases s with
   | none => rfl
   | some s =>
    simp only [Addr.add, if_true, World.cell?] at h0
    split at h0 <;> simp at h0
  subst hs
  have hadd : (⟨b, o, none⟩ : Addr).add i = ⟨b, o + i, none⟩ := by unfold Addr.add; split <;> simp_all
  have := h4 i hi'.2
  rw [hadd] at this
  exact ⟨b, o, rfl, by rw [this]; simp [hi'.1, hi'.2]⟩

def lawQ (t : Nat) (x : Value) (e : Exit) (s : St') : Prop := e = .ret ∧ look s.sl t = some (.v x)
section
variable {P : Program} {w : World} {A : Nat → Prop} {nt t : Nat} {x : Value} {c : Code} {s : St'}
theorem VC.rebase (h : ∀ a w1, R (B0 w A nt) s a w1 → ∃ (B1 : Bs) (s1 : St'), B1.nt = nt ∧ B1.w0 = w1 ∧ (∀ b, B1.S b → w.heap.size ≤ b) ∧ R B1 s1 a w1 ∧ VC P B1 c (lawQ t x) s1) : VC P (B0 w A nt) c (lawQ t x) s := fun a w1 hr => by
 obtain ⟨B1, s1, h1, h2, h3, h4, h5⟩ := h a w1 hr
 refine Code.wp_mono (fun e a' w' ⟨s2, ⟨k1, k2⟩, k3⟩ => ?_) (h5 a w1 h4)
 refine ⟨⟨[(t, .v x)], [], 0⟩, ⟨k1, by simp [look_put]⟩, fun t' y hy => ?_, k3.size.trans h1, k3.defs, fun p hp => by simp at hp, List.Pairwise.nil, ?_, fun p hp => by simp at hp, trivial⟩
 ·rw [look_put] at hy
  split at hy
  ·rename_i e; subst e; cases hy; exact (k3.slots _ _ k2).flat ⟨_, rfl⟩
  ·cases hy
 ·have c1 := hr.chg
  have c2 := k3.chg
  rw [h2] at c2
  exact (c1.any.trans c2).mono fun b hb hs => (Nat.not_lt.2 (h3 b hs) hb).elim
theorem VC.stream {a0 : Option Addr} {cap0 g tot i : Nat} {L : List Int} {sl : List (Nat × AV)} (hi : s.hp[i]? = some (.box g ⟨[.v (.slice a0 L.length cap0), .v (.int .i64 0)], 25, tot⟩)) (htot : tot = 2) (hin : Inp w a0 L) (hsl : LeL s.sl sl) (hf : ∀ p ∈ sl, ∃ v, p.2 = .v v)
  (h : ∀ w1, w.heap.size ≤ g → (B1 w1 (fun b => b ≠ g) nt (fun b => b = g) (fun b => b ≤ g) (TT g L)).Ok → VC P (B1 w1 (fun b => b ≠ g) nt (fun b => b = g) (fun b => b ≤ g) (TT g L)) c (lawQ t x) ⟨sl, [], 0⟩) : VC P (B0 w A nt) c (lawQ t x) s :=
 VC.rebase fun a w1 hr => by
  have hm := List.mem_of_getElem? hi
  obtain ⟨cc, k1, k2, k3, k4⟩ := hr.blocks _ hm
  have hnew : ¬ g < w.heap.size := hr.isNew (fun b h => h) hm rfl
  have hge : w.heap.size ≤ g := by omega
  have hcc : cc = #[.slice a0 L.length cap0, .int .i64 0] := by
   obtain ⟨u0, p0, q0⟩ := k4 0 (by simp)
   obtain ⟨u1, p1, q1⟩ := k4 1 (by simp)
   have e0 := q0.eq_v
   have e1 := q1.eq_v
   have hsz : cc.size = 2 := k2.trans htot
   apply Array.ext (by simpa using hsz)
   intro i hi hi'
   simp at hi'
   match i, hi' with
   | 0, _ => have := Array.getElem?_eq_some_iff.1 p0; simp; rw [this.2, e0]
   | 1, _ => have := Array.getElem?_eq_some_iff.1 p1; simp; rw [this.2, e1]
  subst hcc
  have hT : TT g L w1 0 := ⟨0, Nat.le_refl _, a0, cap0, k1, hin.1, fun i hi => by
   obtain ⟨b, o, e1, e2⟩ := hin.2 i hi
   have hb := World.block_lt_of_cell? w _ e2
   exact ⟨b, o, e1, Nat.lt_of_lt_of_le hb hge, hr.chg.cell e2 fun h => h⟩⟩
  refine ⟨_, _, rfl, rfl, fun b hb => by rw [hb]; exact hge, ?_, h w1 hge (TT.ok hT)⟩
  refine ⟨fun t' y hy => ?_, hr.size, hr.defs, fun p hp => by simp at hp, List.Pairwise.nil, Chg.refl _ _, fun p hp => by simp at hp, hT⟩
  have hs := hr.slots t' y (LeL.look hsl t' y hy)
  have : ∃ v, y = .v v := by
   have key : ∀ (l : List (Nat × AV)), (∀ p ∈ l, ∃ v, p.2 = .v v) → look l t' = some y → ∃ v, y = .v v := by
    intro l
    induction l with
    | nil => intro _ h; cases h
    | cons p r ih =>
     intro hp hl
     obtain ⟨k, z⟩ := p
     rw [look_put] at hl
     split at hl
     ·cases hl; exact hp (k, y) (by simp)
     ·exact ih (fun q hq => hp q (by simp [hq])) hl
   exact key sl hf hy
  exact hs.flat this
theorem law_calls {F : FuncId} {fn : Func} {a0 : Option Addr} {cap0 : Nat} {L : List Int} {body : Code} (hf : P.funcs[F]? = some fn) (hb : fn.body = some body) (hn : fn.ntmps = nt) (h1 : 1 ≤ nt) (hres : fn.results = #[.tmp t])
  (h : VC P (B0 w (fun _ => True) nt) body (lawQ t (.bool true)) ⟨slots0 0 [.v (.slice a0 L.length cap0)], [], 0⟩) : Calls P F #[.slice a0 L.length cap0] w fun e w' => e = .returned (.bool true) ∧ Chg NoB w w' := by
 subst hn
 refine calls_of_wp hf hb (Code.wp_mono (fun e a w' hq => ?_) (h _ w (R.start (us := #[.slice a0 L.length cap0]) (k := 0) rfl ⟨rfl, fun j hj => by simp at hj; subst hj; exact .v _⟩ (fun _ h => h.elim) trivial (by show fn.ntmps = 1 + (fn.ntmps - 1); omega))))
 obtain ⟨s, ⟨rfl, hq⟩, hr⟩ := hq
 refine ⟨hr.defs, .bool true, ?_, rfl, hr.chg⟩
 have hv := (hr.slots t _ hq).eq_v
 simp [results_eq, hres, resRun, hv]
end
theorem Le.boolT {B : Bs} {s : St'} {t : Nat} {b : Bool} (ht : look s.sl t = some (avB b)) (hb : b = true) : Le B s ⟨(t, avB true) :: s.sl, s.hp, s.k⟩ := Le.recast ht fun w Z u h => by subst hb; exact h
end Go.Proofs.YtemnnmohdpabhaaGreatDoor
namespace Go.Proofs.YtemnnmohdpabhaaGreatDoor
open Go.RowKit
set_option linter.unusedVariables false
set_option linter.unusedSimpArgs false

section
variable {P : Program} {α : Type} [Enc α]

theorem append1_run (w : World) (c1 : Array Value) (T ty e : TypeId) (i : TypeInfo) (z : Value) (bytes : Nat) (h1 : P.underlying T = some (.slice e)) (h2 : P.info? e = some i)
    (h3 : i.zero = some z) (h4 : i.size = Enc.sz α) (h5 : i.bytes = bytes) (hz : z.cells.size = Enc.sz α) (hby : bytes ≤ 4096)
    (lo : Nat) (v : Value) (xs : List α) (y : α) (hown : Own w lo e v xs) (hlo : lo ≤ w.heap.size) (hlen : xs.length ≤ 1000000000)
    (hy : Enc.Is w (fun k => lo ≤ k ∧ v.ownBlock ≠ some k) y (fun j => c1[j]?)) (hc1 : c1.size = Enc.sz α) :
    ∃ g cap w', (Builtin.append_ #[T, T] ty #[v, .slice (some ⟨w.heap.size, 0, none⟩) 1 1]).run P (w.alloc (.cells c1 e)) = .ok (.slice (some ⟨g, 0, none⟩) (xs.length + 1) cap) w' ∧
      Own w' lo e (.slice (some ⟨g, 0, none⟩) (xs.length + 1) cap) (xs ++ [y]) ∧ Chg (blk v) w w' ∧ (v.ownBlock = some g ∨ w.heap.size ≤ g) ∧ lo ≤ g := by
  obtain ⟨cs, hrow, hel⟩ := hown
  have hsz : 0 < Enc.sz α := Enc.pos
  have hnews : ∀ j u, c1.toList[j]? = some u → (w.alloc (.cells c1 e)).cell? ((⟨w.heap.size, 0, none⟩ : Addr).add j) = some u := by
    intro j u hu
    have hadd : (⟨w.heap.size, 0, none⟩ : Addr).add j = ⟨w.heap.size, j, none⟩ := by unfold Addr.add; split <;> simp_all
    rw [hadd, cell_of_row _ w.heap.size j c1 e (0, 0) (heap_alloc_new w _)]
    simpa using hu
  have hone : ∀ u ∈ c1.toList, u.oneCell' = true := by
    intro u hu
    obtain ⟨j, hj, rfl⟩ := List.mem_iff_getElem.1 hu
    obtain ⟨u', h', h''⟩ := Enc.one hy j (by simpa [hc1] using hj)
    simp at hj
    simp [hj] at h'
    simpa [h'] using h''
  have hl1 : c1.toList.length = 1 * i.size := by simp [hc1, h4]
  have hlen' : (cs ++ c1.toList).length = (xs.length + 1) * Enc.sz α := by rw [List.length_append, hrow.1, Nat.add_mul]; simp [hc1]
  have hl2 : (xs ++ [y]).length = xs.length + 1 := by simp
  have hmx : xs.length + 1 ≤ maxLen := by simp only [maxLen]; omega
  have hb47 : (xs.length + 1) * i.bytes ≤ 140737488355328 := by
    rw [h5]
    exact Nat.le_trans (Nat.mul_le_mul_left _ hby) (by omega)
  -- the elements behind the step, whatever block they end in
  have helem : ∀ (w' : World) (g cap : Nat), Chg (blk v) w w' → (v.ownBlock = some g ∨ w.heap.size ≤ g) →
      ∀ j, (h : j < (xs ++ [y]).length) → Enc.Is w' (fun k => lo ≤ k ∧ (Value.slice (some ⟨g, 0, none⟩) (xs.length + 1) cap).ownBlock ≠ some k) (xs ++ [y])[j] (fun q => (cs ++ c1.toList)[j * Enc.sz α + q]?) := by
    intro w' g cap hch hg j hj
    have hA : ∀ k, ((lo ≤ k ∧ v.ownBlock ≠ some k) ∧ k < w.heap.size) → (lo ≤ k ∧ (Value.slice (some ⟨g, 0, none⟩) (xs.length + 1) cap).ownBlock ≠ some k) := by
      intro k hk
      refine ⟨hk.1.1, ?_⟩
      simp only [Value.ownBlock, ne_eq, Option.some.injEq]
      rintro rfl
      rcases hg with hg | hg
      · exact hk.1.2 hg
      · omega
    have hgo : ∀ (x : α) (f : Nat → Option Value), Enc.Is w (fun k => lo ≤ k ∧ v.ownBlock ≠ some k) x f →
        Enc.Is w' (fun k => lo ≤ k ∧ (Value.slice (some ⟨g, 0, none⟩) (xs.length + 1) cap).ownBlock ≠ some k) x f := by
      intro x f hx
      exact Enc.low (Enc.keep (Enc.low (A' := fun k => (lo ≤ k ∧ v.ownBlock ≠ some k) ∧ k < w.heap.size) hx fun k hk hl => ⟨hk, hl⟩) hch fun k hk hl => hk.1.2) fun k hk _ => hA k hk
    by_cases hjx : j < xs.length
    · rw [List.getElem_append_left hjx]
      refine hgo _ _ (Enc.ext (hel j hjx) fun q hq => ?_)
      have : j * Enc.sz α + q < cs.length := by
        rw [hrow.1]
        have := Nat.mul_le_mul_right (Enc.sz α) (show j + 1 ≤ xs.length from hjx)
        rw [Nat.add_mul] at this; omega
      rw [List.getElem?_append_left this]
    · obtain rfl : j = xs.length := by simp at hj; omega
      rw [List.getElem_append_right (by omega)]
      simp only [Nat.sub_self, List.getElem_cons_zero]
      refine hgo _ _ (Enc.ext hy fun q hq => ?_)
      rw [List.getElem?_append_right (by rw [hrow.1]; omega), hrow.1, Nat.add_sub_cancel_left]
      simp
  rcases hrow.2 with ⟨rfl, h0⟩ | ⟨g, cap, cur, rfl, hbg, hg, hnc, hcm, hcs, htake⟩
  · have hx : xs = [] := List.eq_nil_of_length_eq_zero h0
    subst hx
    have hcs0 : cs = [] := List.eq_nil_of_length_eq_zero (by simpa using hrow.1)
    subst hcs0
    have hr := run_append_nil (P := P) (w.alloc (.cells c1 e)) T ty e i z h1 h2 h3 ⟨w.heap.size, 0, none⟩ 1 1 c1.toList hl1 hnews (by omega) (by omega) (by have := hb47; simp at this; omega)
    have hge := grownCap_ge (w.alloc (.cells c1 e)) 1 0 e
    have hcm := grownCap_le_maxLen (w.alloc (.cells c1 e)) 1 0 e (by simp [maxLen])
    have hch : Chg (blk (.slice none 0 0)) w ((w.alloc (.cells c1 e)).drew.alloc (.cells (c1.toList.toArray ++ Builtin.zeroCells z.cells (grownCap (w.alloc (.cells c1 e)) 1 0 e - 1)) e)) :=
      (((Chg.refl _ w).alloc _).drew).alloc _
    refine ⟨_, _, _, hr, ⟨[] ++ c1.toList, ⟨by rw [hl2]; exact hlen', .inr ⟨_, _, _, by rw [hl2]; rfl, ?_, heap_alloc_new _ _, ?_, hcm, ?_, ?_⟩⟩, helem _ _ _ hch (.inr (by simp))⟩, hch, .inr (by simp), by simp; omega⟩
    · simp; omega
    · simpa using hge
    · simp only [Array.size_append, List.size_toArray, size_zeroCells, hz, Array.length_toList, hc1, List.nil_append]
      rw [Nat.sub_mul, Nat.one_mul]
      have : Enc.sz α ≤ grownCap (w.alloc (.cells c1 e)) 1 0 e * Enc.sz α := Nat.le_mul_of_pos_left _ (by omega)
      omega
    · simp [hc1]
  · by_cases hroom : xs.length + 1 ≤ cap
    · have hgs := (Array.getElem?_eq_some_iff.1 hg).1
      have hg' : (w.alloc (.cells c1 e)).heap[g]? = some (.cells cur e (0, 0)) := (Below.heap_alloc w _ g hgs).trans hg
      have hfit : xs.length * i.size + c1.toList.length ≤ cur.size := by
        rw [hl1, hcs, ← Nat.add_mul, h4]; exact Nat.mul_le_mul_right _ hroom
      have hr := run_append_room (P := P) (w.alloc (.cells c1 e)) T ty e i h1 h2 g xs.length cap cur hg' ⟨w.heap.size, 0, none⟩ 1 1 c1.toList hl1 hnews hone hroom hfit
      have hch : Chg (blk (.slice (some ⟨g, 0, none⟩) xs.length cap)) w ((w.alloc (.cells c1 e)).setRow g (cur.toList.take (xs.length * i.size) ++ c1.toList ++ cur.toList.drop (xs.length * i.size + c1.toList.length)).toArray) :=
        ((Chg.refl _ w).alloc _).grown (row := some g) ⟨rfl, rfl, rfl, by simp, fun k _ hk => setRow_other _ g k _ (fun e => hk (by simp [e]))⟩ (fun k hk _ => by cases hk; rfl)
      refine ⟨_, _, _, hr, ⟨cs ++ c1.toList, ⟨by rw [hl2]; exact hlen', .inr ⟨g, cap, _, by rw [hl2], hbg, setRow_heap _ g cur _ e _ hg', by simpa using hroom, hcm, ?_, ?_⟩⟩, helem _ _ _ hch (.inl rfl)⟩, hch, .inl rfl, hbg⟩
      · simp only [List.size_toArray, List.length_append, List.length_take, List.length_drop, Array.length_toList] at hfit ⊢
        omega
      · rw [h4, htake]
        have : (xs ++ [y]).length * Enc.sz α = (cs ++ c1.toList).length := by rw [hlen']; simp
        rw [this]
        exact List.take_left
    · have holds : ∀ j u, cs[j]? = some u → (w.alloc (.cells c1 e)).cell? ((⟨g, 0, none⟩ : Addr).add j) = some u := by
        intro j u hu
        have hgs := (Array.getElem?_eq_some_iff.1 hg).1
        have h := hrow.cells (g := g) rfl j u hu
        have hadd : ((⟨g, 0, none⟩ : Addr).add j).block = g := by unfold Addr.add; split <;> rfl
        exact (World.cell?_of_block (by rw [hadd]; exact Below.heap_alloc w _ g hgs)).trans h
      have hr := run_append_grow (P := P) (w.alloc (.cells c1 e)) T ty e i z h1 h2 h3 ⟨g, 0, none⟩ xs.length cap cs (by rw [hrow.1, h4]) holds ⟨w.heap.size, 0, none⟩ 1 1 c1.toList hl1 hnews (by omega) (by omega) (growslice_fits (by omega) hb47)
      have hge := grownCap_ge (w.alloc (.cells c1 e)) (xs.length + 1) cap e
      have hcm' := grownCap_le_maxLen (w.alloc (.cells c1 e)) (xs.length + 1) cap e hmx
      have hch : Chg (blk (.slice (some ⟨g, 0, none⟩) xs.length cap)) w ((w.alloc (.cells c1 e)).drew.alloc (.cells (cs.toArray ++ c1.toList.toArray ++ Builtin.zeroCells z.cells (grownCap (w.alloc (.cells c1 e)) (xs.length + 1) cap e - (xs.length + 1))) e)) :=
        (((Chg.refl _ w).alloc _).drew).alloc _
      refine ⟨_, _, _, hr, ⟨cs ++ c1.toList, ⟨by rw [hl2]; exact hlen', .inr ⟨_, _, _, by rw [hl2]; rfl, ?_, heap_alloc_new _ _, ?_, hcm', ?_, ?_⟩⟩, helem _ _ _ hch (.inr (by simp))⟩, hch, .inr (by simp), by simp; omega⟩
      · simp; omega
      · simpa using hge
      · simp only [Array.size_append, List.size_toArray, size_zeroCells, hz, Array.length_toList, hc1, hrow.1]
        rw [Nat.sub_mul, Nat.add_mul, Nat.one_mul]
        have := Nat.mul_le_mul_right (Enc.sz α) hge
        rw [Nat.add_mul, Nat.one_mul] at this
        omega
      · have : (xs ++ [y]).length * Enc.sz α = (cs ++ c1.toList).length := by rw [hlen']; simp
        rw [this]
        simp only [Array.toList_append, List.toList_toArray, ← List.append_assoc]
        exact List.take_left

theorem wpl_append1 {ops : Array Oper} {rest : List Oper} {o : Oper} {a : Act} {Q : Exit → Act → World → Prop} (w : World) (c1 : Array Value)
  (hg : o.guard = none) (s x : Operand) (T e : TypeId) (hop : o.op = Op.call { callee := Callee.builtin Builtin.append, args := #[s, x], argTypes := #[T, T] })
  (i : TypeInfo) (z : Value) (bytes : Nat) (h1 : P.underlying T = some (.slice e)) (h2 : P.info? e = some i)
  (h3 : i.zero = some z) (h4 : i.size = Enc.sz α) (h5 : i.bytes = bytes) (hz : z.cells.size = Enc.sz α) (hby : bytes ≤ 4096)
  (lo : Nat) (v : Value) (xs : List α) (y : α) (hown : Own w lo e v xs) (hlo : lo ≤ w.heap.size) (hlen : xs.length ≤ 1000000000)
  (hy : Enc.Is w (fun k => lo ≤ k ∧ v.ownBlock ≠ some k) y (fun j => c1[j]?)) (hc1 : c1.size = Enc.sz α)
  (hs : a.eval s = v) (hx : a.eval x = .slice (some ⟨w.heap.size, 0, none⟩) 1 1)
  (hK : ∀ g cap w', Own w' lo e (.slice (some ⟨g, 0, none⟩) (xs.length + 1) cap) (xs ++ [y]) → Chg (blk v) w w' → (v.ownBlock = some g ∨ w.heap.size ≤ g) → lo ≤ g →
   wpList P ops Q rest (a.put o.dst (.slice (some ⟨g, 0, none⟩) (xs.length + 1) cap)) w') : wpList P ops Q (o :: rest) a (w.alloc (.cells c1 e)) := by
 refine wpList_plain hg fun K hK' => ?_
 obtain ⟨g, cap, w', hr, r1, r2, r3, r4⟩ := append1_run (P := P) w c1 T o.type e i z bytes h1 h2 h3 h4 h5 hz hby lo v xs y hown hlo hlen hy hc1
 unfold Oper.wp execOp
 simp only [hop, resolve, invoke, builtin, Sem.run_bind, Sem.run_pure, Result.andThen_ok, List.map_toArray, List.map_cons, List.map_nil, hs, hx, hr]
 exact hK' _ _ (hK g cap w' r1 r2 r3 r4)

theorem wpl_append_int {ops : Array Oper} {rest : List Oper} {o : Oper} {a : Act} {Q : Exit → Act → World → Prop} (w : World)
  (hg : o.guard = none) (s x : Operand) (T e : TypeId) (hop : o.op = Op.call { callee := Callee.builtin Builtin.append, args := #[s, x], argTypes := #[T, T] })
  (h1 : P.underlying T = some (.slice e)) (hinfo : (P.info? e).map (fun i => (i.zero, i.size, i.bytes)) = some (some (.int .i64 0), 1, 8))
  (lo : Nat) (v : Value) (xs : List Int) (y : Int) (hown : Own w lo e v xs) (hlo : lo ≤ w.heap.size) (hlen : xs.length ≤ 1000000000)
  (hs : a.eval s = v) (hx : a.eval x = .slice (some ⟨w.heap.size, 0, none⟩) 1 1)
  (hK : ∀ g cap w', Own w' lo e (.slice (some ⟨g, 0, none⟩) (xs.length + 1) cap) (xs ++ [y]) → Chg (blk v) w w' → (v.ownBlock = some g ∨ w.heap.size ≤ g) → lo ≤ g →
   wpList P ops Q rest (a.put o.dst (.slice (some ⟨g, 0, none⟩) (xs.length + 1) cap)) w') : wpList P ops Q (o :: rest) a (w.alloc (.cells #[.int .i64 y] e)) := by
 obtain ⟨i, hi, hz0, hz1, hz2⟩ := info_parts hinfo
 exact wpl_append1 (α := Int) w _ hg s x T e hop i (.int .i64 0) 8 h1 hi hz0 hz1 hz2 rfl (by decide) lo v xs y hown hlo hlen rfl rfl hs hx hK

theorem wpl_append_intB {ops : Array Oper} {rest : List Oper} {o : Oper} {a : Act} {Q : Exit → Act → World → Prop} (w : World)
  (hg : o.guard = none) (s x : Operand) (T e : TypeId) (hop : o.op = Op.call { callee := Callee.builtin Builtin.append, args := #[s, x], argTypes := #[T, T] })
  (h1 : P.underlying T = some (.slice e)) (hinfo : (P.info? e).map (fun i => (i.zero, i.size, i.bytes)) = some (some (.int .i64 0), 1, 8))
  (lo : Nat) (v : Value) (xs : List Int) (y : Int) (hown : Own w lo e v xs) (hlo : lo ≤ w.heap.size) (hlen : xs.length ≤ 1000000000)
  (B : Nat) (hB : B = w.heap.size) (n : Nat) (hn : xs.length = n) (hs : a.eval s = v) (hx : a.eval x = .slice (some ⟨B, 0, none⟩) 1 1)
  (hK : ∀ g cap w', Own w' lo e (.slice (some ⟨g, 0, none⟩) (n + 1) cap) (xs ++ [y]) → Chg (blk v) w w' → (v.ownBlock = some g ∨ w.heap.size ≤ g) → lo ≤ g →
   wpList P ops Q rest (a.put o.dst (.slice (some ⟨g, 0, none⟩) (n + 1) cap)) w') : wpList P ops Q (o :: rest) a (w.alloc (.cells #[.int .i64 y] e)) := by
 subst hB; subst hn
 exact wpl_append_int w hg s x T e hop h1 hinfo lo v xs y hown hlo hlen hs hx hK

end

theorem wpl_make_raw {P : Program} {ops : Array Oper} {rest : List Oper} {o : Oper} {a : Act} {Q : Exit → Act → World → Prop} (w : World)
  (hg : o.guard = none) (l c : Operand) (T e : TypeId) (hop : o.op = Op.makeSlice T l c)
  (z : Value) (bytes : Nat) (h1 : P.underlying T = some (.slice e)) (hinfo : (P.info? e).map (fun i => (i.zero, i.size, i.bytes)) = some (some z, 1, bytes)) (hz : z.cells = #[z]) (hby : bytes ≤ 4096)
  (kl kc : IntKind) (C D : Int) (hl : a.eval l = .int kl C) (hc : a.eval c = .int kc D) (n : Nat) (hC : C = n) (hD : D = n) (hn : n ≤ 1000000000)
  (hK : wpList P ops Q rest (a.put o.dst (.slice (some ⟨w.heap.size, 0, none⟩) n n)) (w.alloc (.cells (Array.replicate n z) e))) :
  wpList P ops Q (o :: rest) a w := by
 subst hC; subst hD
 obtain ⟨i, hi, hz0, hz1, hz2⟩ := info_parts hinfo
 refine wpList_plain hg fun K hK' => ?_
 have hb : (i.bytes : Int) * (n : Int) ≤ 281474976710656 := by
  have h : ((i.bytes * n : Nat) : Int) ≤ 281474976710656 := by
   have : i.bytes * n ≤ 4096 * 1000000000 := by rw [hz2]; exact Nat.mul_le_mul hby hn
   omega
  rwa [Int.natCast_mul] at h
 have hr := run_make (P := P) w T e i z h1 hi hz0 kl kc n n (by omega) (Int.le_refl _) hb (by omega)
 simp only [Int.toNat_natCast] at hr
 have he : madeCells z.cells (n * i.size) = Array.replicate n z := by
  rw [hz, hz1, Nat.mul_one]
  exact Array.ext' (by rw [toList_madeCells_one]; simp)
 rw [he] at hr
 unfold Oper.wp
 simp [execOp, hop, hl, hc, hr, Result.andThen]
 exact hK' _ _ hK

theorem step_append1 {P : Program} {α : Type} [Enc α] {ops : Array Oper} {o : Oper} {a : Act} {K : Act → World → Prop} {Q : Exit → Act → World → Prop} {E : Prop} (w : World) (c1 : Array Value)
  (hg : o.guard = none) (s x : Operand) (T e : TypeId) (hop : o.op = Op.call { callee := Callee.builtin Builtin.append, args := #[s, x], argTypes := #[T, T] })
  (i : TypeInfo) (z : Value) (bytes : Nat) (h1 : P.underlying T = some (.slice e)) (h2 : P.info? e = some i)
  (h3 : i.zero = some z) (h4 : i.size = Enc.sz α) (h5 : i.bytes = bytes) (hz : z.cells.size = Enc.sz α) (hby : bytes ≤ 4096)
  (lo : Nat) (v : Value) (xs : List α) (y : α) (hown : Own w lo e v xs) (hlo : lo ≤ w.heap.size) (hlen : xs.length ≤ 1000000000)
  (hy : Enc.Is w (fun k => lo ≤ k ∧ v.ownBlock ≠ some k) y (fun j => c1[j]?)) (hc1 : c1.size = Enc.sz α)
  (hs : a.eval s = v) (hx : a.eval x = .slice (some ⟨w.heap.size, 0, none⟩) 1 1)
  (hK : ∀ g cap w', Own w' lo e (.slice (some ⟨g, 0, none⟩) (xs.length + 1) cap) (xs ++ [y]) → Chg (blk v) w w' → (v.ownBlock = some g ∨ w.heap.size ≤ g) → lo ≤ g →
   K (a.put o.dst (.slice (some ⟨g, 0, none⟩) (xs.length + 1) cap)) w') :
  if Region.wanted o (yielded ops a.tmps) = true then Oper.wp P o a (w.alloc (.cells c1 e)) K Q else E := by
 have hw : Region.wanted o (yielded ops a.tmps) = true := by simp [Region.wanted, hg]
 rw [if_pos hw]
 obtain ⟨g, cap, w', hr, r1, r2, r3, r4⟩ := append1_run (P := P) w c1 T o.type e i z bytes h1 h2 h3 h4 h5 hz hby lo v xs y hown hlo hlen hy hc1
 unfold Oper.wp execOp
 simp only [hop, resolve, invoke, builtin, Sem.run_bind, Sem.run_pure, Result.andThen_ok, List.map_toArray, List.map_cons, List.map_nil, hs, hx, hr]
 exact hK g cap w' r1 r2 r3 r4

theorem isSl_lit (w : World) (xs : List Int) (e : TypeId) (hm : xs.length ≤ maxLen) :
  IsSl (w.alloc (.cells (xs.map (Value.int .i64)).toArray e)) (fun k => w.heap.size ≤ k) (.slice (some ⟨w.heap.size, 0, none⟩) xs.length xs.length) xs := by
 refine .inr ⟨w.heap.size, 0, xs.length, _, e, rfl, Nat.le_refl _, Nat.le_refl _, hm, heap_alloc_new w _, fun i hi => ?_⟩
 simp [Enc.Is, Enc.sz, hi]

end Go.Proofs.YtemnnmohdpabhaaGreatDoor
namespace Go.Proofs.YtemnnmohdpabhaaGreatDoor
open Go.RowKit
set_option linter.unusedVariables false
set_option linter.unusedSimpArgs false

theorem infoInt : (Tryz.prog.info? 3).map (fun i => (i.zero, i.size, i.bytes)) = some (some (.int .i64 0), 1, 8) := by kernel_rfl

end Go.Proofs.YtemnnmohdpabhaaGreatDoor
namespace Go.Proofs.YtemnnmohdpabhaaGreatDoor
set_option linter.unusedVariables false
set_option linter.unusedSimpArgs false

structure Pass where
 taken : Int
 left : Int

instance : Enc Pass where
 sz := 2
 Is _ _ p f := f 0 = some (.int .i64 p.taken) ∧ f 1 = some (.int .i64 p.left)
 keep h _ _ := h
 low h _ := h
 ext h e := ⟨(e 0 (by omega)) ▸ h.1, (e 1 (by omega)) ▸ h.2⟩
 one h j hj := by
  rcases (show j = 0 ∨ j = 1 by omega) with rfl | rfl
  ·exact ⟨_, h.1, rfl⟩
  ·exact ⟨_, h.2, rfl⟩
 pos := by omega
instance : Flat Pass := ⟨fun h => h⟩

def at' (l : List Int) (k : Nat) : Int := l.getD k 0

def pas (c bf : List Int) (b k : Nat) : Pass :=
  let here : Int := if hk : k = 0 then 0 else (pas c bf b (k - 1)).left
  let taken : Int := if hb : b = 0 then here else max here (pas c bf (b - 1) k).left
  let left : Int := taken + at' c k
  ⟨taken, if k + 1 < c.length then
      (if at' bf k = 0 then (if hb : b = 0 then left else max left (pas c bf (b - 1) (k + 1)).left)
       else if hr : 0 < at' bf k ∧ at' bf k ≤ b then max left (pas c bf (b - (at' bf k).toNat) (k + 1)).taken else left)
    else left⟩
termination_by (b, k)
decreasing_by
  all_goals simp_wf
  all_goals first
    | (apply Prod.Lex.right; omega)
    | (apply Prod.Lex.left; omega)

def here (c bf : List Int) (b k : Nat) : Int := if k = 0 then 0 else (pas c bf b (k - 1)).left

theorem pas_taken (c bf : List Int) (b k : Nat) : (pas c bf b k).taken = if b = 0 then here c bf b k else max (here c bf b k) (pas c bf (b - 1) k).left := by
 rw [pas]; simp only [here]; split <;> simp_all
theorem pas_left (c bf : List Int) (b k : Nat) : (pas c bf b k).left =
    if k + 1 < c.length then
      (if at' bf k = 0 then (if b = 0 then (pas c bf b k).taken + at' c k else max ((pas c bf b k).taken + at' c k) (pas c bf (b - 1) (k + 1)).left)
       else if 0 < at' bf k ∧ at' bf k ≤ b then max ((pas c bf b k).taken + at' c k) (pas c bf (b - (at' bf k).toNat) (k + 1)).taken else (pas c bf b k).taken + at' c k)
    else (pas c bf b k).taken + at' c k := by
  conv => lhs; rw [pas]
  conv => rhs; rw [pas_taken]
  simp only [here]
  repeat' split
  all_goals simp_all

structure RightLine (c bf : List Int) : Prop where
 len : c.length ≤ 6
 pos : 0 < c.length
 c1 : ∀ k, k < c.length → 1 ≤ at' c k ∧ at' c k ≤ 10000000
 b0 : ∀ k, 0 ≤ at' bf k
 bl : bf.length + 1 = c.length

theorem pas_bd {c bf : List Int} (h : RightLine c bf) (b : Nat) : ∀ k, k < c.length →
  0 ≤ (pas c bf b k).taken ∧ (pas c bf b k).taken + at' c k ≤ (pas c bf b k).left ∧ (pas c bf b k).left ≤ 10000000 * (b + k + 1) := by
 induction b using Nat.strongRecOn with
 | _ b ihb =>
  intro k
  induction k with
  | zero =>
   intro hk
   have hc := h.c1 0 hk
   have ht := pas_taken c bf b 0
   have hl := pas_left c bf b 0
   have hh : here c bf b 0 = 0 := by simp [here]
   rw [hh] at ht
   have h1 : 0 < b → _ := fun hb => ihb (b - 1) (by omega) 0 hk
   have h2 : 0 < b → 1 < c.length → _ := fun hb hk1 => ihb (b - 1) (by omega) 1 hk1
   have h3 : 0 < at' bf 0 ∧ at' bf 0 ≤ b → 1 < c.length → _ := fun hb hk1 => ihb (b - (at' bf 0).toNat) (by omega) 1 hk1
   have hc1 := h.c1 1
   split at ht <;> (split at hl <;> (try split at hl) <;> (try split at hl)) <;> grind
  | succ k ihk =>
   intro hk
   have hc := h.c1 (k + 1) hk
   have hcp := h.c1 k (by omega)
   have hp := ihk (by omega)
   have ht := pas_taken c bf b (k + 1)
   have hl := pas_left c bf b (k + 1)
   have hh : here c bf b (k + 1) = (pas c bf b k).left := by simp [here]
   rw [hh] at ht
   have h1 : 0 < b → _ := fun hb => ihb (b - 1) (by omega) (k + 1) hk
   have h2 : 0 < b → k + 2 < c.length → _ := fun hb hk1 => ihb (b - 1) (by omega) (k + 2) hk1
   have h3 : 0 < at' bf (k + 1) ∧ at' bf (k + 1) ≤ b → k + 2 < c.length → _ := fun hb hk1 => ihb (b - (at' bf (k + 1)).toNat) (by omega) (k + 2) hk1
   have hc1 := h.c1 (k + 2)
   split at ht <;> (split at hl <;> (try split at hl) <;> (try split at hl)) <;> grind

end Go.Proofs.YtemnnmohdpabhaaGreatDoor
namespace Go.Proofs.YtemnnmohdpabhaaGreatDoor
open Go.RowKit
set_option linter.unusedVariables false
set_option linter.unusedSimpArgs false

def PredI (F : FuncId) (caps : Array Value) (pr : Int → Bool) (w : World) (xs : List Int) : Prop :=
 (∀ args w, (callFunc F args).run Tryz.prog w = .ok (.enter F args) w) ∧
 ∀ x ∈ xs, ∀ w1, Chg NoB w w1 → Calls Tryz.prog F (#[.int .i64 x] ++ caps) w1 fun e w2 => e = .returned (.bool (pr x)) ∧ Chg NoB w1 w2

def idx {α : Type} (pr : α → Bool) (xs : List α) : Int := match xs.findIdx? pr with
 | some i => i
 | none => -1

theorem idx_none {α : Type} {pr : α → Bool} {xs : List α} (h : ∀ j, (hj : j < xs.length) → pr xs[j] = false) : idx pr xs = -1 := by
 have : xs.findIdx? pr = none := by
  rw [List.findIdx?_eq_none_iff]
  intro x hx
  obtain ⟨j, hj, rfl⟩ := List.mem_iff_getElem.1 hx
  exact h j hj
 rw [idx, this]
theorem idx_some {α : Type} {pr : α → Bool} {xs : List α} {i : Nat} (hi : i < xs.length) (hp : pr xs[i] = true) (h : ∀ j, (hj : j < i) → pr (xs[j]'(by omega)) = false) : idx pr xs = i := by
 have : xs.findIdx? pr = some i := by
  rw [List.findIdx?_eq_some_iff_getElem]
  exact ⟨hi, hp, fun j hj => by simp [h j hj]⟩
 rw [idx, this]
theorem idx_any {α : Type} (pr : α → Bool) (xs : List α) : decide (0 ≤ idx pr xs) = xs.any pr := by
 unfold idx
 cases h : xs.findIdx? pr with
 | none =>
  rw [List.findIdx?_eq_none_iff] at h
  symm
  simp [List.any_eq_false]
  intro x hx
  simp [h x hx]
 | some i =>
  rw [List.findIdx?_eq_some_iff_getElem] at h
  obtain ⟨hi, hp, _⟩ := h
  symm
  simp only [Int.natCast_nonneg, decide_true, List.any_eq_true]
  exact ⟨xs[i], List.getElem_mem _, hp⟩

set_option maxHeartbeats 400000 in
theorem indexFuncI (v : Value) (xs : List Int) (F : FuncId) (caps : Array Value) (pr : Int → Bool) (A : Nat → Prop) (w : World) (hv : IsSl w A v xs) (hF : PredI F caps pr w xs) :
  Calls Tryz.prog 311 #[v, .func (.func F) #[] caps] w fun e w' => e = .returned (.int .i64 (idx pr xs)) ∧ Chg NoB w w' := by
 obtain ⟨hcf, hF⟩ := hF
 obtain ⟨a, cap, rfl, hc1, hc2⟩ := hv.shape
 unfold maxLen at hc2
 go_enter Tryz.func311, Tryz.ntmps311
 go_wp2_with fail
 go_loopw [5, 8] (fun _ i wr => ∃ j : Nat, j ≤ xs.length ∧ i = .int .i64 j ∧ Hid (∀ q, (hq : q < j) → (hq' : q < xs.length) → pr xs[q] = false) ∧ Chg NoB w wr)
  (fun _ i _ => xs.length - (intOf i).toNat)
 case atStart => exact ⟨0, by omega, rfl, hid fun q hq => by omega, Chg.refl _ _⟩
 case round =>
  obtain ⟨j, hj, rfl, hno, hch⟩ := hrel
  by_cases hjn : j < xs.length
  ·obtain ⟨b, off, rfl, hb, hcells⟩ := hv.ints (by omega)
   have hcell := hch.cell (hcells j hjn) (fun x => x)
   clear hcells
   have HF := hid (hF xs[j] (List.getElem_mem _) wr hch)
   clear hF
   go_wp2_with fail
   refine HF.out.mono ?_
   rintro e w2 ⟨rfl, hc3⟩
   go_wp2_with fail
   ·have hp : pr xs[j] = true := by assumption
    go_ret
    exact ⟨ret_int (idx_some hjn hp fun q hq => hno.out q hq (by omega)).symm, hch.trans hc3⟩
   ·have hp : pr xs[j] = false := by assumption
    go_roundw
    case rel => exact ⟨j + 1, by omega, by go_num, hid fun q hq hq' => by
     by_cases h : q < j
     ·exact hno.out q h hq'
     ·obtain rfl : q = j := by omega
      exact hp, hch.trans hc3⟩
    case measure => simp [intOf]; omega
  ·go_wp2_with fail
   go_ret
   exact ⟨ret_int (idx_none fun q hq => hno.out q (by omega) hq).symm, hch⟩

set_option maxHeartbeats 400000 in
theorem containsFuncI (v : Value) (xs : List Int) (F : FuncId) (caps : Array Value) (pr : Int → Bool) (A : Nat → Prop) (w : World) (hv : IsSl w A v xs) (hF : PredI F caps pr w xs) :
  Calls Tryz.prog 256 #[v, .func (.func F) #[] caps] w fun e w' => e = .returned (.bool (xs.any pr)) ∧ Chg NoB w w' := by
 have hc := indexFuncI v xs F caps pr A w hv hF
 have HC := hid hc; clear hc hF
 go_enter Tryz.func256, Tryz.ntmps256
 go_wp2_with (go_at_call 311; refine HC.out.mono ?_; rintro e w1 ⟨rfl, hc1⟩)
 go_ret
 exact ⟨ret_bool (idx_any pr xs), hc1⟩

set_option maxHeartbeats 400000 in
theorem outside_any (n lo hi : Int) (w : World) :
  Calls Tryz.prog 180 #[.int .i64 n, .int .i64 lo, .int .i64 hi] w fun e w' => e = .returned (.bool (decide (n < lo) || decide (hi < n))) ∧ w = w' := by
 by_cases h : n < lo
 ·go_enter Tryz.func180, Tryz.ntmps180
  go_wp2_with fail
  go_ret
  exact ⟨ret_bool (by simp [h]), rfl⟩
 ·go_enter Tryz.func180, Tryz.ntmps180
  go_wp2_with fail
  go_ret
  exact ⟨ret_bool (by simp; omega), rfl⟩

end Go.Proofs.YtemnnmohdpabhaaGreatDoor
namespace Go.Proofs.YtemnnmohdpabhaaGreatDoor
open Go.RowKit
set_option linter.unusedVariables false
set_option linter.unusedSimpArgs false

def outB (lo hi x : Int) : Bool := decide (x < lo) || decide (hi < x)
def cycF (c : List Int) : Int := if c.length = 0 then 8 else if 6 < c.length then 2 else if c.any (outB 1 10000000) then 1 else 0
def flowF (c b : List Int) (n : Int) : Int :=
 if cycF c ≠ 0 then cycF c else if (b.length : Int) ≠ c.length - 1 then 3 else if b.any (outB 0 2000) || outB 1 2000 n then 1 else 0

theorem outside_b (n lo hi : Int) (w : World) :
  Calls Tryz.prog 180 #[.int .i64 n, .int .i64 lo, .int .i64 hi] w fun e w' => e = .returned (.bool (outB lo hi n)) ∧ w = w' := outside_any n lo hi w
set_option maxHeartbeats 400000 in
theorem cycPred1 (w : World) (xs : List Int) : PredI 310 #[] (outB 1 10000000) w xs := by
 refine ⟨enters_of Tryz.func310 (by kernel_rfl) rfl, fun x hx w1 hc => ?_⟩
 go_enter Tryz.func310, Tryz.ntmps310
 go_wp2_with (go_at_call 180; refine (outside_b _ _ _ _).mono ?_; rintro e w' ⟨rfl, rfl⟩)
 go_ret
 exact ⟨rfl, Chg.refl _ _⟩
set_option maxHeartbeats 400000 in
theorem flowPred (w : World) (xs : List Int) : PredI 257 #[] (outB 0 2000) w xs := by
 refine ⟨enters_of Tryz.func257 (by kernel_rfl) rfl, fun x hx w1 hc => ?_⟩
 go_enter Tryz.func257, Tryz.ntmps257
 go_wp2_with (go_at_call 180; refine (outside_b _ _ _ _).mono ?_; rintro e w' ⟨rfl, rfl⟩)
 go_ret
 exact ⟨ret_bool (rfl), Chg.refl _ _⟩

set_option maxHeartbeats 400000 in
theorem cyclesFault_any (v : Value) (c : List Int) (A : Nat → Prop) (w : World) (hv : IsSl w A v c) :
  Calls Tryz.prog 255 #[v] w fun e w' => e = .returned (.int .i64 (cycF c)) ∧ Chg NoB w w' := by
 have hcf := containsFuncI v c _ _ _ A w hv (cycPred1 w c)
 have HC := hid hcf; clear hcf
 obtain ⟨a, cap, rfl, h1, h2⟩ := hv.shape
 unfold maxLen at h2
 by_cases h0 : c.length = 0
 ·have hb : ((c.length : Int) == 0) = true := by simp [h0]
  have H0 := hid h0; clear h0
  go_enter Tryz.func255, Tryz.ntmps255
  go_wp2_with fail
  go_ret
  exact ⟨ret_int (by rw [cycF, if_pos H0.out]), Chg.refl _ _⟩
 ·have hb : ((c.length : Int) == 0) = false := beq_eq_false_iff_ne.2 (by omega)
  by_cases h6 : 6 < c.length
  ·go_enter Tryz.func255, Tryz.ntmps255
   go_wp2_with fail
   go_ret
   exact ⟨ret_int (by rw [cycF, if_neg h0, if_pos h6]), Chg.refl _ _⟩
  ·obtain ⟨q, hq⟩ : ∃ q, q = c.any (outB 1 10000000) := ⟨_, rfl⟩
   have HF : Hid (cycF c = if q then 1 else 0) := by rw [hq, cycF, if_neg h0, if_neg h6]; rfl
   rw [← hq] at HC
   clear hq
   cases q <;>
   ·go_enter Tryz.func255, Tryz.ntmps255
    go_wp2_with (go_at_call 256; refine HC.out.mono ?_; rintro e w1 ⟨rfl, hc1⟩)
    go_ret
    exact ⟨ret_int HF.out.symm, hc1⟩

set_option maxHeartbeats 400000 in
theorem flowFault_any (v1 v2 : Value) (c b : List Int) (n : Int) (A1 A2 : Nat → Prop) (w : World) (h1 : IsSl w A1 v1 c) (h2 : IsSl w A2 v2 b) :
  Calls Tryz.prog 178 #[v1, v2, .int .i64 n] w fun e w' => e = .returned (.int .i64 (flowF c b n)) ∧ Chg NoB w w' := by
 have HY := hid (cyclesFault_any v1 c A1 w h1)
 have HC : Hid (∀ w1, Chg NoB w w1 → _) := hid fun w1 (hc : Chg NoB w w1) => containsFuncI v2 b _ _ _ A2 w1 (h2.keepN hc) (flowPred w1 b)
 obtain ⟨a1, cap1, rfl, g1, g2⟩ := h1.shape
 obtain ⟨a2, cap2, rfl, g3, g4⟩ := h2.shape
 unfold maxLen at g2 g4
 obtain ⟨f, hf⟩ : ∃ f, f = cycF c := ⟨_, rfl⟩
 rw [← hf] at HY
 by_cases hf0 : f = 0
 ·subst hf0
  by_cases hl : (b.length : Int) = c.length - 1
  ·have hb : ((b.length : Int) != (c.length : Int) - 1) = false := by simp [hl]
   obtain ⟨q, hq⟩ : ∃ q, q = b.any (outB 0 2000) := ⟨_, rfl⟩
   obtain ⟨r, hr⟩ : ∃ r, r = outB 1 2000 n := ⟨_, rfl⟩
   have HR := hid hr
   have HF : Hid (flowF c b n = if q || r then 1 else 0) := by rw [hq, hr, flowF, if_neg (by simpa using hf.symm), if_neg (by simpa using hl)]; rfl
   rw [← hq] at HC
   clear hq hr hf hl
   cases q <;> cases r <;>
   ·go_enter Tryz.func178, Tryz.ntmps178
    go_wp2_with (first | (go_at_call 255; refine HY.out.mono ?_; rintro e w1 ⟨rfl, hc1⟩) | (go_at_call 256; refine (HC.out _ (by assumption)).mono ?_; rintro e w2 ⟨rfl, hc2⟩) | (go_at_call 180; refine (outside_b _ _ _ _).mono ?_; rw [← HR.out]; rintro e w3 ⟨rfl, rfl⟩))
    go_ret
    exact ⟨ret_int HF.out.symm, by first | exact (by assumption : Chg NoB w _) | exact Chg.trans (by assumption) (by assumption)⟩
  ·have hb : ((b.length : Int) != (c.length : Int) - 1) = true := by simp [hl]
   have HF : Hid (flowF c b n = 3) := by unfold Hid; rw [flowF, if_neg (by simpa using hf.symm), if_pos hl]
   clear hf hl
   go_enter Tryz.func178, Tryz.ntmps178
   go_wp2_with (go_at_call 255; refine HY.out.mono ?_; rintro e w1 ⟨rfl, hc1⟩)
   go_ret
   exact ⟨ret_int HF.out.symm, hc1⟩
 ·have hb : (f != 0) = true := by simp [hf0]
  have HF : Hid (flowF c b n = f) := by unfold Hid; rw [flowF, if_pos (by rw [← hf]; exact hf0), hf]
  clear hf hf0
  go_enter Tryz.func178, Tryz.ntmps178
  go_wp2_with (go_at_call 255; refine HY.out.mono ?_; rintro e w1 ⟨rfl, hc1⟩)
  go_ret
  exact ⟨ret_int HF.out.symm, hc1⟩

end Go.Proofs.YtemnnmohdpabhaaGreatDoor
namespace Go.Proofs.YtemnnmohdpabhaaGreatDoor
open Go.RowKit
set_option linter.unusedVariables false
set_option linter.unusedSimpArgs false

structure Mat {α : Type} [Enc α] (w : World) (lo g n : Nat) (eo ei : TypeId) (V : Nat → Value) (R : Nat → List α) : Prop where
 low : lo ≤ g
 ex : ∃ cur, w.heap[g]? = some (.cells cur eo (0, 0)) ∧ cur.size = n ∧ ∀ k, k < n → cur[k]? = some (V k)
 own : ∀ k, k < n → Own w lo ei (V k) (R k)
 out : ∀ k, k < n → (V k).ownBlock ≠ some g
 sep : ∀ j k, j < n → k < n → j ≠ k → ∀ q, (V j).ownBlock = some q → (V k).ownBlock ≠ some q

namespace Mat
variable {α : Type} [Enc α] {w w' : World} {lo g n : Nat} {eo ei : TypeId} {V : Nat → Value} {R R' : Nat → List α}
theorem lt (h : Mat w lo g n eo ei V R) : g < w.heap.size := by obtain ⟨cur, h1, _⟩ := h.ex; exact (Array.getElem?_eq_some_iff.1 h1).1
theorem start (w : World) (lo n : Nat) (eo ei : TypeId) (hlo : lo ≤ w.heap.size) : Mat (α := α) (w.alloc (.cells (Array.replicate n (.slice none 0 0)) eo)) lo w.heap.size n eo ei (fun _ => .slice none 0 0) (fun _ => []) :=
 ⟨hlo, ⟨_, heap_alloc_new w _, by simp, fun k hk => by simp [hk]⟩, fun k hk => Own.nil _ _ _, fun k hk => by simp [Value.ownBlock], fun j k _ _ _ q h => by simp [Value.ownBlock] at h⟩
theorem congr (h : Mat w lo g n eo ei V R) (e : ∀ k, k < n → R k = R' k) : Mat w lo g n eo ei V R' :=
 ⟨h.low, h.ex, fun k hk => e k hk ▸ h.own k hk, h.out, h.sep⟩
theorem keep {S : Nat → Prop} (h : Mat w lo g n eo ei V R) (c : Chg S w w') (hs : ∀ k, lo ≤ k → k < w.heap.size → ¬ S k) : Mat w' lo g n eo ei V R := by
 obtain ⟨cur, h1, h2, h3⟩ := h.ex
 exact ⟨h.low, ⟨cur, (c.block g h.lt (hs g h.low h.lt)).trans h1, h2, h3⟩, fun k hk => (h.own k hk).keep c hs, h.out, h.sep⟩
theorem cell (h : Mat w lo g n eo ei V R) (k : Nat) (hk : k < n) : w.cell? ⟨g, k, none⟩ = some (V k) := by
 obtain ⟨cur, h1, h2, h3⟩ := h.ex
 simp [World.cell?, h1, h3 k hk]
theorem froz (h : Mat w lo g n eo ei V R) (k : Nat) : w.frozen? ⟨g, k, none⟩ = false := by
 obtain ⟨cur, h1, h2, h3⟩ := h.ex
 simp [World.frozen?, h1]
theorem step [Flat α] (h : Mat w lo g n eo ei V R) (k : Nat) (hk : k < n) (v' : Value) (xs : List α) (ho : Own w' lo ei v' xs) (c : Chg (blk (V k)) w w')
  (hb : ∀ q, v'.ownBlock = some q → (V k).ownBlock = some q ∨ w.heap.size ≤ q) :
  Mat (w'.setCell ⟨g, k, none⟩ v') lo g n eo ei (fun j => if j = k then v' else V j) (fun j => if j = k then xs else R j) := by
 obtain ⟨cur, h1, h2, h3⟩ := h.ex
 have hg : w'.heap[g]? = some (.cells cur eo (0, 0)) := (c.block g h.lt (h.out k hk)).trans h1
 have hs : Chg (AtB g) w' (w'.setCell ⟨g, k, none⟩ v') := Chg.setAt _ _ _ _
 have hvg : v'.ownBlock ≠ some g := by
  intro e
  rcases hb g e with e | e
  ·exact h.out k hk e
  ·have := h.lt; omega
 refine ⟨h.low, ⟨cur.setIfInBounds k v', ?_, by simpa using h2, ?_⟩, ?_, ?_, ?_⟩
 ·simp [World.setCell, Array.getElem?_modify, hg]
 ·intro j hj
  rw [Array.getElem?_setIfInBounds]
  by_cases hjk : k = j
  ·subst hjk; simp [h2, hk]
  ·rw [if_neg hjk, if_neg (fun e => hjk e.symm)]; exact h3 j hj
 ·intro j hj
  by_cases hjk : j = k
  ·subst hjk
   simp only [if_true]
   exact ho.keepF hs fun q hq x => by unfold AtB at x; subst x; exact hvg hq
  ·simp only [if_neg hjk]
   refine ((h.own j hj).keepF c fun q hq x => h.sep j k hj hk hjk q hq x).keepF hs fun q hq x => ?_
   unfold AtB at x; subst x; exact h.out j hj hq
 ·intro j hj
  by_cases hjk : j = k
  ·subst hjk; simpa using hvg
  ·simp only [if_neg hjk]; exact h.out j hj
 ·intro j i hj hi hne q hq
  by_cases hjk : j = k
  ·subst hjk
   simp only [if_true, if_neg (fun e : i = j => hne e.symm)] at hq ⊢
   rcases hb q hq with e | e
   ·exact h.sep j i hk hi hne q e
   ·intro e2
    have := ((h.own i hi).lt q e2).2
    omega
  ·simp only [if_neg hjk] at hq
   by_cases hik : i = k
   ·subst hik
    simp only [if_true]
    intro e
    rcases hb q e with e | e
    ·exact h.sep j i hj hi hjk q hq e
    ·have := ((h.own j hj).lt q hq).2
     omega
   ·simp only [if_neg hik]; exact h.sep j i hj hi hne q hq
theorem isSl (h : Mat w lo g n eo ei V R) (hm : n ≤ maxLen) : IsSl w (fun k => lo ≤ k) (.slice (some ⟨g, 0, none⟩) n n) ((List.range n).map R) := by
 obtain ⟨cur, h1, h2, h3⟩ := h.ex
 refine .inr ⟨g, 0, n, cur, eo, by simp, h.low, by simp, hm, h1, fun i hi => ?_⟩
 simp at hi
 refine ⟨V i, ?_, ?_⟩
 ·simpa [Enc.sz] using h3 i hi
 ·simpa using (h.own i hi).isSl
end Mat

theorem Own.pcell {w : World} {lo e g n cap : Nat} {xs : List Pass} (h : Own w lo e (.slice (some ⟨g, 0, none⟩) n cap) xs) (i : Nat) (hi : i < xs.length) :
  w.cell? ⟨g, i * 2, none⟩ = some (.int .i64 xs[i].taken) ∧ w.cell? ⟨g, i * 2 + 1, none⟩ = some (.int .i64 xs[i].left) := by
 obtain ⟨b, off, ha, hb, hc⟩ := h.isSl.cells.2 (by omega)
 cases ha
 have := hc i hi
 simp only [Enc.Is, Enc.sz, Nat.zero_add, Nat.add_zero] at this
 exact this

theorem infoPass : (Tryz.prog.info? 224).map (fun i => (i.zero, i.size, i.bytes)) = some (some (.agg #[.int .i64 0, .int .i64 0]), 2, 16) := by kernel_rfl
theorem infoSlPass : (Tryz.prog.info? 222).map (fun i => (i.zero, i.size, i.bytes)) = some (some (.slice none 0 0), 1, 24) := by kernel_rfl

def PBlk (w : World) (P : Nat) (x y : Int) : Prop := w.heap[P]? = some (.cells #[.int .i64 x, .int .i64 y] 224 (0, 0))
theorem PBlk.new (w : World) (x y : Int) : PBlk (w.alloc (.cells #[.int .i64 x, .int .i64 y] 224)) w.heap.size x y := heap_alloc_new w _
theorem PBlk.facts {w : World} {P : Nat} {x y : Int} (h : PBlk w P x y) : w.cell? ⟨P, 0, none⟩ = some (.int .i64 x) ∧ w.cell? ⟨P, 1, none⟩ = some (.int .i64 y) ∧ w.frozen? ⟨P, 0, none⟩ = false ∧ w.frozen? ⟨P, 1, none⟩ = false := by
 unfold PBlk at h
 simp [World.cell?, World.frozen?, h]
theorem PBlk.set1 {w : World} {P : Nat} {x y : Int} (h : PBlk w P x y) (z : Int) : PBlk (w.setCell ⟨P, 1, none⟩ (.int .i64 z)) P x z := by
 unfold PBlk at h ⊢; simp [World.setCell, Array.getElem?_modify, h]

def rowP (c bf : List Int) (b k j : Nat) : List Pass := (List.range (if j < k then b + 1 else b)).map fun q => pas c bf q j


theorem flow_step {c bf : List Int} {w wr w5 w6 : World} {V : Nat → Value} {b k g6 cap6 : Nat} {ak : Option Addr} {capk : Nat} {T Z : Int} (hkl : k < c.length)
  (hmx : Mat w5 w.heap.size w.heap.size c.length 222 224 V (rowP c bf b k)) (hT : T = (pas c bf b k).taken) (hZ : Z = (pas c bf b k).left)
  (hv : V k = .slice ak b capk) (hown : Own w6 w.heap.size 224 (.slice (some ⟨g6, 0, none⟩) ((rowP c bf b k k).length + 1) cap6) (rowP c bf b k k ++ [⟨T, Z⟩]))
  (hc6 : Chg (blk (.slice ak b capk)) w5.drew w6) (hg6 : (Value.slice ak b capk).ownBlock = some g6 ∨ w5.drew.heap.size ≤ g6)
  (hch : Chg (NewB w.heap.size) w wr) (hcx : Chg (NewB wr.heap.size) wr w5) :
  Mat (w6.setCell ⟨w.heap.size, k, none⟩ (.slice (some ⟨g6, 0, none⟩) ((rowP c bf b k k).length + 1) cap6)) w.heap.size w.heap.size c.length 222 224
    (fun j => if j = k then .slice (some ⟨g6, 0, none⟩) ((rowP c bf b k k).length + 1) cap6 else V j) (rowP c bf b (k + 1)) ∧
   Chg (NewB w.heap.size) w (w6.setCell ⟨w.heap.size, k, none⟩ (.slice (some ⟨g6, 0, none⟩) ((rowP c bf b k k).length + 1) cap6)) ∧ here c bf b (k + 1) = Z := by
 rw [← hv] at hc6 hg6
 refine ⟨(hmx.step k hkl _ _ hown hc6.ofDrew fun q hq => ?_).congr fun j hj => ?_, ?_, ?_⟩
 ·simp only [Value.ownBlock, Option.some.injEq] at hq
  subst hq; exact hg6
 ·by_cases hjk : j = k
  ·subst hjk
   simp only [if_true, rowP, Nat.lt_irrefl, if_false, Nat.lt_succ_self, List.range_succ, List.map_append, List.map_cons, List.map_nil]
   rw [hT, hZ]
  ·simp only [if_neg hjk, rowP]
   have : j < k + 1 ↔ j < k := by omega
   simp only [this]
 ·have h1 : Chg (NewB w.heap.size) w w5 := hch.trans (hcx.mono fun q hq x => by have := hch.size; unfold NewB at x ⊢; omega)
  exact (h1.trans (hc6.ofDrew.mono fun q hq x => ((hmx.own k hkl).lt q x).1)).setCell (a := ⟨w.heap.size, k, none⟩) (fun _ => Nat.le_refl _) _
 ·simp [here, hZ]

set_option maxHeartbeats 2000000 in
set_option maxRecDepth 100000 in
theorem flow_any (v1 v2 : Value) (c bf : List Int) (n : Nat) (A1 A2 : Nat → Prop) (w : World) (h1 : IsSl w A1 v1 c) (h2 : IsSl w A2 v2 bf) (hr : RightLine c bf) (hn : n ≤ 2000) :
    Calls Tryz.prog 179 #[v1, v2, .int .i64 n] w fun e w' => ∃ v, e = .returned v ∧ IsSl w' (fun k => w.heap.size ≤ k) v ((List.range c.length).map fun k => (List.range n).map fun q => pas c bf q k) ∧ Chg NoB w w' := by
  obtain ⟨a1, cap1, rfl, g1, g2⟩ := h1.shape
  obtain ⟨a2, cap2, rfl, g3, g4⟩ := h2.shape
  unfold maxLen at g2 g4
  have hlen := hr.len
  have hpos := hr.pos
  have hbl := hr.bl
  have HR := hid hr; clear hr
  go_enter Tryz.func179, Tryz.ntmps179
  go_wp2_with (at_make; refine wpl_make_raw w rfl _ _ 220 222 rfl (.slice none 0 0) 24 Tryz.underlying220 infoSlPass rfl (by decide) .i64 .i64 _ _ rfl rfl c.length rfl rfl (by omega) ?_)
  have hst := Mat.start (α := Pass) w w.heap.size c.length 222 224 (Nat.le_refl _)
  obtain ⟨w0, hw0⟩ : ∃ w0, w0 = w.alloc (.cells (Array.replicate c.length (.slice none 0 0)) 222) := ⟨_, rfl⟩
  have hc0 : Chg NoB w w0 := by rw [hw0]; exact (Chg.refl _ _).alloc _
  rw [← hw0] at hst ⊢
  clear hw0
  go_loopw [8, 18] (fun _ i wr => ∃ (b : Nat) (V : Nat → Value), b ≤ n ∧ i = .int .i64 b ∧ Mat wr w.heap.size w.heap.size c.length 222 224 V (rowP c bf b 0) ∧ Chg (NewB w.heap.size) w wr)
    (fun _ i _ => n - (intOf i).toNat)
  case atStart => exact ⟨0, _, by omega, rfl, hst.congr fun k hk => by simp [rowP], hc0.any⟩
  case round =>
    obtain ⟨b, V, hb, rfl, hmat, hch⟩ := hrel
    by_cases hbn : b < n
    · obtain ⟨wo, rfl⟩ : ∃ wo : World, wo = wr := ⟨_, rfl⟩
      go_wp2_with fail
      go_loopw [9, 10, 11, 13, 23] (fun h _ _ _ i wr => ∃ (k : Nat) (V : Nat → Value), k ≤ c.length ∧ i = .int .i64 k ∧ h = .int .i64 (here c bf b k) ∧ Mat wr w.heap.size w.heap.size c.length 222 224 V (rowP c bf b k) ∧ Chg (NewB w.heap.size) w wr)
        (fun _ _ _ _ i _ => c.length - (intOf i).toNat)
      case atStart => exact ⟨0, _, by omega, rfl, rfl, hmat, hch⟩
      case round =>
        clear hmat hch
        obtain ⟨k, V, hk, rfl, rfl, hmat, hch⟩ := hrel
        by_cases hkl : k < c.length
        · have hszr := hch.size
          have hgl := hmat.lt
          obtain ⟨bc, oc, rfl, _, hcc⟩ := h1.ints (by omega)
          have hcell := hch.cellNew (Nat.le_refl _) (hcc k hkl)
          have hbd := pas_bd HR.out b k hkl
          have hck := HR.out.c1 k hkl
          have hac : at' c k = c[k] := by simp [at', hkl]
          rw [hac] at hbd hck
          obtain ⟨T, hT⟩ : ∃ T, T = (pas c bf b k).taken := ⟨_, rfl⟩
          obtain ⟨Z, hZ⟩ : ∃ Z, Z = (pas c bf b k).left := ⟨_, rfl⟩
          rw [← hT, ← hZ] at hbd
          have HT := hid hT; clear hT
          have HZ := hid hZ; clear hZ
          have HAC := hid hac; clear hac
          have HCC := hid hcc; clear hcc
          go_upto_if 31 with (fail)
          go_cut [] (fun wx => PBlk wx wr.heap.size T 0 ∧ Chg (NewB wr.heap.size) wr wx)
          case first =>
            have htk := pas_taken c bf b k
            rw [← HT.out] at htk
            by_cases hb0 : 0 < b
            · rw [if_neg (by omega)] at htk
              obtain ⟨q, rfl⟩ : ∃ q, b = q + 1 := ⟨b - 1, by omega⟩
              simp only [Nat.add_sub_cancel] at htk
              have HTK := hid htk; clear htk
              have hVk : (rowP c bf (q + 1) k k).length = q + 1 := by simp [rowP]
              have hok := hmat.own k hkl
              obtain ⟨ak, capk, hav, _, _⟩ := hok.shape
              rw [hav] at hok
              obtain ⟨gk, rfl, hgk1, hgk2⟩ := hok.head (by omega)
              have hov := hmat.cell k hkl
              rw [hav] at hov
              have hpk := (hok.pcell q (by omega)).2
              have e1 : (rowP c bf (q + 1) k k)[q]'(by omega) = pas c bf q k := by simp [rowP]
              rw [e1] at hpk
              rw [hVk] at hov
              clear e1 hVk hav
              go_wp2_with fail
              go_meet
              case rel =>
                rw [HTK.out]
                exact ⟨PBlk.new _ _ _, (Chg.refl _ _).alloc _⟩
            · rw [if_pos (by omega)] at htk
              have HTK := hid htk; clear htk
              go_wp2_with fail
              go_meet
              case rel =>
                rw [HTK.out]
                exact ⟨PBlk.new _ _ _, (Chg.refl _ _).alloc _⟩
          case rest =>
            obtain ⟨hpb, hcx⟩ := hcut
            obtain ⟨f0, f1, f2, f3⟩ := hpb.facts
            have hszx := hcx.size
            have hcell1 := hcx.cellNew (Nat.le_refl _) hcell
            go_upto_if 53 with (fail)
            have hpb1 := hpb.set1 (T + c[k])
            have hcx1 : Chg (NewB wr.heap.size) wr (wc.setCell ⟨wr.heap.size, 1, none⟩ (.int .i64 (T + c[k]))) := hcx.setCell (a := ⟨wr.heap.size, 1, none⟩) (fun _ => Nat.le_refl _) _
            go_cut [] (fun wx => PBlk wx wr.heap.size T Z ∧ Chg (NewB wr.heap.size) wr wx)
            case first =>
              have hlf := pas_left c bf b k
              rw [← HT.out, ← HZ.out, HAC.out] at hlf
              obtain ⟨f0', f1', f2', f3'⟩ := hpb1.facts
              by_cases hk1 : k + 1 < c.length
              · rw [if_pos hk1] at hlf
                obtain ⟨bb, ob, rfl, _, hbc⟩ := h2.ints (by omega)
                have hbcell := hcx1.cell (hch.cellNew (Nat.le_refl _) (hbc k (by omega))) (Nat.not_le_of_lt (World.block_lt_of_cell? _ _ (hch.cellNew (Nat.le_refl _) (hbc k (by omega)))))
                have hb0k := HR.out.b0 k
                have hbk : at' bf k = bf[k]'(by omega) := by simp [at', show k < bf.length by omega]
                obtain ⟨r, hr⟩ : ∃ r : Nat, bf[k]'(by omega) = (r : Int) := ⟨(bf[k]'(by omega)).toNat, by omega⟩
                rw [hr] at hbcell hbk
                rw [hbk] at hlf
                clear hbc hb0k hbk hr f0 f1 f2 f3
                by_cases hr0 : r = 0
                · subst hr0
                  rw [if_pos (by simp)] at hlf
                  by_cases hb0 : 0 < b
                  · obtain ⟨q, rfl⟩ : ∃ q, b = q + 1 := ⟨b - 1, by omega⟩
                    rw [if_neg (by omega)] at hlf
                    simp only [Nat.add_sub_cancel] at hlf
                    have HLF := hid hlf; clear hlf
                    have hVn : (rowP c bf (q + 1) k (k + 1)).length = q + 1 := by simp [rowP]
                    have hon := hmat.own (k + 1) hk1
                    obtain ⟨an, capn, han, _, _⟩ := hon.shape
                    rw [han] at hon
                    obtain ⟨gn, rfl, hgn1, hgn2⟩ := hon.head (by omega)
                    have hovn := hcx1.cell (hmat.cell (k + 1) hk1) (Nat.not_le_of_lt hgl)
                    rw [han, hVn] at hovn
                    have hpn := hcx1.cell (hon.pcell q (by omega)).2 (Nat.not_le_of_lt hgn2)
                    have e1 : (rowP c bf (q + 1) k (k + 1))[q]'(by omega) = pas c bf q (k + 1) := by simp [rowP]
                    rw [e1] at hpn
                    clear e1 hVn han
                    go_wp2_with fail
                    go_region
                    all_goals go_wp2_with fail
                    all_goals go_meet
                    case rel => rw [HLF.out]; exact ⟨hpb1.set1 _, (hcx1.setCell (a := ⟨wr.heap.size, 1, none⟩) (fun _ => Nat.le_refl _) _).drew⟩
                  · rw [if_pos (by omega)] at hlf
                    have HLF := hid hlf; clear hlf
                    have hb1 : b = 0 := by omega
                    subst hb1
                    go_wp2_with fail
                    go_meet
                    case rel => rw [HLF.out]; exact ⟨hpb1, hcx1⟩
                · rw [if_neg (by omega)] at hlf
                  by_cases hrb : r ≤ b
                  · rw [if_pos (by omega)] at hlf
                    have hr1 : ((r : Int) == 0) = false := by simp; omega
                    obtain ⟨t, rfl⟩ : ∃ t, b = t + r := ⟨b - r, by omega⟩
                    have ht1 : ((t + r : Nat) : Int) - ((r : Int)) = (t : Int) := by omega
                    have ht2 : t + r - (r : Int).toNat = t := by omega
                    rw [ht2] at hlf
                    have HLF := hid hlf; clear hlf ht2
                    have hVn : (rowP c bf (t + r) k (k + 1)).length = t + r := by simp [rowP]
                    have hon := hmat.own (k + 1) hk1
                    obtain ⟨an, capn, han, _, _⟩ := hon.shape
                    rw [han] at hon
                    obtain ⟨gn, rfl, hgn1, hgn2⟩ := hon.head (by omega)
                    have hovn := hcx1.cell (hmat.cell (k + 1) hk1) (Nat.not_le_of_lt hgl)
                    rw [han, hVn] at hovn
                    have hpn := hcx1.cell (hon.pcell t (by omega)).1 (Nat.not_le_of_lt hgn2)
                    have e1 : (rowP c bf (t + r) k (k + 1))[t]'(by omega) = pas c bf t (k + 1) := by simp [rowP]
                    rw [e1] at hpn
                    clear e1 hVn han
                    go_wp2_with fail
                    go_region
                    all_goals go_wp2_with fail
                    all_goals go_meet
                    case rel => rw [HLF.out]; exact ⟨hpb1.set1 _, (hcx1.setCell (a := ⟨wr.heap.size, 1, none⟩) (fun _ => Nat.le_refl _) _).drew⟩
                  · rw [if_neg (by omega)] at hlf
                    have HLF := hid hlf; clear hlf
                    have hr1 : ((r : Int) == 0) = false := by simp; omega
                    go_wp2_with fail
                    go_meet
                    case rel => rw [HLF.out]; exact ⟨hpb1, hcx1⟩
              · rw [if_neg hk1] at hlf
                have HLF := hid hlf; clear hlf
                go_wp2_with fail
                go_meet
                case rel => rw [HLF.out]; exact ⟨hpb1, hcx1⟩
            case rest =>
              clear hpb hcx f0 f1 f2 f3 hcell1 hpb1 hcx1 hszx
              obtain ⟨hpb, hcx⟩ := hcut
              obtain ⟨w5, rfl⟩ : ∃ w5 : World, w5 = wc := ⟨_, rfl⟩
              obtain ⟨f0, f1, f2, f3⟩ := hpb.facts
              have hszx := hcx.size
              have hVk : (rowP c bf b k k).length = b := by simp [rowP]
              have hmx : Mat w5 w.heap.size w.heap.size c.length 222 224 V (rowP c bf b k) := hmat.keep hcx fun q _ h2 h3 => Nat.not_le_of_lt h2 h3
              have hok := hmx.own k hkl
              obtain ⟨ak, capk, hav, _, _⟩ := hok.shape
              have hov := hmx.cell k hkl
              have hfz := hmx.froz k
              rw [hav] at hok
              rw [hav, hVk] at hov
              rw [hVk] at hok
              obtain ⟨i0, hi, hz0, hz1, hz2⟩ := info_parts infoPass
              have HI := hid hi; clear hi
              have HZ0 := hid hz0; clear hz0
              have HZ1 := hid hz1; clear hz1
              have HZ2 := hid hz2; clear hz2
              have HOUT := hid (hmx.out k hkl)
              rw [hav, hVk] at HOUT
              have HAV : Hid (V k = .slice ak b capk) := by unfold Hid; rw [hav, hVk]
              clear hav
              have hpout : ¬ blk (.slice ak b capk) wr.heap.size := fun x => by
                have := ((hmat.own k hkl).lt wr.heap.size (by rw [HAV.out]; exact x)).2
                omega
              have HPO := hid hpout; clear hpout
              have hlo5 : w.heap.size ≤ w5.heap.size := by omega
              have hlt5 : w.heap.size < w5.heap.size := hmx.lt
              have hVk' : (rowP c bf b k k).length ≤ 1000000000 := by omega
              have hHV := hid hVk; clear hVk
              go_wp2_with fail
              go_region_law ((refine step_append1 (α := Pass) w5.drew #[.int .i64 T, .int .i64 Z] rfl (.tmp 107) (.tmp 109) 222 224 rfl i0 (.agg #[.int .i64 0, .int .i64 0]) 16 Tryz.underlying222 HI.out HZ0.out HZ1.out HZ2.out rfl (by decide) w.heap.size (.slice ak b capk) (rowP c bf b k k) ⟨T, Z⟩ hok hlo5 hVk' ⟨rfl, rfl⟩ rfl rfl rfl ?_; intro g6 cap6 w6 hown6 hc6 hg6 hl6; have hov6 := hc6.cell hov (fun x => HOUT.out x); have hfz6 := (hc6.froz (a := ⟨w.heap.size, k, none⟩) hlt5 (fun x => HOUT.out x)).trans hfz; have hp6 := hc6.cell f1 (fun x => HPO.out x)))
              all_goals go_wp2_with fail
              all_goals
                have hfs := flow_step hkl hmx HT.out HZ.out HAV.out hown6 hc6 hg6 hch hcx
                go_roundw
                case rel => exact ⟨k + 1, _, by omega, by go_num, by rw [hfs.2.2], hfs.1, hfs.2.1⟩
                case measure => simp [intOf]; omega
        · go_wp2_with fail
          go_roundw
          case rel => exact ⟨b + 1, V, by omega, by go_num, hmat.congr fun j hj => by simp [rowP, show j < k by omega], hch⟩
          case measure => simp [intOf]; omega
    · obtain rfl : b = n := by omega
      go_wp2_with fail
      go_ret
      refine ⟨_, rfl, ?_, hch.mono fun q h1 h2 => by unfold NewB at h2; omega⟩
      have := hmat.isSl (by simp only [maxLen]; omega)
      have e : rowP c bf b 0 = fun k => (List.range b).map fun q => pas c bf q k := by funext k; simp [rowP]
      rwa [e] at this
end Go.Proofs.YtemnnmohdpabhaaGreatDoor
namespace Go.Proofs.YtemnnmohdpabhaaGreatDoor
open Go.RowKit
set_option linter.unusedVariables false
set_option linter.unusedSimpArgs false

theorem any_false {lo hi : Int} {xs : List Int} (h : xs.any (outB lo hi) = false) : ∀ k, k < xs.length → lo ≤ at' xs k ∧ at' xs k ≤ hi := by
 intro k hk
 rw [List.any_eq_false] at h
 have := h xs[k] (List.getElem_mem _)
 simp only [outB, Bool.or_eq_true, decide_eq_true_eq, not_or] at this
 simp only [at', List.getD, List.getElem?_eq_getElem hk, Option.getD_some]
 omega

theorem flowF_right {c b : List Int} {n : Int} (h : flowF c b n = 0) : RightLine c b ∧ 1 ≤ n ∧ n ≤ 2000 := by
 unfold flowF at h
 by_cases hc : cycF c ≠ 0
 ·rw [if_pos hc] at h; exact absurd h hc
 ·rw [if_neg hc] at h
  have hc' : cycF c = 0 := by simpa using hc
  unfold cycF at hc'
  by_cases h0 : c.length = 0
  ·rw [if_pos h0] at hc'; omega
  ·rw [if_neg h0] at hc'
   by_cases h6 : 6 < c.length
   ·rw [if_pos h6] at hc'; omega
   ·rw [if_neg h6] at hc'
    cases ha : c.any (outB 1 10000000) with
    | true => rw [ha] at hc'; simp at hc'
    | false =>
     by_cases hl : (b.length : Int) ≠ c.length - 1
     ·rw [if_pos hl] at h; omega
     ·rw [if_neg hl] at h
      cases hb : b.any (outB 0 2000) with
      | true => rw [hb] at h; simp at h
      | false =>
       cases hn : outB 1 2000 n with
       | true => rw [hn] at h; simp at h
       | false =>
        simp only [outB, Bool.or_eq_false_iff, decide_eq_false_iff_not] at hn
        refine ⟨⟨by omega, by omega, any_false ha, fun k => ?_, by omega⟩, by omega, by omega⟩
        by_cases hk : k < b.length
        ·exact (any_false hb k hk).1
        ·simp [at', List.getD, List.getElem?_eq_none (show b.length ≤ k by omega)]

theorem IsSl.rows {α : Type} [Enc α] {w : World} {A : Nat → Prop} {a : Option Addr} {n cap : Nat} {xs : List (List α)} (h : IsSl w A (.slice a n cap) xs) (hp : 0 < xs.length) :
  ∃ b off, a = some ⟨b, off, none⟩ ∧ A b ∧ ∀ i, (hi : i < xs.length) → ∃ v, w.cell? ⟨b, off + i, none⟩ = some v ∧ IsSl w A v xs[i] := by
 obtain ⟨b, off, ha, hb, hc⟩ := h.cells.2 hp
 refine ⟨b, off, ha, hb, fun i hi => ?_⟩
 have := hc i hi
 simpa [Enc.Is, Enc.sz] using this
theorem IsSl.passes {w : World} {A : Nat → Prop} {a : Option Addr} {n cap : Nat} {xs : List Pass} (h : IsSl w A (.slice a n cap) xs) (hp : 0 < xs.length) :
  ∃ b off, a = some ⟨b, off, none⟩ ∧ A b ∧ ∀ i, (hi : i < xs.length) → w.cell? ⟨b, off + i * 2, none⟩ = some (.int .i64 xs[i].taken) ∧ w.cell? ⟨b, off + i * 2 + 1, none⟩ = some (.int .i64 xs[i].left) := by
 obtain ⟨b, off, ha, hb, hc⟩ := h.cells.2 hp
 refine ⟨b, off, ha, hb, fun i hi => ?_⟩
 have := hc i hi
 simpa [Enc.Is, Enc.sz] using this

def leaves (c bf : List Int) (n : Nat) : List Int := (List.range n).map fun q => (pas c bf q (c.length - 1)).left
def leavesF (c bf : List Int) (n : Int) : List Int := if flowF c bf n = 0 then leaves c bf n.toNat else []

set_option maxHeartbeats 1000000 in
theorem leave_any (v1 v2 : Value) (c bf : List Int) (n : Int) (A1 A2 : Nat → Prop) (w : World) (h1 : IsSl w A1 v1 c) (h2 : IsSl w A2 v2 bf) :
  Calls Tryz.prog 95 #[v1, v2, .int .i64 n] w fun e w' => ∃ v, e = .returned (.tuple #[v, .int .i64 (flowF c bf n)]) ∧ IsSl w' (fun k => w.heap.size ≤ k) v (leavesF c bf n) ∧ Chg NoB w w' := by
 have HF := hid (flowFault_any v1 v2 c bf n A1 A2 w h1 h2)
 by_cases hf : flowF c bf n = 0
 ·obtain ⟨hr, hn1, hn2⟩ := flowF_right hf
  obtain ⟨m, rfl⟩ : ∃ m : Nat, n = m := ⟨n.toNat, by omega⟩
  have HL : Hid (leavesF c bf m = leaves c bf m) := by unfold Hid; rw [leavesF, if_pos hf]; simp
  have HFL : Hid (∀ w1, Chg NoB w w1 → _) := hid fun w1 (hc : Chg NoB w w1) => flow_any v1 v2 c bf m A1 A2 w1 (h1.keepN hc) (h2.keepN hc) hr (by omega)
  have hpos := hr.pos
  have hlen := hr.len
  rw [hf] at HF ⊢
  have HR := hid hr; clear hr hf
  go_enter Tryz.func95, Tryz.ntmps95
  go_wp2_with fail
  refine HF.out.mono ?_
  rintro e w1 ⟨rfl, hc1⟩
  go_wp2_with fail
  refine (HFL.out w1 hc1).mono ?_
  rintro e w2 ⟨v, rfl, hv, hc2⟩
  obtain ⟨a, cap, rfl, g1, g2⟩ := hv.shape
  obtain ⟨b, off, rfl, hb, hrows⟩ := hv.rows (by simp; omega)
  obtain ⟨vr, hcell, hrow⟩ := hrows (c.length - 1) (by simp; omega)
  obtain ⟨ar, capr, rfl, g3, g4⟩ := hrow.shape
  simp only [List.getElem_map, List.getElem_range, List.length_map, List.length_range] at hcell hrow g1 g3 ⊢
  have hc12 := hc1.trans hc2
  have hsz2 := hc12.size
  go_wp2_with fail
  go_loopw [10, 12, 31] (fun v _ i wr => ∃ (j : Nat), j ≤ m ∧ i = .int .i64 j ∧ Own wr w2.heap.size 3 v ((List.range j).map fun q => (pas c bf q (c.length - 1)).left) ∧ Chg (NewB w2.heap.size) w2 wr)
   (fun _ _ i _ => m - (intOf i).toNat)
  case atStart => exact ⟨0, by omega, rfl, Own.nil _ _ _, Chg.refl _ _⟩
  case round =>
   obtain ⟨j, hj, rfl, hown, hch⟩ := hrel
   have hszr := hch.size
   by_cases hjm : j < m
   ·obtain ⟨br, offr, rfl, _, hps⟩ := hrow.passes (by simp; omega)
    obtain ⟨p0, p1⟩ := hps j (by simp; omega)
    simp only [List.getElem_map, List.getElem_range] at p0 p1
    have p0' := hch.cellNew (Nat.le_refl _) p0
    have p1' := hch.cellNew (Nat.le_refl _) p1
    clear hps p0 p1
    obtain ⟨X, hX⟩ : ∃ X, X = (pas c bf j (c.length - 1)).left := ⟨_, rfl⟩
    obtain ⟨Y, hY⟩ : ∃ Y, Y = (pas c bf j (c.length - 1)).taken := ⟨_, rfl⟩
    rw [← hX] at p1'
    rw [← hY] at p0'
    have HX := hid hX; clear hX hY
    obtain ⟨av, capv, hv', _, _⟩ := hown.shape
    simp only [List.length_map, List.length_range] at hv'
    subst hv'
    have hal := hown.keep (S := NoB) ((Chg.refl NoB wr).alloc (.cells #[.int .i64 Y, .int .i64 X] 224)) (fun _ _ _ x => x)
    go_wp2_with (at_builtin; refine wpl_append_intB (wr.alloc (.cells #[.int .i64 Y, .int .i64 X] 224)) rfl _ _ 22 3 rfl Tryz.underlying22 infoInt w2.heap.size _ _ _ hal (by simp; omega) (by simp; omega) _ (by simp) j (by simp) rfl rfl ?_; intro g cap' w3 hown3 hc3 hg3 hlg)
    have hc23 : Chg (NewB w2.heap.size) w2 w3 := (hch.trans ((Chg.refl _ wr).alloc _)).trans (hc3.mono fun q hq x => (hal.lt q x).1)
    go_roundw
    case rel => exact ⟨j + 1, by omega, by go_num, by rw [List.range_succ, List.map_append]; simpa [HX.out] using hown3, hc23⟩
    case measure => simp [intOf]; omega
   ·obtain rfl : j = m := by omega
    go_wp2_with fail
    go_ret2
    exact ⟨_, rfl, by rw [HL.out]; exact hown.isSl.low fun q hq _ => by omega, hc12.trans (hch.mono fun q h1 h2 => by unfold NewB at h2; omega)⟩
 ·have hb : (flowF c bf n != 0) = true := by simp [hf]
  have HL : Hid (leavesF c bf n = []) := by unfold Hid; rw [leavesF, if_neg hf]
  clear hf
  go_enter Tryz.func95, Tryz.ntmps95
  go_wp2_with fail
  refine HF.out.mono ?_
  rintro e w1 ⟨rfl, hc1⟩
  go_wp2_with fail
  go_ret2
  exact ⟨_, rfl, by rw [HL.out]; exact IsSl.nil _ _, hc1⟩
end Go.Proofs.YtemnnmohdpabhaaGreatDoor
namespace Go.Proofs.YtemnnmohdpabhaaGreatDoor
open Go.RowKit
set_option linter.unusedVariables false
set_option linter.unusedSimpArgs false

theorem lined_flow : flowF [10, 30] [0] 2 = 0 := by decide +kernel
theorem lined_leaves : leavesF [10, 30] [0] 2 = [40, 70] := by
 rw [leavesF, if_pos lined_flow]
 have a00 : (pas [10, 30] [0] 0 0).taken = 0 := by rw [pas_taken]; simp [here]
 have b00 : (pas [10, 30] [0] 0 0).left = 10 := by rw [pas_left, a00]; simp [at']
 have a01 : (pas [10, 30] [0] 0 1).taken = 10 := by rw [pas_taken]; simp [here, b00]
 have b01 : (pas [10, 30] [0] 0 1).left = 40 := by rw [pas_left, a01]; simp [at']
 have a10 : (pas [10, 30] [0] 1 0).taken = 10 := by rw [pas_taken]; simp [here, b00]; decide
 have b10 : (pas [10, 30] [0] 1 0).left = 40 := by rw [pas_left, a10]; simp [at', b01]; decide
 have a11 : (pas [10, 30] [0] 1 1).taken = 40 := by rw [pas_taken]; simp [here, b10, b01]
 have b11 : (pas [10, 30] [0] 1 1).left = 70 := by rw [pas_left, a11]; simp [at']
 simp [leaves, List.range_succ, b01, b11]

set_option maxHeartbeats 400000 in
theorem lined_any (w : World) : Calls Tryz.prog 25 #[] w fun e w' => e = .returned (.bool true) ∧ Chg NoB w w' := by
 go_enter Tryz.func25, Tryz.ntmps25
 go_wp2_with fail
 have h1 := isSl_lit w [10, 30] 3 (by simp [maxLen])
 have hc1 : Chg NoB w (w.alloc (.cells #[.int .i64 10, .int .i64 30] 3)) := (Chg.refl _ _).alloc _
 have h2 := isSl_lit (w.alloc (.cells #[.int .i64 10, .int .i64 30] 3)) [0] 3 (by simp [maxLen])
 have e1 : (w.alloc (.cells #[.int .i64 10, .int .i64 30] 3)).heap.size = w.heap.size + 1 := by simp
 rw [e1] at h2
 have h1' := h1.keepN ((Chg.refl NoB (w.alloc (.cells #[.int .i64 10, .int .i64 30] 3))).alloc (.cells #[.int .i64 0] 3))
 refine (leave_any _ _ [10, 30] [0] 2 _ _ _ h1' h2).mono ?_
 rw [lined_flow, lined_leaves]
 rintro e w2 ⟨v, rfl, hv, hc⟩
 have hch : Chg NoB w w2 := (((Chg.refl _ w).alloc _).alloc _).trans hc
 obtain ⟨a, cap, rfl, g1, g2⟩ := hv.shape
 obtain ⟨b, o, rfl, hb, hcell⟩ := hv.ints (by simp)
 have c1 := hcell 1 (by simp)
 simp at c1 g1
 unfold maxLen at g2
 clear hcell
 go_wp2_with fail
 go_ret
 exact ⟨rfl, hch⟩
end Go.Proofs.YtemnnmohdpabhaaGreatDoor
namespace Go.Proofs.YtemnnmohdpabhaaGreatDoor
open Go.RowKit
set_option linter.unusedVariables false
set_option linter.unusedSimpArgs false

theorem lined_S : SpecN Tryz.prog 25 [] (fun y => y = avB true) := by
 intro w us ha
 have : us = #[] := Array.eq_empty_of_size_eq_zero (by simpa using ha.1)
 subst this
 refine (lined_any w).mono ?_
 rintro e w' ⟨rfl, h⟩
 exact ⟨_, _, rfl, rfl, .v _, h, trivial⟩

end Go.Proofs.YtemnnmohdpabhaaGreatDoor
namespace Go.Proofs.YtemnnmohdpabhaaGreatDoor
open Go.RowKit
set_option linter.unusedVariables false
set_option linter.unusedSimpArgs false
set_option maxRecDepth 100000 in
theorem rl_errsN {xs : List Int} (hl : xs.length ≤ 1000000000) :
  SpecN Tryz.prog 16 [avInts xs] (fun y => y = avI (errsF xs)) := by
 refine SpecN.of_VCN Tryz.func16 rfl Tryz.ntmps16 (Nle rfl) fun w A hB => ?_
 have hnew : True := trivial
 refine VC.sr ?_
 refine VO.ma rfl rfl rfl rfl ?_
 refine VO.nil ?_
 refine VC.seq ?_
 refine VC.sr ?_
 refine VO.mv rfl rfl rfl rfl ?_
 refine VO.val rfl rfl (OpV.len_im rfl Tryz.underlying123 rfl) ?_
 refine VO.mv rfl rfl rfl rfl ?_
 refine VO.nil ?_
 refine VC.block ?_
 refine VC.loopK [(5, _), (6, _)] ⟨rfl, rfl, trivial⟩ ({q : Nat // q ≤ xs.length ∧ ∀ j, j < q → xs.getD j 0 = 0}) (fun (iZ : {q : Nat // q ≤ xs.length ∧ ∀ j, j < q → xs.getD j 0 = 0}) => match iZ with | ⟨q, hq, hn⟩ => [(7, avI (q : Int))]) (fun (iZ : {q : Nat // q ≤ xs.length ∧ ∀ j, j < q → xs.getD j 0 = 0}) => match iZ with | ⟨q, hq, hn⟩ => []) (fun (iZ : {q : Nat // q ≤ xs.length ∧ ∀ j, j < q → xs.getD j 0 = 0}) => match iZ with | ⟨q, hq, hn⟩ => 0) (fun (iZ : {q : Nat // q ≤ xs.length ∧ ∀ j, j < q → xs.getD j 0 = 0}) => match iZ with | ⟨q, hq, hn⟩ => xs.length - q) ⟨0, Nat.zero_le _, fun j hj => absurd hj (Nat.not_lt_zero j)⟩ (Le.mk hB [] ⟨rfl, rfl, rfl, trivial⟩ rfl rfl (Nat.le_refl _)) ?_
 rintro ⟨q, hq, hn⟩
 show VC _ _ _ _ ⟨[(7, avI (q : Int))] ++ [(5, _), (6, _)], [], 0⟩
 refine VC.sr ?_
 refine VO.val rfl rfl (OpV.lss rfl rfl rfl) ?_
 refine VO.nil ?_
 refine VC.seq ?_
 refine VC.cond rfl (fun aH1b => ?_) (fun aH1b => ?_)
 ·have aH1 := aH1b
  try simp only [qqT, qqF, qqN, qqM, qqL, qqE] at aH1
  refine VC.skip ?_
  refine VC.seq ?_
  refine VC.block ?_
  refine VC.sr ?_
  refine VO.val rfl rfl (OpV.indexAddr_1 rfl Tryz.underlying123 Tryz.sizeOf33 rfl rfl rfl (by omega)) ?_
  refine VO.val rfl rfl (OpV.load_at rfl hB OutW.no Tryz.isAgg33 rfl rfl) ?_
  refine VO.ma rfl rfl rfl rfl ?_
  refine VO.nil ?_
  refine VC.sr ?_
  refine VO.mv rfl rfl rfl rfl ?_
  refine VO.val rfl rfl (OpV.neq rfl rfl rfl) ?_
  refine VO.nil ?_
  refine VC.cond rfl (fun h1b => ?_) (fun h1b => ?_)
  ·have h1 := h1b
   try simp only [qqT, qqF, qqN, qqM, qqL, qqE] at h1
   refine VC.sr ?_
   refine VO.mv rfl rfl rfl rfl ?_
   refine VO.ma rfl rfl rfl rfl ?_
   refine VO.nil ?_
   refine VC.ret ?_
   exact Exists.intro _ (And.intro (RetN.one Tryz.results16 (ResN.v rfl)) (by rw [errsF_at (q := q) (by omega) hn h1]))
  ·have h1 := h1b
   try simp only [qqT, qqF, qqN, qqM, qqL, qqE] at h1
   refine VC.skip ?_
   refine VC.region ?_
   refine VO.val rfl rfl (OpV.add rfl rfl rfl (by unfold fits; omega)) ?_
   refine VO.mv rfl rfl rfl rfl ?_
   refine VO.nil ?_
   exact Exists.intro (⟨q + 1, by omega, lt_succ_cases hn ((by omega))⟩) (And.intro (Le.mk hB [] ⟨rfl, rfl, rfl, trivial⟩ rfl rfl (Nat.le_refl _)) (by first | omega | (show _ < _; omega) | (simp only []; omega)))
 ·have aH1 := aH1b
  try simp only [qqT, qqF, qqN, qqM, qqL, qqE] at aH1
  refine VC.exit ?_
  refine VC.sr ?_
  refine VO.ma rfl rfl rfl rfl ?_
  refine VO.nil ?_
  refine VC.ret ?_
  exact Exists.intro _ (And.intro (RetN.one Tryz.results16 (ResN.v rfl)) (by rw [errsF_none (fun j hj => hn j (by omega))]))
section
variable {ms : List Mach} {ns : List NeedS}
theorem errs_fltB : errsF [machF ms, needsF ns 1 1000] = faultF ms ns := by
  by_cases h : machF ms = 0
  · rw [faultF, if_neg (by omega)]
    by_cases h2 : needsF ns 1 1000 = 0
    · rw [h, h2]; rfl
    · exact errsF_at (q := 1) (by simp) (fun j hj => by obtain rfl : j = 0 := by omega
                                                        exact h) h2
  · rw [faultF, if_pos h]; exact errsF_at (q := 0) (by simp) (fun j hj => absurd hj (by omega)) h
structure BalEq (ms : List Mach) (ns : List NeedS) : Prop where
 err : balE ms ns = if 12 < ns.length then 2 else 0
 ok : (refB ms ns).found = balOk ms ns
 pl : balOk ms ns = true → (refB ms ns).best = balL ms ns ∧ (refB ms ns).least = balV ms ns
 no : balOk ms ns = false → balL ms ns = [] ∧ balV ms ns = 0
 len : (balL ms ns).length ≤ 1000
theorem bal_eq (h0 : faultF ms ns = 0) : BalEq ms ns := by
 obtain ⟨hm, hn⟩ := faultF_0 h0
 have hM := MnOk.mk' hm hn
 by_cases h12 : 12 < ns.length
 ·obtain ⟨b1, b2, b3, b4⟩ := bal_2 h0 h12
  have e : refB ms ns = ⟨[], 0, false⟩ := by rw [refB, if_pos h12]
  exact ⟨by rw [b1, if_pos h12], by rw [e, b2], (fun h => (by rw [b2] at h; cases h)), fun _ => ⟨b3, b4⟩, by rw [b3]; exact Nat.zero_le _⟩
 ·have e : refB ms ns = if bstV ms ns ns.length [] < neverC then ⟨grd ms ns ns.length [], bstV ms ns ns.length [], true⟩ else ⟨[], 0, false⟩ := by rw [refB, if_neg h12, bal_ref hM hm]
  by_cases h3 : bstV ms ns ns.length [] < neverC
  ·obtain ⟨b1, b2, b3, b4⟩ := bal_4 h0 (by omega) h3
   rw [if_pos h3] at e
   exact ⟨by rw [b1, if_neg h12], by rw [e, b2], (fun _ => (by rw [e, b3, b4]; exact ⟨rfl, rfl⟩)), fun h => (by rw [b2] at h; cases h), by rw [b3, (grd_ok hM h3).1.len]; omega⟩
  ·obtain ⟨b1, b2, b3, b4⟩ := bal_3 h0 (by omega) h3
   rw [if_neg h3] at e
   exact ⟨by rw [b1, if_neg h12], by rw [e, b2], fun h => (by rw [b2] at h; cases h), fun _ => ⟨b3, b4⟩, by rw [b3]; exact Nat.zero_le _⟩
theorem fst_eq (h0 : faultF ms ns = 0) : fstP ms ns = fstQ ms ns ∧ fstK ms ns = (fstR ms ns).isSome ∧ (fstQ ms ns).length ≤ 1000 := by
 obtain ⟨hm, hn⟩ := faultF_0 h0
 have hnl := needsF_len hn
 unfold fstP fstK fstQ
 rw [if_pos h0, decide_eq_true h0]
 refine ⟨rfl, rfl, ?_⟩
 cases he : fstR ms ns with
 | none => exact Nat.zero_le _
 | some r => have := (fstR_valid hm he).len; show r.length ≤ _; omega
theorem eqLs_refl (l : List ByteArray) : eqLs sEq l l = true := eqLs_all (d := ByteArray.empty) rfl fun j hj => sEq_refl _
end
set_option maxRecDepth 100000 in
set_option maxHeartbeats 40000000 in
theorem linesBalanced_any (a0 : Option Addr) (cap0 : Nat) (L : List Int) (w : World) (hin : Inp w a0 L) :
    Calls Tryz.prog 3 #[.slice a0 L.length cap0] w fun e w' => e = .returned (.bool true) ∧ Chg NoB w w' := by
  refine law_calls Tryz.func3 rfl Tryz.ntmps3 (Nle rfl) Tryz.results3 ?_
  have hB := B0.ok w (fun _ => True) 154
  have hnew : True := trivial
  refine VC.sr ?_
  refine VO.ma rfl rfl rfl rfl ?_
  refine VO.nil ?_
  refine VC.sr ?_
  refine VO.mv rfl rfl rfl rfl ?_
  refine VO.val rfl rfl (OpV.build (pls := #[(0, 1), (1, 1)]) rfl Tryz.zeroValue25 Tryz.underlying25 (fun w => by kernel_rfl) rfl rfl) ?_
  refine VO.op rfl (OpE.box rfl hB rfl rfl rfl ?_)
  intro g
  refine VO.ma rfl rfl rfl rfl ?_
  refine VO.nil ?_
  refine VC.stream (i := 0) (sl := [(3, sp g)]) (by exact rfl) (by exact rfl) hin (by exact ⟨rfl, trivial⟩) (fun p hp => by simp at hp; subst hp; exact ⟨_, rfl⟩) (fun w1 hge hB => ?_)
  refine VC.sr ?_
  refine VO.mv rfl rfl rfl rfl ?_
  refine VO.op rfl (OpE.callT' (0) rfl rfl hB rfl Tryz.call8 rfl (machines_T) (by omega) ?_)
  rintro _ ⟨ms0, hms, rfl⟩
  refine VO.mv rfl rfl rfl rfl ?_
  refine VO.op rfl (OpE.callT' (0 + 60) rfl rfl hB rfl Tryz.call9 rfl (needList_T) (by omega) ?_)
  rintro _ ⟨ns0, hns, rfl⟩
  refine VO.ma rfl rfl rfl rfl ?_
  refine VO.ma rfl rfl rfl rfl ?_
  refine VO.nil ?_
  refine VC.joinI ({z : List Mach × List NeedS // SmallM z.1 ∧ SmallN z.2 ∧ z.2.length ≤ 13}) (fun (iZ : {z : List Mach × List NeedS // SmallM z.1 ∧ SmallN z.2 ∧ z.2.length ≤ 13}) => match iZ with | ⟨⟨ms, ns⟩, hm, hn, h13⟩ => ⟨[(4, avL ms), (5, avL ns)], [], 1000⟩) ?_ ?_
  ·
    refine VC.sr ?_
    refine VO.mv rfl rfl rfl rfl ?_
    refine VO.op rfl (OpE.callT' (0 + 60 + 20) rfl rfl hB rfl Tryz.call10 rfl (flip_T (by decide)) (by omega) ?_)
    rintro _ ⟨r34, rfl⟩
    refine VO.nil ?_
    refine VC.cond rfl (fun aH1b => ?_) (fun aH1b => ?_)
    · have aH1 := aH1b
      try simp only [qqT, qqF, qqN, qqM, qqL, qqE] at aH1
      refine VC.region ?_
      refine VO.mv rfl rfl rfl rfl ?_
      refine VO.op rfl (OpE.callT' (0 + 60 + 20 + 1) rfl rfl hB rfl Tryz.call11 rfl (manyNeeds_T) (by omega) ?_)
      rintro _ ⟨ms37, ns37, hmn37, rfl⟩
      refine VO.mv rfl rfl rfl rfl ?_
      refine VO.val rfl rfl (OpV.extract rfl rfl rfl) ?_
      refine VO.val rfl rfl (OpV.extract rfl rfl rfl) ?_
      refine VO.ma rfl rfl rfl rfl ?_
      refine VO.ma rfl rfl rfl rfl ?_
      refine VO.nil ?_
      exact Exists.intro (⟨(ms37, ns37), hmn37.1, hmn37.2.1, hmn37.2.2⟩) (Le.mk hB [] ⟨rfl, rfl, trivial⟩ rfl rfl (Nle rfl))
    · have aH1 := aH1b
      try simp only [qqT, qqF, qqN, qqM, qqL, qqE] at aH1
      refine VC.skip ?_
      exact Exists.intro (⟨(ms0, ns0), hms.1, hns.1, by show ns0.length ≤ 13; omega⟩) (Le.mk hB [] ⟨rfl, rfl, trivial⟩ rfl rfl (Nle rfl))
  ·
    rintro ⟨⟨ms, ns⟩, hm, hn, h13⟩
    show VC _ _ _ _ ⟨[(4, avL ms), (5, avL ns)], [], 1000⟩
    simp only at hm hn h13
    obtain ⟨P, hP⟩ : ∃ P, balL ms ns = P := ⟨_, rfl⟩
    obtain ⟨X, hX⟩ : ∃ X, balV ms ns = X := ⟨_, rfl⟩
    obtain ⟨O, hO⟩ : ∃ O, balOk ms ns = O := ⟨_, rfl⟩
    obtain ⟨E, hE⟩ : ∃ E, balE ms ns = E := ⟨_, rfl⟩
    obtain ⟨Q, hQ⟩ : ∃ Q, fstP ms ns = Q := ⟨_, rfl⟩
    obtain ⟨K, hK⟩ : ∃ K, fstK ms ns = K := ⟨_, rfl⟩
    obtain ⟨F, hF⟩ : ∃ F, faultF ms ns = F := ⟨_, rfl⟩
    obtain ⟨B, hBn⟩ : ∃ B, (if faultF ms ns = 0 then bndF ms ns else 0) = B := ⟨_, rfl⟩
    obtain ⟨Y, hY⟩ : ∃ Y, (if faultF ms ns = 0 then nobL ms ns else []) = Y := ⟨_, rfl⟩
    refine VC.sr ?_
    refine VO.mv rfl rfl rfl rfl ?_
    refine VO.mv rfl rfl rfl rfl ?_
    refine VO.op rfl (OpE.call rfl hB rfl Tryz.call12 rfl (line_Balance hm hn) ?_)
    rintro _ rfl
    refine VO.le _ (Le.recast (t := 43) (y := .tup [avInts P, avI X, avB O, avI E]) rfl (fun w Z u h => by rw [← hP, ← hX, ← hO, ← hE]; exact h)) ?_
    refine VO.mv rfl rfl rfl rfl ?_
    refine VO.val rfl rfl (OpV.extract rfl rfl rfl) ?_
    refine VO.val rfl rfl (OpV.extract rfl rfl rfl) ?_
    refine VO.val rfl rfl (OpV.extract rfl rfl rfl) ?_
    refine VO.val rfl rfl (OpV.extract rfl rfl rfl) ?_
    refine VO.ma rfl rfl rfl rfl ?_
    refine VO.ma rfl rfl rfl rfl ?_
    refine VO.ma rfl rfl rfl rfl ?_
    refine VO.ma rfl rfl rfl rfl ?_
    refine VO.nil ?_
    refine VC.sr ?_
    refine VO.mv rfl rfl rfl rfl ?_
    refine VO.mv rfl rfl rfl rfl ?_
    refine VO.op rfl (OpE.call rfl hB rfl Tryz.call13 rfl (line_First13 hm hn h13) ?_)
    rintro _ rfl
    refine VO.le _ (Le.recast (t := 51) (y := .tup [avInts Q, avB K, avI F]) rfl (fun w Z u h => by rw [← hQ, ← hK, ← hF]; exact h)) ?_
    refine VO.mv rfl rfl rfl rfl ?_
    refine VO.val rfl rfl (OpV.extract rfl rfl rfl) ?_
    refine VO.val rfl rfl (OpV.extract rfl rfl rfl) ?_
    refine VO.val rfl rfl (OpV.extract rfl rfl rfl) ?_
    refine VO.ma rfl rfl rfl rfl ?_
    refine VO.ma rfl rfl rfl rfl ?_
    refine VO.ma rfl rfl rfl rfl ?_
    refine VO.nil ?_
    refine VC.sr ?_
    refine VO.mv rfl rfl rfl rfl ?_
    refine VO.mv rfl rfl rfl rfl ?_
    refine VO.op rfl (OpE.call rfl hB rfl Tryz.call14 rfl (SpecN.spec (line_Bound hm hn)) ?_)
    rintro _ rfl
    refine VO.le _ (Le.recast (t := 58) (y := .tup [avI B, avI F]) rfl (fun w Z u h => by rw [← hBn, ← hF]; exact h)) ?_
    refine VO.mv rfl rfl rfl rfl ?_
    refine VO.val rfl rfl (OpV.extract rfl rfl rfl) ?_
    refine VO.val rfl rfl (OpV.extract rfl rfl rfl) ?_
    refine VO.ma rfl rfl rfl rfl ?_
    refine VO.ma rfl rfl rfl rfl ?_
    refine VO.nil ?_
    refine VC.sr ?_
    refine VO.mv rfl rfl rfl rfl ?_
    refine VO.mv rfl rfl rfl rfl ?_
    refine VO.op rfl (OpE.call rfl hB rfl Tryz.call15 rfl (SpecN.spec (line_Nobody hm hn)) ?_)
    rintro _ rfl
    refine VO.le _ (Le.recast (t := 64) (y := .tup [avStrs Y, avI F]) rfl (fun w Z u h => by rw [← hY, ← hF]; exact h)) ?_
    refine VO.mv rfl rfl rfl rfl ?_
    refine VO.val rfl rfl (OpV.extract rfl rfl rfl) ?_
    refine VO.val rfl rfl (OpV.extract rfl rfl rfl) ?_
    refine VO.ma rfl rfl rfl rfl ?_
    refine VO.ma rfl rfl rfl rfl ?_
    refine VO.nil ?_
    refine VC.sr ?_
    refine VO.mv rfl rfl rfl rfl ?_
    refine VO.op rfl (OpE.call rfl hB rfl Tryz.call17 rfl (SpecN.spec (rf_MachinesFault hm.l hm.k hm.c hm.s)) ?_)
    rintro _ rfl
    refine VO.mv rfl rfl rfl rfl ?_
    refine VO.op rfl (OpE.call rfl hB rfl Tryz.call18 rfl (SpecN.spec (rf_NeedsFault hn.l hn.k)) ?_)
    rintro _ rfl
    refine VO.op rfl (OpE.buildSlice (zc := #[.int .i64 0, .int .i64 0]) rfl hB rfl Tryz.underlying123 Tryz.sizeOf33 Tryz.zeroValue33 (by decide) (by decide) (by kernel_rfl) rfl rfl ?_)
    refine VO.le _ (Le.lits (t := 71) (xs := [machF ms, needsF ns 1 1000]) rfl rfl) ?_
    refine VO.op rfl (OpE.call rfl hB rfl Tryz.call16 rfl (SpecN.spec (rl_errsN (by simp))) ?_)
    rintro _ rfl
    refine VO.le _ (Le.recast (t := 72) (y := avI F) rfl (fun w Z u h => by rw [errs_fltB, hF] at h; exact h)) ?_
    refine VO.ma rfl rfl rfl rfl ?_
    refine VO.nil ?_
    refine VC.sr ?_
    refine VO.mv rfl rfl rfl rfl ?_
    refine VO.ma rfl rfl rfl rfl ?_
    refine VO.nil ?_
    refine VC.sr ?_
    refine VO.ma rfl rfl rfl rfl ?_
    refine VO.ma rfl rfl rfl rfl ?_
    refine VO.nil ?_
    refine VC.sr ?_
    refine VO.ma rfl rfl rfl rfl ?_
    refine VO.ma rfl rfl rfl rfl ?_
    refine VO.ma rfl rfl rfl rfl ?_
    refine VO.ma rfl rfl rfl rfl ?_
    refine VO.nil ?_
    refine VC.sr ?_
    refine VO.ma rfl rfl rfl rfl ?_
    refine VO.nil ?_
    refine VC.seq ?_
    refine VC.sr ?_
    refine VO.mv rfl rfl rfl rfl ?_
    refine VO.val rfl rfl (OpV.eql rfl rfl rfl) ?_
    refine VO.nil ?_
    refine VC.cond rfl (fun h1b => ?_) (fun h1b => ?_)
    · have h1 := h1b
      try simp only [qqT, qqF, qqN, qqM, qqL, qqE] at h1
      have hf0 : faultF ms ns = 0 := by omega
      obtain ⟨hmf, hnf⟩ := faultF_0 hf0
      have hbe := bal_eq hf0
      obtain ⟨e1, e2, e3, e4, e5⟩ := hbe
      rw [hE] at e1
      rw [hO] at e2 e3 e4
      rw [hP, hX] at e3 e4
      rw [hP] at e5
      obtain ⟨f1, f2, f3⟩ := fst_eq hf0
      rw [hQ] at f1
      rw [hK] at f2
      rw [if_pos hf0] at hBn hY
      have hYn : Y.length ≤ 1000 := by rw [← hY]; have := nobL_len (ms := ms) (ns := ns); have := needsF_len hnf; omega
      obtain ⟨RB, hRB⟩ : ∃ RB, refB ms ns = RB := ⟨_, rfl⟩
      rw [hRB] at e2 e3
      refine VC.sr ?_
      refine VO.mv rfl rfl rfl rfl ?_
      refine VO.mv rfl rfl rfl rfl ?_
      refine VO.op rfl (OpE.call rfl hB rfl Tryz.call19 rfl (rf_FirstPlan hmf hnf (by omega)) ?_)
      rintro _ rfl
      refine VO.le _ (Le.recast (t := 79) (y := .tup [avInts Q, avB K]) rfl (fun w Z u h => by rw [f1, f2]; exact h)) ?_
      refine VO.mv rfl rfl rfl rfl ?_
      refine VO.val rfl rfl (OpV.extract rfl rfl rfl) ?_
      refine VO.val rfl rfl (OpV.extract rfl rfl rfl) ?_
      refine VO.ma rfl rfl rfl rfl ?_
      refine VO.ma rfl rfl rfl rfl ?_
      refine VO.nil ?_
      refine VC.sr ?_
      refine VO.mv rfl rfl rfl rfl ?_
      refine VO.mv rfl rfl rfl rfl ?_
      refine VO.op rfl (OpE.call rfl hB rfl Tryz.call20 rfl (SpecN.spec (rf_BoundOf hmf hnf)) ?_)
      rintro _ rfl
      refine VO.le _ (Le.recast (t := 84) (y := avI B) rfl (fun w Z u h => by rw [← hBn]; exact h)) ?_
      refine VO.mv rfl rfl rfl rfl ?_
      refine VO.mv rfl rfl rfl rfl ?_
      refine VO.op rfl (OpE.call rfl hB rfl Tryz.call21 rfl (SpecN.spec (rf_NobodyOf hmf hnf)) ?_)
      rintro _ rfl
      refine VO.le _ (Le.recast (t := 87) (y := avStrs Y) rfl (fun w Z u h => by rw [← hY]; exact h)) ?_
      refine VO.ma rfl rfl rfl rfl ?_
      refine VO.ma rfl rfl rfl rfl ?_
      refine VO.nil ?_
      refine VC.sr ?_
      refine VO.mv rfl rfl rfl rfl ?_
      refine VO.mv rfl rfl rfl rfl ?_
      refine VO.op rfl (OpE.call rfl hB rfl Tryz.call22 rfl (rf_BalanceOf hmf hnf) ?_)
      rintro _ rfl
      refine VO.le _ (Le.recast (t := 91) (y := .tup [avInts RB.best, avI RB.least, avB RB.found, avI E]) rfl (fun w Z u h => by rw [← hRB, e1]; exact h)) ?_
      refine VO.mv rfl rfl rfl rfl ?_
      refine VO.val rfl rfl (OpV.extract rfl rfl rfl) ?_
      refine VO.val rfl rfl (OpV.extract rfl rfl rfl) ?_
      refine VO.val rfl rfl (OpV.extract rfl rfl rfl) ?_
      refine VO.val rfl rfl (OpV.extract rfl rfl rfl) ?_
      refine VO.ma rfl rfl rfl rfl ?_
      refine VO.ma rfl rfl rfl rfl ?_
      refine VO.ma rfl rfl rfl rfl ?_
      refine VO.ma rfl rfl rfl rfl ?_
      refine VO.nil ?_
      refine VC.sr ?_
      refine VO.mv rfl rfl rfl rfl ?_
      refine VO.val rfl rfl (OpV.not rfl rfl) ?_
      refine VO.nil ?_
      refine VC.cond rfl (fun h2b => ?_) (fun h2b => ?_)
      · have h2 := h2b
        try simp only [qqT, qqF, qqN, qqM, qqL, qqE] at h2
        have o2 : O = false := by rw [← e2]; first | exact h2 | simpa using h2
        obtain ⟨p1, p2⟩ := e4 o2
        refine VC.le _ (Le.recast (t := 22) (y := avB O) rfl (fun w Z u h => by rw [← e2]; exact h)) ?_
        subst p1 p2
        refine VC.region ?_
        refine VO.ma rfl rfl rfl rfl ?_
        refine VO.ma rfl rfl rfl rfl ?_
        refine VO.nil ?_
        refine VC.seq ?_
        try (have hQl : Q.length ≤ 1000 := by first | omega | (rw [f1]; exact f3) | exact Nat.zero_le _)
        try (have hPl : P.length ≤ 1000 := by first | omega | exact Nat.zero_le _)
        try (have hYl : Y.length ≤ 1000 := by first | omega | exact Nat.zero_le _)
        refine VC.le _ (Le.recast (t := 19) (y := avInts []) rfl (fun w Z u h => by rw [h.eq_v]; exact .nil _ _)) ?_
        skip
        skip
        refine VC.region ?_
        refine VO.mv rfl rfl rfl rfl ?_
        refine VO.mv rfl rfl rfl rfl ?_
        refine VO.val rfl rfl (OpV.eql rfl rfl rfl) ?_
        refine VO.le _ (Le.boolT (t := 100) rfl (decide_eq_true rfl)) ?_
        refine VO.mv rfl rfl rfl rfl ?_
        refine VO.opY rfl rfl rfl rfl rfl ?_
        refine OpE.val (W := NoB) (OpV.move (.inl rfl) rfl) rfl ?_
        refine VO.opY rfl rfl rfl rfl rfl ?_
        refine OpE.val (W := NoB) (OpV.move (.inl rfl) rfl) rfl ?_
        refine VO.opY rfl rfl rfl rfl rfl ?_
        refine OpE.call rfl hB rfl Tryz.call23 rfl (SpecN.spec (slices_Equal_int (by first | omega | decide) (by first | omega | decide))) ?_
        rintro _ rfl
        refine VO.le _ (Le.boolT (t := 104) rfl (by first | exact decide_eq_true rfl | simp)) ?_
        refine VO.val rfl rfl (OpV.pickT rfl rfl rfl rfl rfl) ?_
        refine VO.mv rfl rfl rfl rfl ?_
        refine VO.opY rfl rfl rfl rfl rfl ?_
        refine OpE.val (W := NoB) (OpV.move (.inl rfl) rfl) rfl ?_
        refine VO.opY rfl rfl rfl rfl rfl ?_
        refine OpE.val (W := NoB) (OpV.move (.inl rfl) rfl) rfl ?_
        refine VO.opY rfl rfl rfl rfl rfl ?_
        refine OpE.val (W := NoB) (OpV.eql rfl rfl rfl) rfl ?_
        refine VO.le _ (Le.boolT (t := 109) rfl (decide_eq_true rfl)) ?_
        refine VO.val rfl rfl (OpV.pickT rfl rfl rfl rfl rfl) ?_
        refine VO.mv rfl rfl rfl rfl ?_
        refine VO.opY rfl rfl rfl rfl rfl ?_
        refine OpE.val (W := NoB) (OpV.move (.inl rfl) rfl) rfl ?_
        refine VO.opY rfl rfl rfl rfl rfl ?_
        refine OpE.val (W := NoB) (OpV.move (.inl rfl) rfl) rfl ?_
        refine VO.opY rfl rfl rfl rfl rfl ?_
        refine OpE.val (W := NoB) (OpV.beql rfl Tryz.underlying4 rfl rfl) rfl ?_
        refine VO.le _ (Le.boolT (t := 114) rfl (by first | exact decide_eq_true rfl | simp)) ?_
        refine VO.val rfl rfl (OpV.pickT rfl rfl rfl rfl rfl) ?_
        refine VO.mv rfl rfl rfl rfl ?_
        refine VO.opY rfl rfl rfl rfl rfl ?_
        refine OpE.val (W := NoB) (OpV.move (.inl rfl) rfl) rfl ?_
        refine VO.opY rfl rfl rfl rfl rfl ?_
        refine OpE.val (W := NoB) (OpV.move (.inl rfl) rfl) rfl ?_
        refine VO.opY rfl rfl rfl rfl rfl ?_
        refine OpE.val (W := NoB) (OpV.eql rfl rfl rfl) rfl ?_
        refine VO.le _ (Le.boolT (t := 119) rfl (decide_eq_true rfl)) ?_
        refine VO.val rfl rfl (OpV.pickT rfl rfl rfl rfl rfl) ?_
        refine VO.mv rfl rfl rfl rfl ?_
        refine VO.opY rfl rfl rfl rfl rfl ?_
        refine OpE.val (W := NoB) (OpV.move (.inl rfl) rfl) rfl ?_
        refine VO.opY rfl rfl rfl rfl rfl ?_
        refine OpE.val (W := NoB) (OpV.move (.inl rfl) rfl) rfl ?_
        refine VO.opY rfl rfl rfl rfl rfl ?_
        refine OpE.call rfl hB rfl Tryz.call23 rfl (SpecN.spec (slices_Equal_int (by first | omega | decide) (by first | omega | decide))) ?_
        rintro _ rfl
        refine VO.le _ (Le.boolT (t := 124) rfl (by first | exact decide_eq_true rfl | simp)) ?_
        refine VO.val rfl rfl (OpV.pickT rfl rfl rfl rfl rfl) ?_
        refine VO.mv rfl rfl rfl rfl ?_
        refine VO.opY rfl rfl rfl rfl rfl ?_
        refine OpE.val (W := NoB) (OpV.move (.inl rfl) rfl) rfl ?_
        refine VO.opY rfl rfl rfl rfl rfl ?_
        refine OpE.val (W := NoB) (OpV.move (.inl rfl) rfl) rfl ?_
        refine VO.opY rfl rfl rfl rfl rfl ?_
        refine OpE.val (W := NoB) (OpV.beql rfl Tryz.underlying4 rfl rfl) rfl ?_
        refine VO.le _ (Le.boolT (t := 129) rfl (by first | exact decide_eq_true rfl | simp)) ?_
        refine VO.val rfl rfl (OpV.pickT rfl rfl rfl rfl rfl) ?_
        refine VO.mv rfl rfl rfl rfl ?_
        refine VO.opY rfl rfl rfl rfl rfl ?_
        refine OpE.val (W := NoB) (OpV.move (.inl rfl) rfl) rfl ?_
        refine VO.opY rfl rfl rfl rfl rfl ?_
        refine OpE.val (W := NoB) (OpV.move (.inl rfl) rfl) rfl ?_
        refine VO.opY rfl rfl rfl rfl rfl ?_
        refine OpE.val (W := NoB) (OpV.eql rfl rfl rfl) rfl ?_
        refine VO.le _ (Le.boolT (t := 134) rfl (decide_eq_true rfl)) ?_
        refine VO.val rfl rfl (OpV.pickT rfl rfl rfl rfl rfl) ?_
        refine VO.mv rfl rfl rfl rfl ?_
        refine VO.opY rfl rfl rfl rfl rfl ?_
        refine OpE.val (W := NoB) (OpV.move (.inl rfl) rfl) rfl ?_
        refine VO.opY rfl rfl rfl rfl rfl ?_
        refine OpE.val (W := NoB) (OpV.move (.inl rfl) rfl) rfl ?_
        refine VO.opY rfl rfl rfl rfl rfl ?_
        refine OpE.val (W := NoB) (OpV.eql rfl rfl rfl) rfl ?_
        refine VO.le _ (Le.boolT (t := 139) rfl (decide_eq_true rfl)) ?_
        refine VO.val rfl rfl (OpV.pickT rfl rfl rfl rfl rfl) ?_
        refine VO.mv rfl rfl rfl rfl ?_
        refine VO.opY rfl rfl rfl rfl rfl ?_
        refine OpE.val (W := NoB) (OpV.move (.inl rfl) rfl) rfl ?_
        refine VO.opY rfl rfl rfl rfl rfl ?_
        refine OpE.val (W := NoB) (OpV.move (.inl rfl) rfl) rfl ?_
        refine VO.opY rfl rfl rfl rfl rfl ?_
        refine OpE.val (W := NoB) (OpV.eql rfl rfl rfl) rfl ?_
        refine VO.le _ (Le.boolT (t := 144) rfl (decide_eq_true rfl)) ?_
        refine VO.val rfl rfl (OpV.pickT rfl rfl rfl rfl rfl) ?_
        refine VO.mv rfl rfl rfl rfl ?_
        refine VO.opY rfl rfl rfl rfl rfl ?_
        refine OpE.val (W := NoB) (OpV.move (.inl rfl) rfl) rfl ?_
        refine VO.opY rfl rfl rfl rfl rfl ?_
        refine OpE.val (W := NoB) (OpV.move (.inl rfl) rfl) rfl ?_
        refine VO.opY rfl rfl rfl rfl rfl ?_
        refine OpE.call rfl hB rfl Tryz.call24 rfl (SpecN.spec (slices_Equal_str (by first | omega | decide) (by first | omega | decide))) ?_
        rintro _ rfl
        refine VO.le _ (Le.boolT (t := 149) rfl (eqLs_refl _)) ?_
        refine VO.val rfl rfl (OpV.pickT rfl rfl rfl rfl rfl) ?_
        refine VO.mv rfl rfl rfl rfl ?_
        refine VO.opY rfl rfl rfl rfl rfl ?_
        refine OpE.call rfl hB rfl Tryz.call25 rfl (SpecN.spec (lined_S)) ?_
        rintro _ rfl
        refine VO.val rfl rfl (OpV.pickT rfl rfl rfl rfl rfl) ?_
        refine VO.ma rfl rfl rfl rfl ?_
        refine VO.nil ?_
        refine VC.ret ?_
        exact And.intro rfl rfl
      · have h2 := h2b
        try simp only [qqT, qqF, qqN, qqM, qqL, qqE] at h2
        have o2 : O = true := by rw [← e2]; first | exact h2 | simpa using h2
        obtain ⟨p1, p2⟩ := e3 o2
        refine VC.le _ (Le.recast (t := 22) (y := avB O) rfl (fun w Z u h => by rw [← e2]; exact h)) ?_
        refine VC.le _ (Le.recast (t := 19) (y := avInts P) rfl (fun w Z u h => by rw [← p1]; exact h)) ?_
        refine VC.le _ (Le.recast (t := 21) (y := avI X) rfl (fun w Z u h => by rw [← p2]; exact h)) ?_
        refine VC.skip ?_
        refine VC.seq ?_
        try (have hQl : Q.length ≤ 1000 := by first | omega | (rw [f1]; exact f3) | exact Nat.zero_le _)
        try (have hPl : P.length ≤ 1000 := by first | omega | exact Nat.zero_le _)
        try (have hYl : Y.length ≤ 1000 := by first | omega | exact Nat.zero_le _)
        skip
        skip
        skip
        refine VC.region ?_
        refine VO.mv rfl rfl rfl rfl ?_
        refine VO.mv rfl rfl rfl rfl ?_
        refine VO.val rfl rfl (OpV.eql rfl rfl rfl) ?_
        refine VO.le _ (Le.boolT (t := 100) rfl (decide_eq_true rfl)) ?_
        refine VO.mv rfl rfl rfl rfl ?_
        refine VO.opY rfl rfl rfl rfl rfl ?_
        refine OpE.val (W := NoB) (OpV.move (.inl rfl) rfl) rfl ?_
        refine VO.opY rfl rfl rfl rfl rfl ?_
        refine OpE.val (W := NoB) (OpV.move (.inl rfl) rfl) rfl ?_
        refine VO.opY rfl rfl rfl rfl rfl ?_
        refine OpE.call rfl hB rfl Tryz.call23 rfl (SpecN.spec (slices_Equal_int (by first | omega | decide) (by first | omega | decide))) ?_
        rintro _ rfl
        refine VO.le _ (Le.boolT (t := 104) rfl (by first | exact decide_eq_true rfl | simp)) ?_
        refine VO.val rfl rfl (OpV.pickT rfl rfl rfl rfl rfl) ?_
        refine VO.mv rfl rfl rfl rfl ?_
        refine VO.opY rfl rfl rfl rfl rfl ?_
        refine OpE.val (W := NoB) (OpV.move (.inl rfl) rfl) rfl ?_
        refine VO.opY rfl rfl rfl rfl rfl ?_
        refine OpE.val (W := NoB) (OpV.move (.inl rfl) rfl) rfl ?_
        refine VO.opY rfl rfl rfl rfl rfl ?_
        refine OpE.val (W := NoB) (OpV.eql rfl rfl rfl) rfl ?_
        refine VO.le _ (Le.boolT (t := 109) rfl (decide_eq_true rfl)) ?_
        refine VO.val rfl rfl (OpV.pickT rfl rfl rfl rfl rfl) ?_
        refine VO.mv rfl rfl rfl rfl ?_
        refine VO.opY rfl rfl rfl rfl rfl ?_
        refine OpE.val (W := NoB) (OpV.move (.inl rfl) rfl) rfl ?_
        refine VO.opY rfl rfl rfl rfl rfl ?_
        refine OpE.val (W := NoB) (OpV.move (.inl rfl) rfl) rfl ?_
        refine VO.opY rfl rfl rfl rfl rfl ?_
        refine OpE.val (W := NoB) (OpV.beql rfl Tryz.underlying4 rfl rfl) rfl ?_
        refine VO.le _ (Le.boolT (t := 114) rfl (by first | exact decide_eq_true rfl | simp)) ?_
        refine VO.val rfl rfl (OpV.pickT rfl rfl rfl rfl rfl) ?_
        refine VO.mv rfl rfl rfl rfl ?_
        refine VO.opY rfl rfl rfl rfl rfl ?_
        refine OpE.val (W := NoB) (OpV.move (.inl rfl) rfl) rfl ?_
        refine VO.opY rfl rfl rfl rfl rfl ?_
        refine OpE.val (W := NoB) (OpV.move (.inl rfl) rfl) rfl ?_
        refine VO.opY rfl rfl rfl rfl rfl ?_
        refine OpE.val (W := NoB) (OpV.eql rfl rfl rfl) rfl ?_
        refine VO.le _ (Le.boolT (t := 119) rfl (decide_eq_true rfl)) ?_
        refine VO.val rfl rfl (OpV.pickT rfl rfl rfl rfl rfl) ?_
        refine VO.mv rfl rfl rfl rfl ?_
        refine VO.opY rfl rfl rfl rfl rfl ?_
        refine OpE.val (W := NoB) (OpV.move (.inl rfl) rfl) rfl ?_
        refine VO.opY rfl rfl rfl rfl rfl ?_
        refine OpE.val (W := NoB) (OpV.move (.inl rfl) rfl) rfl ?_
        refine VO.opY rfl rfl rfl rfl rfl ?_
        refine OpE.call rfl hB rfl Tryz.call23 rfl (SpecN.spec (slices_Equal_int (by first | omega | decide) (by first | omega | decide))) ?_
        rintro _ rfl
        refine VO.le _ (Le.boolT (t := 124) rfl (by first | exact decide_eq_true rfl | simp)) ?_
        refine VO.val rfl rfl (OpV.pickT rfl rfl rfl rfl rfl) ?_
        refine VO.mv rfl rfl rfl rfl ?_
        refine VO.opY rfl rfl rfl rfl rfl ?_
        refine OpE.val (W := NoB) (OpV.move (.inl rfl) rfl) rfl ?_
        refine VO.opY rfl rfl rfl rfl rfl ?_
        refine OpE.val (W := NoB) (OpV.move (.inl rfl) rfl) rfl ?_
        refine VO.opY rfl rfl rfl rfl rfl ?_
        refine OpE.val (W := NoB) (OpV.beql rfl Tryz.underlying4 rfl rfl) rfl ?_
        refine VO.le _ (Le.boolT (t := 129) rfl (by first | exact decide_eq_true rfl | simp)) ?_
        refine VO.val rfl rfl (OpV.pickT rfl rfl rfl rfl rfl) ?_
        refine VO.mv rfl rfl rfl rfl ?_
        refine VO.opY rfl rfl rfl rfl rfl ?_
        refine OpE.val (W := NoB) (OpV.move (.inl rfl) rfl) rfl ?_
        refine VO.opY rfl rfl rfl rfl rfl ?_
        refine OpE.val (W := NoB) (OpV.move (.inl rfl) rfl) rfl ?_
        refine VO.opY rfl rfl rfl rfl rfl ?_
        refine OpE.val (W := NoB) (OpV.eql rfl rfl rfl) rfl ?_
        refine VO.le _ (Le.boolT (t := 134) rfl (decide_eq_true rfl)) ?_
        refine VO.val rfl rfl (OpV.pickT rfl rfl rfl rfl rfl) ?_
        refine VO.mv rfl rfl rfl rfl ?_
        refine VO.opY rfl rfl rfl rfl rfl ?_
        refine OpE.val (W := NoB) (OpV.move (.inl rfl) rfl) rfl ?_
        refine VO.opY rfl rfl rfl rfl rfl ?_
        refine OpE.val (W := NoB) (OpV.move (.inl rfl) rfl) rfl ?_
        refine VO.opY rfl rfl rfl rfl rfl ?_
        refine OpE.val (W := NoB) (OpV.eql rfl rfl rfl) rfl ?_
        refine VO.le _ (Le.boolT (t := 139) rfl (decide_eq_true rfl)) ?_
        refine VO.val rfl rfl (OpV.pickT rfl rfl rfl rfl rfl) ?_
        refine VO.mv rfl rfl rfl rfl ?_
        refine VO.opY rfl rfl rfl rfl rfl ?_
        refine OpE.val (W := NoB) (OpV.move (.inl rfl) rfl) rfl ?_
        refine VO.opY rfl rfl rfl rfl rfl ?_
        refine OpE.val (W := NoB) (OpV.move (.inl rfl) rfl) rfl ?_
        refine VO.opY rfl rfl rfl rfl rfl ?_
        refine OpE.val (W := NoB) (OpV.eql rfl rfl rfl) rfl ?_
        refine VO.le _ (Le.boolT (t := 144) rfl (decide_eq_true rfl)) ?_
        refine VO.val rfl rfl (OpV.pickT rfl rfl rfl rfl rfl) ?_
        refine VO.mv rfl rfl rfl rfl ?_
        refine VO.opY rfl rfl rfl rfl rfl ?_
        refine OpE.val (W := NoB) (OpV.move (.inl rfl) rfl) rfl ?_
        refine VO.opY rfl rfl rfl rfl rfl ?_
        refine OpE.val (W := NoB) (OpV.move (.inl rfl) rfl) rfl ?_
        refine VO.opY rfl rfl rfl rfl rfl ?_
        refine OpE.call rfl hB rfl Tryz.call24 rfl (SpecN.spec (slices_Equal_str (by first | omega | decide) (by first | omega | decide))) ?_
        rintro _ rfl
        refine VO.le _ (Le.boolT (t := 149) rfl (eqLs_refl _)) ?_
        refine VO.val rfl rfl (OpV.pickT rfl rfl rfl rfl rfl) ?_
        refine VO.mv rfl rfl rfl rfl ?_
        refine VO.opY rfl rfl rfl rfl rfl ?_
        refine OpE.call rfl hB rfl Tryz.call25 rfl (SpecN.spec (lined_S)) ?_
        rintro _ rfl
        refine VO.val rfl rfl (OpV.pickT rfl rfl rfl rfl rfl) ?_
        refine VO.ma rfl rfl rfl rfl ?_
        refine VO.nil ?_
        refine VC.ret ?_
        exact And.intro rfl rfl
    · have h1 := h1b
      try simp only [qqT, qqF, qqN, qqM, qqL, qqE] at h1
      have hf0 : faultF ms ns ≠ 0 := by omega
      obtain ⟨b1, b2, b3, b4⟩ := bal_1 hf0
      obtain ⟨f1, f2⟩ := fst_1 hf0
      rw [if_neg hf0] at hBn hY
      rw [hE, hF] at b1
      rw [hO] at b2
      rw [hP] at b3
      rw [hX] at b4
      rw [hQ] at f1
      rw [hK] at f2
      subst b1 b2 b3 b4 f1 f2 hBn hY
      refine VC.skip ?_
      refine VC.seq ?_
      try (have hQl : Q.length ≤ 1000 := by first | omega | (rw [f1]; exact f3) | exact Nat.zero_le _)
      try (have hPl : P.length ≤ 1000 := by first | omega | exact Nat.zero_le _)
      try (have hYl : Y.length ≤ 1000 := by first | omega | exact Nat.zero_le _)
      refine VC.le _ (Le.recast (t := 19) (y := avInts []) rfl (fun w Z u h => by rw [h.eq_v]; exact .nil _ _)) ?_
      refine VC.le _ (Le.recast (t := 20) (y := avInts []) rfl (fun w Z u h => by rw [h.eq_v]; exact .nil _ _)) ?_
      refine VC.le _ (Le.recast (t := 25) (y := avStrs []) rfl (fun w Z u h => by rw [h.eq_v]; exact .nil _ _)) ?_
      refine VC.region ?_
      refine VO.mv rfl rfl rfl rfl ?_
      refine VO.mv rfl rfl rfl rfl ?_
      refine VO.val rfl rfl (OpV.eql rfl rfl rfl) ?_
      refine VO.le _ (Le.boolT (t := 100) rfl (decide_eq_true rfl)) ?_
      refine VO.mv rfl rfl rfl rfl ?_
      refine VO.opY rfl rfl rfl rfl rfl ?_
      refine OpE.val (W := NoB) (OpV.move (.inl rfl) rfl) rfl ?_
      refine VO.opY rfl rfl rfl rfl rfl ?_
      refine OpE.val (W := NoB) (OpV.move (.inl rfl) rfl) rfl ?_
      refine VO.opY rfl rfl rfl rfl rfl ?_
      refine OpE.call rfl hB rfl Tryz.call23 rfl (SpecN.spec (slices_Equal_int (by first | omega | decide) (by first | omega | decide))) ?_
      rintro _ rfl
      refine VO.le _ (Le.boolT (t := 104) rfl (by first | exact decide_eq_true rfl | simp)) ?_
      refine VO.val rfl rfl (OpV.pickT rfl rfl rfl rfl rfl) ?_
      refine VO.mv rfl rfl rfl rfl ?_
      refine VO.opY rfl rfl rfl rfl rfl ?_
      refine OpE.val (W := NoB) (OpV.move (.inl rfl) rfl) rfl ?_
      refine VO.opY rfl rfl rfl rfl rfl ?_
      refine OpE.val (W := NoB) (OpV.move (.inl rfl) rfl) rfl ?_
      refine VO.opY rfl rfl rfl rfl rfl ?_
      refine OpE.val (W := NoB) (OpV.eql rfl rfl rfl) rfl ?_
      refine VO.le _ (Le.boolT (t := 109) rfl (decide_eq_true rfl)) ?_
      refine VO.val rfl rfl (OpV.pickT rfl rfl rfl rfl rfl) ?_
      refine VO.mv rfl rfl rfl rfl ?_
      refine VO.opY rfl rfl rfl rfl rfl ?_
      refine OpE.val (W := NoB) (OpV.move (.inl rfl) rfl) rfl ?_
      refine VO.opY rfl rfl rfl rfl rfl ?_
      refine OpE.val (W := NoB) (OpV.move (.inl rfl) rfl) rfl ?_
      refine VO.opY rfl rfl rfl rfl rfl ?_
      refine OpE.val (W := NoB) (OpV.beql rfl Tryz.underlying4 rfl rfl) rfl ?_
      refine VO.le _ (Le.boolT (t := 114) rfl (by first | exact decide_eq_true rfl | simp)) ?_
      refine VO.val rfl rfl (OpV.pickT rfl rfl rfl rfl rfl) ?_
      refine VO.mv rfl rfl rfl rfl ?_
      refine VO.opY rfl rfl rfl rfl rfl ?_
      refine OpE.val (W := NoB) (OpV.move (.inl rfl) rfl) rfl ?_
      refine VO.opY rfl rfl rfl rfl rfl ?_
      refine OpE.val (W := NoB) (OpV.move (.inl rfl) rfl) rfl ?_
      refine VO.opY rfl rfl rfl rfl rfl ?_
      refine OpE.val (W := NoB) (OpV.eql rfl rfl rfl) rfl ?_
      refine VO.le _ (Le.boolT (t := 119) rfl (decide_eq_true rfl)) ?_
      refine VO.val rfl rfl (OpV.pickT rfl rfl rfl rfl rfl) ?_
      refine VO.mv rfl rfl rfl rfl ?_
      refine VO.opY rfl rfl rfl rfl rfl ?_
      refine OpE.val (W := NoB) (OpV.move (.inl rfl) rfl) rfl ?_
      refine VO.opY rfl rfl rfl rfl rfl ?_
      refine OpE.val (W := NoB) (OpV.move (.inl rfl) rfl) rfl ?_
      refine VO.opY rfl rfl rfl rfl rfl ?_
      refine OpE.call rfl hB rfl Tryz.call23 rfl (SpecN.spec (slices_Equal_int (by first | omega | decide) (by first | omega | decide))) ?_
      rintro _ rfl
      refine VO.le _ (Le.boolT (t := 124) rfl (by first | exact decide_eq_true rfl | simp)) ?_
      refine VO.val rfl rfl (OpV.pickT rfl rfl rfl rfl rfl) ?_
      refine VO.mv rfl rfl rfl rfl ?_
      refine VO.opY rfl rfl rfl rfl rfl ?_
      refine OpE.val (W := NoB) (OpV.move (.inl rfl) rfl) rfl ?_
      refine VO.opY rfl rfl rfl rfl rfl ?_
      refine OpE.val (W := NoB) (OpV.move (.inl rfl) rfl) rfl ?_
      refine VO.opY rfl rfl rfl rfl rfl ?_
      refine OpE.val (W := NoB) (OpV.beql rfl Tryz.underlying4 rfl rfl) rfl ?_
      refine VO.le _ (Le.boolT (t := 129) rfl (by first | exact decide_eq_true rfl | simp)) ?_
      refine VO.val rfl rfl (OpV.pickT rfl rfl rfl rfl rfl) ?_
      refine VO.mv rfl rfl rfl rfl ?_
      refine VO.opY rfl rfl rfl rfl rfl ?_
      refine OpE.val (W := NoB) (OpV.move (.inl rfl) rfl) rfl ?_
      refine VO.opY rfl rfl rfl rfl rfl ?_
      refine OpE.val (W := NoB) (OpV.move (.inl rfl) rfl) rfl ?_
      refine VO.opY rfl rfl rfl rfl rfl ?_
      refine OpE.val (W := NoB) (OpV.eql rfl rfl rfl) rfl ?_
      refine VO.le _ (Le.boolT (t := 134) rfl (decide_eq_true rfl)) ?_
      refine VO.val rfl rfl (OpV.pickT rfl rfl rfl rfl rfl) ?_
      refine VO.mv rfl rfl rfl rfl ?_
      refine VO.opY rfl rfl rfl rfl rfl ?_
      refine OpE.val (W := NoB) (OpV.move (.inl rfl) rfl) rfl ?_
      refine VO.opY rfl rfl rfl rfl rfl ?_
      refine OpE.val (W := NoB) (OpV.move (.inl rfl) rfl) rfl ?_
      refine VO.opY rfl rfl rfl rfl rfl ?_
      refine OpE.val (W := NoB) (OpV.eql rfl rfl rfl) rfl ?_
      refine VO.le _ (Le.boolT (t := 139) rfl (decide_eq_true rfl)) ?_
      refine VO.val rfl rfl (OpV.pickT rfl rfl rfl rfl rfl) ?_
      refine VO.mv rfl rfl rfl rfl ?_
      refine VO.opY rfl rfl rfl rfl rfl ?_
      refine OpE.val (W := NoB) (OpV.move (.inl rfl) rfl) rfl ?_
      refine VO.opY rfl rfl rfl rfl rfl ?_
      refine OpE.val (W := NoB) (OpV.move (.inl rfl) rfl) rfl ?_
      refine VO.opY rfl rfl rfl rfl rfl ?_
      refine OpE.val (W := NoB) (OpV.eql rfl rfl rfl) rfl ?_
      refine VO.le _ (Le.boolT (t := 144) rfl (decide_eq_true rfl)) ?_
      refine VO.val rfl rfl (OpV.pickT rfl rfl rfl rfl rfl) ?_
      refine VO.mv rfl rfl rfl rfl ?_
      refine VO.opY rfl rfl rfl rfl rfl ?_
      refine OpE.val (W := NoB) (OpV.move (.inl rfl) rfl) rfl ?_
      refine VO.opY rfl rfl rfl rfl rfl ?_
      refine OpE.val (W := NoB) (OpV.move (.inl rfl) rfl) rfl ?_
      refine VO.opY rfl rfl rfl rfl rfl ?_
      refine OpE.call rfl hB rfl Tryz.call24 rfl (SpecN.spec (slices_Equal_str (by first | omega | decide) (by first | omega | decide))) ?_
      rintro _ rfl
      refine VO.le _ (Le.boolT (t := 149) rfl (eqLs_refl _)) ?_
      refine VO.val rfl rfl (OpV.pickT rfl rfl rfl rfl rfl) ?_
      refine VO.mv rfl rfl rfl rfl ?_
      refine VO.opY rfl rfl rfl rfl rfl ?_
      refine OpE.call rfl hB rfl Tryz.call25 rfl (SpecN.spec (lined_S)) ?_
      rintro _ rfl
      refine VO.val rfl rfl (OpV.pickT rfl rfl rfl rfl rfl) ?_
      refine VO.ma rfl rfl rfl rfl ?_
      refine VO.nil ?_
      refine VC.ret ?_
      exact And.intro rfl rfl
end Go.Proofs.YtemnnmohdpabhaaGreatDoor
