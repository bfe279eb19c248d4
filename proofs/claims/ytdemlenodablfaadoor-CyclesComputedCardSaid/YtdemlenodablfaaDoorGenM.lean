/- The generator of machines. -/
import Derived.Test.YtdemlenodablfaaDoorGenN
import Derived.Test.YtdemlenodablfaaDoorSxFam
namespace Go.Proofs.YtdemlenodablfaaDoor
open Go.RowKit
set_option linter.unusedVariables false
set_option linter.unusedSimpArgs false

structure MR where
  key : ByteArray
  each : Int
  fixed : Int
  feeders : Int
  b : Option Addr
  c : Nat
  can : List ByteArray
instance : Inhabited MR := ⟨⟨ByteArray.empty, 0, 0, 0, none, 0, []⟩⟩
def MR.val (m : MR) : Value := .slice m.b m.can.length m.c
instance : Sxc MR where
  k := 5
  pos := by decide
  cell m j := match j with
    | 0 => avS m.key
    | 1 => avI m.each
    | 2 => avI m.fixed
    | 3 => avI m.feeders
    | 4 => .v (.slice m.b m.can.length m.c)
    | _ => .any
def rowM (m : MR) : Ent := .row (.slice m.b m.can.length m.c) m.can.length 1 (strsL m.can) 9
def mkKey (q : Nat) : ByteArray := ⟨#[109]⟩ ++ Utf8.encode (49 + (q : Int))
theorem encode_small (n : Int) : (Utf8.encode n).size ≤ 4 := by
  unfold Utf8.encode
  simp only
  repeat' split
  all_goals simp [ByteArray.size]
theorem permM {m : MR} {e : Ent} {l : List MR} : (rowM m :: e :: l.map rowM).Perm (e :: (l ++ [m]).map rowM) := by
  rw [List.map_append]
  exact (List.Perm.swap e (rowM m) _).trans (List.Perm.cons e (List.perm_append_comm (l₁ := [rowM m]) (l₂ := l.map rowM)))
theorem famAt {e : Ent} {l : List MR} {m : Nat} (h : m < l.length) : (e :: l.map rowM)[m + 1]? = some (rowM (l.getD m default)) := by simp [h]
def toM (m : MR) : Mach := ⟨m.key, m.each, m.fixed, m.feeders, m.can⟩
theorem Rep.im_mono {w : World} {Z : Nat → Prop} {n sz : Nat} {f g : Nat → AV} (h : ∀ j, j < n * sz → ∀ u, Rep w Z (f j) u → Rep w Z (g j) u) {u : Value} (hr : Rep w Z (.im n sz f) u) : Rep w Z (.im n sz g) u := by
  cases hr with
  | nil => exact .nil sz g
  | im n sz f b off cap c e u hZ h1 h2 hb hc hr => exact .im n sz g b off cap c e u hZ h1 h2 hb hc fun j hj => h j hj _ (hr j hj)
theorem fam_avL {w : World} {Z : Nat → Prop} {l : List MR} {u : Value} {n : Nat} (hn : n = l.length) (h : Rep w Z (.im n 5 fun j => (rowL l).getD j .any) u)
    (hc : ∀ q, q < l.length → Rep w Z (avStrs (l.getD q default).can) (.slice (l.getD q default).b (l.getD q default).can.length (l.getD q default).c)) : Rep w Z (avL (l.map toM)) u := by
  subst hn
  have e : avL (l.map toM) = .im l.length 5 (fun j => Sxc.cell ((l.map toM).getD (j / 5) default) (j % 5)) := by
    show AV.im (l.map toM).length 5 _ = _
    rw [List.length_map]
    rfl
  rw [e]
  refine h.im_mono fun j hj u hu => ?_
  have hd : j / 5 < l.length := by omega
  have hm : j % 5 < 5 := by omega
  have e1 := rowL_get l (j / 5) (j % 5) hd hm
  have e2 : j / 5 * Sxc.k MR + j % 5 = j := by show j / 5 * 5 + j % 5 = j; omega
  rw [e2] at e1
  rw [List.getD_eq_getElem?_getD, e1] at hu
  have e3 : (l.map toM).getD (j / 5) default = toM (l.getD (j / 5) default) := by simp [hd]
  rw [e3]
  have hq := hc _ hd
  simp only [Option.getD_some] at hu
  generalize j % 5 = i at hu hm
  match i, hm with
  | 0, _ => exact hu
  | 1, _ => exact hu
  | 2, _ => exact hu
  | 3, _ => exact hu
  | 4, _ =>
    have : u = .slice (l.getD (j / 5) default).b (l.getD (j / 5) default).can.length (l.getD (j / 5) default).c := hu.eq_v
    rw [this]; exact hq
theorem Le.fam {B : Bs} {s : St'} {t n : Nat} {u : Value} {l : List MR} (hB : B.Ok) (hnew : ∀ b, B.S b → B.str b) (ht : look s.sl t = some (.v u)) (hn : n = l.length)
    (hu : (∃ ty, s.hp[0]? = some (.row u n 5 (rowL l) ty)) ∨ ∃ g cap ty tot, u = .slice (some ⟨g, 0, none⟩) n cap ∧ n ≤ cap ∧ cap ≤ maxLen ∧ s.hp[0]? = some (.box g ⟨rowL l, ty, tot⟩))
    (hrows : ∀ q, q < l.length → s.hp[q + 1]? = some (rowM (l.getD q default))) : Le B s ⟨(t, avL (l.map toM)) :: s.sl, [], s.k⟩ := fun a w hr => by
  have hold : ∀ e ∈ s.hp, ∀ g, e.blk = some g → g < w.heap.size → Zn B [] w g := fun e he g hg hl => ⟨hl, fun p hp => by simp at hp, fun h0 => by
    have h1 := hr.own e he g hg
    exact absurd (hB.str g (hnew g (h1.2 h0))).1 h1.1⟩
  have hZ : ∀ b, Zn B s.hp w b → Zn B [] w b := fun b hb => ⟨hb.1, fun p hp => by simp at hp, hb.2.2⟩
  have hr' : R B ⟨s.sl, [], s.k⟩ a w := hr.drop (fun _ _ h => h) (List.nil_sublist _)
  refine hr'.over t ?_
  rw [(hr.slots t _ ht).eq_v]
  refine fam_avL hn ?_ fun q hq => ?_
  · rcases hu with ⟨ty, hi⟩ | ⟨g, cap, ty, tot, rfl, h1, h2, hi⟩
    · exact hr.repRow hi hZ fun g hg hl => hold _ (List.mem_of_getElem? hi) g hg hl
    · have := hr.repBox (off := 0) (n := n) (sz := 5) (cap := cap) hi (by show 0 + n * 5 ≤ (rowL l).length; rw [rowL_len, hn]; show 0 + l.length * 5 ≤ l.length * 5; omega) h1 h2 hZ (hold _ (List.mem_of_getElem? hi) g rfl)
      exact this.im_congr fun j hj => by rw [Nat.zero_add]
  · have hi := hrows q hq
    exact Rep.strs rfl (hr.repRow hi hZ fun g hg hl => hold _ (List.mem_of_getElem? hi) g hg hl)
def MRok (x : MR) : Prop := x.key.size ≤ 1000 ∧ x.can.length ≤ 5 ∧ ∀ y ∈ x.can, y.size ≤ 1000
theorem MRok.getD {l : List MR} (h : ∀ x ∈ l, MRok x) {m : Nat} (hm : m < l.length) : MRok (l.getD m default) := by
  have := h _ (List.getElem_mem hm)
  simpa [hm] using this
theorem famAt' {e : Ent} {L : List Ent} {l : List MR} {q : Nat} (h : l.map rowM = L) (hq : q < l.length) : (e :: L)[q + 1]? = some (rowM (l.getD q default)) := by subst h; exact famAt hq
theorem famSet {l : List MR} {m : Nat} {x : MR} (hm : m < l.length) (hx : rowM x = rowM (l.getD m default)) : (l.set m x).map rowM = l.map rowM := by
  rw [List.map_set, hx]
  apply List.ext_getElem (by simp)
  intro i h1 h2
  rw [List.getElem_set]
  split
  · rename_i e; subst e; simp [hm]
  · rfl
theorem MRok.small {l : List MR} (hl : l.length ≤ 100) (h : ∀ x ∈ l, x.key.size ≤ 1000 ∧ x.can.length ≤ 6 ∧ ∀ y ∈ x.can, y.size ≤ 1000) : SmallM (l.map toM) := by
  have key : ∀ i, ((l.map toM).getD i default).key.size ≤ 1000 ∧ ((l.map toM).getD i default).can.length ≤ 6 ∧ ∀ y ∈ ((l.map toM).getD i default).can, y.size ≤ 1000 := fun i => by
    by_cases hi : i < l.length
    · have := h _ (List.getElem_mem hi)
      simpa [hi, toM] using this
    · have : (l.map toM).getD i default = default := by simp [List.getD_eq_getElem?_getD, hi]
      rw [this]
      exact ⟨by decide, by decide, fun y hy => by cases hy⟩
  refine ⟨by rw [List.length_map]; omega, fun i => by have := (key i).1; omega, fun i => by have := (key i).2.1; omega, fun i j => ?_⟩
  by_cases hj : j < ((l.map toM).getD i default).can.length
  · have := (key i).2.2 _ (List.getElem_mem hj)
    rw [List.getD_eq_getElem?_getD, List.getElem?_eq_getElem hj]
    simp only [Option.getD_some]
    omega
  · rw [List.getD_eq_getElem?_getD, List.getElem?_eq_none (by omega)]
    decide
theorem MRok.six {x : MR} (h : MRok x) : x.key.size ≤ 1000 ∧ x.can.length ≤ 6 ∧ ∀ y ∈ x.can, y.size ≤ 1000 := ⟨h.1, by have := h.2.1; omega, h.2.2⟩
theorem MRok.set {l : List MR} (h : ∀ x ∈ l, MRok x) {m : Nat} {x : MR} (hx : x.key.size ≤ 1000 ∧ x.can.length ≤ 6 ∧ ∀ y ∈ x.can, y.size ≤ 1000) : ∀ y ∈ l.set m x, y.key.size ≤ 1000 ∧ y.can.length ≤ 6 ∧ ∀ z ∈ y.can, z.size ≤ 1000 := fun y hy => by
  rcases List.mem_or_eq_of_mem_set hy with h' | rfl
  · exact (h y h').six
  · exact hx
set_option maxRecDepth 100000 in
theorem machines_T {p : Nat} {L : List Int}  :
    SpecT Tryd.prog (TT p L) (fun b => b = p) 4 [sp p] 60 (fun y => ∃ ms : List Mach, (SmallM ms ∧ 0 < ms.length ∧ ms.length ≤ 100) ∧ y = avL ms) := by
  refine SpecT.of_VC Tryd.func4 rfl Tryd.ntmps4 (Nat.le_of_ble_eq_true rfl) (low := (fun b => b ≤ p)) (fun w A k h => h.ok) fun w A k hk hB => ?_
  have hnew : ∀ b, (B1 w A 109 (fun b => b = p) (fun b => b ≤ p) (TT p L)).S b → (B1 w A 109 (fun b => b = p) (fun b => b ≤ p) (TT p L)).str b := fun _ h => h
  refine VC.seq ?_
  refine VC.region ?_
  refine VO.val rfl rfl (OpV.move (.inr rfl) rfl) ?_
  refine VO.nil ?_
  show VC _ _ _ _ _
  refine VC.seq ?_
  refine VC.region ?_
  refine VO.val rfl rfl (OpV.move (.inr rfl) rfl) ?_
  refine VO.nil ?_
  show VC _ _ _ _ _
  refine VC.seq ?_
  refine VC.seq ?_
  refine VC.region ?_
  refine VO.val rfl rfl (OpV.move (.inl rfl) rfl) ?_
  refine VO.op rfl (OpE.callT' (k) rfl rfl hB rfl Tryd.call21 rfl ((range_T (by omega) (by omega) (by omega))) (by omega) ?_)
  rintro _ ⟨r10, hr10, rfl⟩
  refine VO.val rfl rfl (OpV.move (.inl rfl) rfl) ?_
  refine VO.nil ?_
  show VC _ _ _ _ _
  refine VC.block ?_
  refine VC.le _ (Le.nilRow 5 54) ?_
  obtain ⟨n, rfl⟩ : ∃ m : Nat, r10 = m := ⟨r10.toNat, by omega⟩
  refine VC.loop' ({t : Value × List MR × Nat // t.2.2 ≤ n ∧ t.2.1.length = t.2.2 ∧ ∀ x ∈ t.2.1, MRok x}) (fun (i : {t : Value × List MR × Nat // t.2.2 ≤ n ∧ t.2.1.length = t.2.2 ∧ ∀ x ∈ t.2.1, MRok x}) => match i with | ⟨⟨uo, l, q⟩, hq, hl, hok⟩ => ⟨[(0, sp p), (3, .v uo), (10, avI (n : Int)), (11, avI (q : Int))], (.row uo l.length 5 (rowL l) 54 :: l.map rowM), k + 1 + 8 * q⟩) (fun (i : {t : Value × List MR × Nat // t.2.2 ≤ n ∧ t.2.1.length = t.2.2 ∧ ∀ x ∈ t.2.1, MRok x}) => match i with | ⟨⟨uo, l, q⟩, hq, hl, hok⟩ => n - q) ⟨(.slice none 0 0, [], 0), Nat.zero_le _, rfl, fun x h => by simp at h⟩ (Le.mkP hB ⟨rfl, rfl, rfl, rfl, trivial⟩ (List.Sublist.refl _) (List.Perm.refl _) (show k + 1 ≤ k + 1 + 8 * 0 by omega)) ?_
  rintro ⟨⟨uo, l, q⟩, hq, hl, hok⟩
  show VC _ _ _ _ ⟨[(0, sp p), (3, .v uo), (10, avI (n : Int)), (11, avI (q : Int))], (.row uo l.length 5 (rowL l) 54 :: l.map rowM), k + 1 + 8 * q⟩
  simp only at hq hl hok
  refine VC.seq ?_
  refine VC.region ?_
  refine VO.val rfl rfl (OpV.lss rfl rfl rfl) ?_
  refine VO.nil ?_
  show VC _ _ _ _ _
  refine VC.seq ?_
  refine VC.cond rfl (fun aH1b => ?_) (fun aH1b => ?_)
  · have aH1 := aH1b
    try simp only [decide_eq_true_eq, decide_eq_false_iff_not, Bool.not_eq_true', Bool.not_eq_false', Int.not_lt, Int.not_le] at aH1
    refine VC.skip ?_
    show VC _ _ _ _ _
    refine VC.seq ?_
    refine VC.block ?_
    refine VC.seq ?_
    refine VC.region ?_
    refine VO.val rfl rfl (OpV.move (.inl rfl) rfl) ?_
    refine VO.val rfl rfl (OpV.move (.inr rfl) rfl) ?_
    refine VO.nil ?_
    show VC _ _ _ _ _
    refine VC.seq ?_
    refine VC.region ?_
    refine VO.val rfl rfl (OpV.move (.inl rfl) rfl) ?_
    refine VO.val rfl rfl (OpV.add rfl rfl rfl (by unfold fits; omega)) ?_
    refine VO.val rfl rfl (OpV.conv rfl Tryd.underlying3 Tryd.underlying21 rfl (IntWalk.i32_in _ (by omega))) ?_
    refine VO.val rfl rfl (OpV.convStr rfl Tryd.underlying21 Tryd.underlying9 rfl) ?_
    refine VO.val rfl rfl (OpV.sadd rfl rfl rfl (by have := encode_small (49 + (q : Int)); have h1 : (⟨#[109]⟩ : ByteArray).size = 1 := rfl; omega)) ?_
    refine VO.val rfl rfl (OpV.move (.inl rfl) rfl) ?_
    refine VO.op rfl (OpE.buildSlice (zc := #[.int .i64 0, .int .i64 0, .int .i64 0, .int .i64 0]) rfl hB rfl Tryd.underlying22 Tryd.sizeOf3 Tryd.zeroValue3 (by decide) (by decide) (by kernel_rfl) rfl rfl ?_)
    refine VO.op rfl (OpE.callT' (k + 1 + 8 * q) rfl rfl hB rfl Tryd.call22 rfl (pick_X (by rfl) (by decide) (by decide) (by repeat (first | exact AllX.nil | refine AllX.cons ?_))) (by omega) ?_)
    rintro _ ⟨r21, rfl⟩
    refine VO.val rfl rfl (OpV.move (.inl rfl) rfl) ?_
    refine VO.op rfl (OpE.buildSlice (zc := #[.int .i64 0, .int .i64 0, .int .i64 0, .int .i64 0]) rfl hB rfl Tryd.underlying22 Tryd.sizeOf3 Tryd.zeroValue3 (by decide) (by decide) (by kernel_rfl) rfl rfl ?_)
    refine VO.op rfl (OpE.callT' (k + 1 + 8 * q + 1) rfl rfl hB rfl Tryd.call22 rfl (pick_X (by rfl) (by decide) (by decide) (by repeat (first | exact AllX.nil | refine AllX.cons ?_))) (by omega) ?_)
    rintro _ ⟨r24, rfl⟩
    refine VO.val rfl rfl (OpV.move (.inl rfl) rfl) ?_
    refine VO.op rfl (OpE.buildSlice (zc := #[.int .i64 0, .int .i64 0, .int .i64 0, .int .i64 0]) rfl hB rfl Tryd.underlying22 Tryd.sizeOf3 Tryd.zeroValue3 (by decide) (by decide) (by kernel_rfl) rfl rfl ?_)
    refine VO.op rfl (OpE.callT' (k + 1 + 8 * q + 1 + 1) rfl rfl hB rfl Tryd.call22 rfl (pick_X (by rfl) (by decide) (by decide) (by repeat (first | exact AllX.nil | refine AllX.cons ?_))) (by omega) ?_)
    rintro _ ⟨r27, rfl⟩
    refine VO.val rfl rfl (OpV.build (pls := #[(0, 1), (1, 1), (2, 1), (3, 1), (4, 1)]) rfl Tryd.zeroValue54 Tryd.underlying54 (fun w => by kernel_rfl) rfl rfl) ?_
    refine VO.op rfl (OpE.alloc rfl hB rfl Tryd.zeroValue54 rfl ?_)
    intro g5
    refine VO.le _ (Le.front rfl) ?_
    first
      | refine VO.op rfl (OpE.store (i := 0) rfl hB rfl Tryd.sizeOf54 rfl rfl rfl rfl rfl rfl (Nat.le_of_ble_eq_true rfl) trivial ?_)
      | refine VO.op rfl (OpE.store (i := 1) rfl hB rfl Tryd.sizeOf54 rfl rfl rfl rfl rfl rfl (Nat.le_of_ble_eq_true rfl) trivial ?_)
    refine VO.nil ?_
    show VC _ _ _ _ _
    refine VC.seq ?_
    refine VC.seq ?_
    refine VC.region ?_
    refine VO.op rfl (OpE.buildSlice (zc := #[.string ⟨#[]⟩, .string ⟨#[]⟩, .string ⟨#[]⟩, .string ⟨#[]⟩, .string ⟨#[]⟩]) rfl hB rfl Tryd.underlying52 Tryd.sizeOf9 Tryd.zeroValue9 (by decide) (by decide) (by kernel_rfl) rfl rfl ?_)
    refine VO.le _ (Le.recast (t := 29) (y := avStrs keys5) rfl (fun w Z u h => Rep.strs (xs := keys5) rfl h)) ?_
    first
      | refine VO.val rfl rfl (OpV.len_im rfl Tryd.underlying52 rfl) ?_
      | refine VO.val rfl rfl (OpV.len_v rfl Tryd.underlying52 rfl) ?_
      | refine VO.val rfl rfl (OpV.len_row (i := 0) rfl Tryd.underlying52 rfl rfl) ?_
      | refine VO.val rfl rfl (OpV.len_row (i := 1) rfl Tryd.underlying52 rfl rfl) ?_
    refine VO.val rfl rfl (OpV.move (.inl rfl) rfl) ?_
    refine VO.nil ?_
    show VC _ _ _ _ _
    refine VC.block ?_
    refine VC.le _ (Le.nilRow 1 9) ?_
    refine VC.le _ (Le.front rfl) ?_
    refine VC.loop' ({t : Option Addr × Nat × List ByteArray × Nat // t.2.2.2 ≤ 5 ∧ t.2.2.1.length ≤ t.2.2.2 ∧ ∀ x ∈ t.2.2.1, x.size ≤ 1000}) (fun (i : {t : Option Addr × Nat × List ByteArray × Nat // t.2.2.2 ≤ 5 ∧ t.2.2.1.length ≤ t.2.2.2 ∧ ∀ x ∈ t.2.2.1, x.size ≤ 1000}) => match i with | ⟨⟨b, c, can, r⟩, hr, hcl, hcs⟩ => ⟨[(0, sp p), (3, .v uo), (5, .v (.pointer (some ⟨g5, 0, none⟩))), (10, avI (n : Int)), (11, avI (q : Int)), (29, avStrs keys5), (30, avI 5), (31, avI (r : Int))], (.row (.slice b can.length c) can.length 1 (strsL can) 9 :: .box g5 ⟨[avS (mkKey q), avI r21, avI r24, avI r27, .v (.slice b can.length c)], 54, 5⟩ :: .row uo l.length 5 (rowL l) 54 :: l.map rowM), k + 1 + 8 * q + 3 + r⟩) (fun (i : {t : Option Addr × Nat × List ByteArray × Nat // t.2.2.2 ≤ 5 ∧ t.2.2.1.length ≤ t.2.2.2 ∧ ∀ x ∈ t.2.2.1, x.size ≤ 1000}) => match i with | ⟨⟨b, c, can, r⟩, hr, hcl, hcs⟩ => 5 - r) ⟨(none, 0, [], 0), by decide, by decide, fun x h => by simp at h⟩ (Le.mkP hB ⟨rfl, rfl, rfl, rfl, rfl, rfl, rfl, rfl, trivial⟩ (List.Sublist.refl _) (List.Perm.refl _) (show k + 1 + 8 * q + 1 + 1 + 1 ≤ k + 1 + 8 * q + 3 + 0 by omega)) ?_
    rintro ⟨⟨b, c, can, r⟩, hr, hcl, hcs⟩
    show VC _ _ _ _ ⟨[(0, sp p), (3, .v uo), (5, .v (.pointer (some ⟨g5, 0, none⟩))), (10, avI (n : Int)), (11, avI (q : Int)), (29, avStrs keys5), (30, avI 5), (31, avI (r : Int))], (.row (.slice b can.length c) can.length 1 (strsL can) 9 :: .box g5 ⟨[avS (mkKey q), avI r21, avI r24, avI r27, .v (.slice b can.length c)], 54, 5⟩ :: .row uo l.length 5 (rowL l) 54 :: l.map rowM), k + 1 + 8 * q + 3 + r⟩
    simp only at hr hcl hcs
    refine VC.seq ?_
    refine VC.region ?_
    refine VO.val rfl rfl (OpV.lss rfl rfl rfl) ?_
    refine VO.nil ?_
    show VC _ _ _ _ _
    refine VC.seq ?_
    refine VC.cond rfl (fun aH2b => ?_) (fun aH2b => ?_)
    · have aH2 := aH2b
      try simp only [decide_eq_true_eq, decide_eq_false_iff_not, Bool.not_eq_true', Bool.not_eq_false', Int.not_lt, Int.not_le] at aH2
      refine VC.skip ?_
      show VC _ _ _ _ _
      refine VC.seq ?_
      refine VC.block ?_
      refine VC.seq ?_
      refine VC.region ?_
      first
        | refine VO.val rfl rfl (OpV.indexAddr_1 rfl Tryd.underlying52 Tryd.sizeOf9 rfl rfl rfl (by show _ < 5; omega)) ?_
        | refine VO.val rfl rfl (OpV.indexAddr_1 rfl Tryd.underlying52 Tryd.sizeOf9 rfl rfl (Int.toNat_of_nonneg (by omega)).symm (by show _ < 5; omega)) ?_
        | refine VO.val rfl rfl (OpV.indexAddr_o rfl Tryd.underlying52 Tryd.sizeOf9 rfl rfl rfl (by show _ < 5; omega)) ?_
        | refine VO.val rfl rfl (OpV.indexAddr_o rfl Tryd.underlying52 Tryd.sizeOf9 rfl rfl (Int.toNat_of_nonneg (by omega)).symm (by show _ < 5; omega)) ?_
        | refine VO.val rfl rfl (OpV.indexAddr_q rfl Tryd.underlying52 Tryd.sizeOf9 rfl rfl rfl (by show _ < 5; omega)) ?_
        | refine VO.val rfl rfl (OpV.indexAddr_q rfl Tryd.underlying52 Tryd.sizeOf9 rfl rfl (Int.toNat_of_nonneg (by omega)).symm (by show _ < 5; omega)) ?_
        | refine VO.val rfl rfl (OpV.indexAddr_im rfl Tryd.underlying52 Tryd.sizeOf9 rfl rfl (by omega) (by show _ < 5; omega)) ?_
      first
        | refine VO.val rfl rfl (OpV.load_at rfl hB OutW.no Tryd.isAgg9 rfl rfl) ?_
        | refine VO.val rfl rfl (OpV.load_own (i := 0) rfl hB Tryd.isAgg9 rfl rfl rfl (fun h => h)) ?_
        | refine VO.val rfl rfl (OpV.load_own (i := 1) rfl hB Tryd.isAgg9 rfl rfl rfl (fun h => h)) ?_
        | refine VO.val rfl rfl (OpV.load_own (i := 2) rfl hB Tryd.isAgg9 rfl rfl rfl (fun h => h)) ?_
      refine VO.val rfl rfl (OpV.move (.inr rfl) rfl) ?_
      refine VO.nil ?_
      show VC _ _ _ _ _
      refine VC.seq ?_
      refine VC.region ?_
      refine VO.val rfl rfl (OpV.move (.inl rfl) rfl) ?_
      refine VO.op rfl (OpE.callT' (k + 1 + 8 * q + 3 + r) rfl rfl hB rfl Tryd.call23 rfl ((flip_T (by omega))) (by omega) ?_)
      rintro _ ⟨r36, rfl⟩
      refine VO.val rfl rfl (OpV.not rfl rfl) ?_
      refine VO.nil ?_
      show VC _ _ _ _ _
      refine VC.cond rfl (fun aH3b => ?_) (fun aH3b => ?_)
      · have aH3 := aH3b
        try simp only [decide_eq_true_eq, decide_eq_false_iff_not, Bool.not_eq_true', Bool.not_eq_false', Int.not_lt, Int.not_le] at aH3
        refine VC.region ?_
        first
          | refine VO.val rfl rfl (OpV.fieldAddr_atO 4 rfl Tryd.underlying54 rfl rfl Tryd.sizeOf52 rfl rfl) ?_
          | refine VO.val rfl rfl (OpV.fieldAddrO 4 rfl Tryd.underlying54 rfl rfl Tryd.sizeOf52 rfl) ?_
        first
          | refine VO.val rfl rfl (OpV.load_at rfl hB OutW.no Tryd.isAgg52 rfl rfl) ?_
          | refine VO.val rfl rfl (OpV.load_own (i := 0) rfl hB Tryd.isAgg52 rfl rfl rfl (fun h => h)) ?_
          | refine VO.val rfl rfl (OpV.load_own (i := 1) rfl hB Tryd.isAgg52 rfl rfl rfl (fun h => h)) ?_
          | refine VO.val rfl rfl (OpV.load_own (i := 2) rfl hB Tryd.isAgg52 rfl rfl rfl (fun h => h)) ?_
        refine VO.val rfl rfl (OpV.move (.inl rfl) rfl) ?_
        refine VO.op rfl (OpE.buildSlice (zc := #[.string ⟨#[]⟩]) rfl hB rfl Tryd.underlying52 Tryd.sizeOf9 Tryd.zeroValue9 (by decide) (by decide) (by kernel_rfl) rfl rfl ?_)
        first
          | refine VO.op rfl (OpE.append1S (i := 0) rfl hB rfl Tryd.underlying52 (infoOf Tryd.t9 1 (by kernel_rfl) rfl rfl) rfl (by decide) (by decide) rfl rfl rfl rfl (strsL_snoc _ _) (by omega) (fun _ _ => trivial) ?_)
          | refine VO.op rfl (OpE.append1S (i := 1) rfl hB rfl Tryd.underlying52 (infoOf Tryd.t9 1 (by kernel_rfl) rfl rfl) rfl (by decide) (by decide) rfl rfl rfl rfl (strsL_snoc _ _) (by omega) (fun _ _ => trivial) ?_)
          | refine VO.op rfl (OpE.append1S (i := 2) rfl hB rfl Tryd.underlying52 (infoOf Tryd.t9 1 (by kernel_rfl) rfl rfl) rfl (by decide) (by decide) rfl rfl rfl rfl (strsL_snoc _ _) (by omega) (fun _ _ => trivial) ?_)
        intro b2 c2
        first
          | refine VO.val rfl rfl (OpV.fieldAddr_atO 4 rfl Tryd.underlying54 rfl rfl Tryd.sizeOf52 rfl rfl) ?_
          | refine VO.val rfl rfl (OpV.fieldAddrO 4 rfl Tryd.underlying54 rfl rfl Tryd.sizeOf52 rfl) ?_
        first
          | refine VO.op rfl (OpE.store (i := 0) rfl hB rfl Tryd.sizeOf52 rfl rfl rfl rfl rfl rfl (Nat.le_of_ble_eq_true rfl) trivial ?_)
          | refine VO.op rfl (OpE.store (i := 1) rfl hB rfl Tryd.sizeOf52 rfl rfl rfl rfl rfl rfl (Nat.le_of_ble_eq_true rfl) trivial ?_)
          | refine VO.op rfl (OpE.store (i := 2) rfl hB rfl Tryd.sizeOf52 rfl rfl rfl rfl rfl rfl (Nat.le_of_ble_eq_true rfl) trivial ?_)
        refine VO.nil ?_
        show VC _ _ _ _ _
        refine VC.region ?_
        refine VO.val rfl rfl (OpV.add rfl rfl rfl (by unfold fits; omega)) ?_
        refine VO.val rfl rfl (OpV.move (.inl rfl) rfl) ?_
        refine VO.nil ?_
        first
          | exact Exists.intro (⟨(b2, c2, can ++ [keys5.getD r ByteArray.empty], r + 1), by show r + 1 ≤ 5; omega, by show (can ++ [_]).length ≤ r + 1; simp; omega, fun x hx => by rcases List.mem_append.1 hx with hx | hx; exact hcs x hx; (simp at hx; subst hx; exact keys5_size _)⟩) (And.intro (Le.mkP hB ⟨rfl, rfl, rfl, rfl, rfl, rfl, rfl, rfl, trivial⟩ (List.Sublist.refl _) (by first | exact List.Perm.refl _ | (rw [List.length_append]; exact List.Perm.refl _)) (show k + 1 + 8 * q + 3 + r + 1 ≤ k + 1 + 8 * q + 3 + (r + 1) by omega)) (by first | omega | (show _ < _; omega) | (simp only []; omega)))
          | exact Exists.intro (⟨(b, c, can, r + 1), by show r + 1 ≤ 5; omega, by show can.length ≤ r + 1; omega, hcs⟩) (And.intro (Le.mkP hB ⟨rfl, rfl, rfl, rfl, rfl, rfl, rfl, rfl, trivial⟩ (List.Sublist.refl _) (by first | exact List.Perm.refl _ | (rw [List.length_append]; exact List.Perm.refl _)) (show k + 1 + 8 * q + 3 + r + 1 ≤ k + 1 + 8 * q + 3 + (r + 1) by omega)) (by first | omega | (show _ < _; omega) | (simp only []; omega)))
      · have aH3 := aH3b
        try simp only [decide_eq_true_eq, decide_eq_false_iff_not, Bool.not_eq_true', Bool.not_eq_false', Int.not_lt, Int.not_le] at aH3
        refine VC.skip ?_
        show VC _ _ _ _ _
        refine VC.region ?_
        refine VO.val rfl rfl (OpV.add rfl rfl rfl (by unfold fits; omega)) ?_
        refine VO.val rfl rfl (OpV.move (.inl rfl) rfl) ?_
        refine VO.nil ?_
        first
          | exact Exists.intro (⟨(b2, c2, can ++ [keys5.getD r ByteArray.empty], r + 1), by show r + 1 ≤ 5; omega, by show (can ++ [_]).length ≤ r + 1; simp; omega, fun x hx => by rcases List.mem_append.1 hx with hx | hx; exact hcs x hx; (simp at hx; subst hx; exact keys5_size _)⟩) (And.intro (Le.mkP hB ⟨rfl, rfl, rfl, rfl, rfl, rfl, rfl, rfl, trivial⟩ (List.Sublist.refl _) (by first | exact List.Perm.refl _ | (rw [List.length_append]; exact List.Perm.refl _)) (show k + 1 + 8 * q + 3 + r + 1 ≤ k + 1 + 8 * q + 3 + (r + 1) by omega)) (by first | omega | (show _ < _; omega) | (simp only []; omega)))
          | exact Exists.intro (⟨(b, c, can, r + 1), by show r + 1 ≤ 5; omega, by show can.length ≤ r + 1; omega, hcs⟩) (And.intro (Le.mkP hB ⟨rfl, rfl, rfl, rfl, rfl, rfl, rfl, rfl, trivial⟩ (List.Sublist.refl _) (by first | exact List.Perm.refl _ | (rw [List.length_append]; exact List.Perm.refl _)) (show k + 1 + 8 * q + 3 + r + 1 ≤ k + 1 + 8 * q + 3 + (r + 1) by omega)) (by first | omega | (show _ < _; omega) | (simp only []; omega)))
    · have aH2 := aH2b
      try simp only [decide_eq_true_eq, decide_eq_false_iff_not, Bool.not_eq_true', Bool.not_eq_false', Int.not_lt, Int.not_le] at aH2
      refine VC.exit ?_
      show VC _ _ _ _ _
      refine VC.region ?_
      refine VO.val rfl rfl (OpV.move (.inl rfl) rfl) ?_
      first
        | refine VO.val rfl rfl (OpV.loadK_at rfl hB OutW.no Tryd.isAgg54 Tryd.sizeOf54 rfl rfl) ?_
        | refine VO.val rfl rfl (OpV.loadK_own (i := 0) rfl hB Tryd.isAgg54 Tryd.sizeOf54 rfl rfl rfl (fun h => h)) ?_
        | refine VO.val rfl rfl (OpV.loadK_own (i := 1) rfl hB Tryd.isAgg54 Tryd.sizeOf54 rfl rfl rfl (fun h => h)) ?_
        | refine VO.val rfl rfl (OpV.loadK_own (i := 2) rfl hB Tryd.isAgg54 Tryd.sizeOf54 rfl rfl rfl (fun h => h)) ?_
      refine VO.op rfl (OpE.buildSlice (zc := #[.string ⟨#[]⟩, .int .i64 0, .int .i64 0, .int .i64 0, .slice none 0 0]) rfl hB rfl Tryd.underlying26 Tryd.sizeOf54 Tryd.zeroValue54 (by decide) (by decide) (by kernel_rfl) rfl rfl ?_)
      first
        | refine VO.op rfl (OpE.append1 (i := 0) rfl hB rfl Tryd.underlying26 (infoOf Tryd.t54 5 (by kernel_rfl) rfl rfl) rfl (by decide) (by decide) rfl rfl rfl rfl (rowL_snoc l (⟨mkKey q, r21, r24, r27, b, c, can⟩ : MR)) (by omega) (fun _ _ => trivial) ?_)
        | refine VO.op rfl (OpE.append1 (i := 1) rfl hB rfl Tryd.underlying26 (infoOf Tryd.t54 5 (by kernel_rfl) rfl rfl) rfl (by decide) (by decide) rfl rfl rfl rfl (rowL_snoc l (⟨mkKey q, r21, r24, r27, b, c, can⟩ : MR)) (by omega) (fun _ _ => trivial) ?_)
        | refine VO.op rfl (OpE.append1 (i := 2) rfl hB rfl Tryd.underlying26 (infoOf Tryd.t54 5 (by kernel_rfl) rfl rfl) rfl (by decide) (by decide) rfl rfl rfl rfl (rowL_snoc l (⟨mkKey q, r21, r24, r27, b, c, can⟩ : MR)) (by omega) (fun _ _ => trivial) ?_)
      intro uo2
      refine VO.val rfl rfl (OpV.move (.inr rfl) rfl) ?_
      refine VO.nil ?_
      show VC _ _ _ _ _
      refine VC.region ?_
      refine VO.val rfl rfl (OpV.add rfl rfl rfl (by unfold fits; omega)) ?_
      refine VO.val rfl rfl (OpV.move (.inl rfl) rfl) ?_
      refine VO.nil ?_
      exact Exists.intro (⟨(uo2, l ++ [⟨mkKey q, r21, r24, r27, b, c, can⟩], q + 1), by show q + 1 ≤ n; omega, by show (l ++ [_]).length = q + 1; simp; omega, fun x hx => by rcases List.mem_append.1 hx with hx | hx; exact hok x hx; (simp at hx; subst hx; exact ⟨by have := encode_small (49 + (q : Int)); show (⟨#[109]⟩ ++ Utf8.encode (49 + (q : Int)) : ByteArray).size ≤ 1000; rw [ByteArray.size_append]; have h1 : (⟨#[109]⟩ : ByteArray).size = 1 := rfl; omega, by show can.length ≤ 5; omega, hcs⟩)⟩) (And.intro (Le.mkP hB ⟨rfl, rfl, rfl, rfl, trivial⟩ (hp1 := rowM ⟨mkKey q, r21, r24, r27, b, c, can⟩ :: .row uo2 (l.length + 1) 5 (rowL (l ++ [⟨mkKey q, r21, r24, r27, b, c, can⟩])) 54 :: l.map rowM) (List.Sublist.cons_cons _ (List.Sublist.cons _ (List.Sublist.refl _))) (by rw [List.length_append]; exact permM) (show k + 1 + 8 * q + 3 + r ≤ k + 1 + 8 * (q + 1) by omega)) (by first | omega | (show _ < _; omega) | (simp only []; omega)))
  · have aH1 := aH1b
    try simp only [decide_eq_true_eq, decide_eq_false_iff_not, Bool.not_eq_true', Bool.not_eq_false', Int.not_lt, Int.not_le] at aH1
    refine VC.exit ?_
    show VC _ _ _ _ _
    refine VC.seq ?_
    refine VC.seq ?_
    refine VC.region ?_
    refine VO.val rfl rfl (OpV.move (.inl rfl) rfl) ?_
    refine VO.op rfl (OpE.callT' (k + 1 + 8 * q) rfl rfl hB rfl Tryd.call23 rfl ((flip_T (by omega))) (by omega) ?_)
    rintro _ ⟨r51, rfl⟩
    refine VO.nil ?_
    show VC _ _ _ _ _
    refine VC.cond rfl (fun aH4b => ?_) (fun aH4b => ?_)
    · have aH4 := aH4b
      try simp only [decide_eq_true_eq, decide_eq_false_iff_not, Bool.not_eq_true', Bool.not_eq_false', Int.not_lt, Int.not_le] at aH4
      refine VC.seq ?_
      refine VC.asBox (i := 0) rfl (by omega) (fun g cap hu hcap hmx => ?_)
      subst hu
      refine VC.region ?_
      refine VO.val rfl rfl (OpV.move (.inl rfl) rfl) ?_
      refine VO.val rfl rfl (OpV.move (.inl rfl) rfl) ?_
      refine VO.val rfl rfl (OpV.move (.inl rfl) rfl) ?_
      first
        | refine VO.val rfl rfl (OpV.len_im rfl Tryd.underlying26 rfl) ?_
        | refine VO.val rfl rfl (OpV.len_v rfl Tryd.underlying26 rfl) ?_
        | refine VO.val rfl rfl (OpV.len_row (i := 0) rfl Tryd.underlying26 rfl rfl) ?_
      refine VO.op rfl (OpE.callT' (k + 1 + 8 * q + 1) rfl rfl hB rfl Tryd.call24 rfl ((next_T (by omega))) (by omega) ?_)
      rintro _ ⟨r56, hr56, rfl⟩
      obtain ⟨m, rfl⟩ : ∃ m : Nat, r56 = m := ⟨r56.toNat, by omega⟩
      first
        | refine VO.val rfl rfl (OpV.indexAddr_E rfl Tryd.underlying26 Tryd.sizeOf54 rfl rfl rfl (by omega)) ?_
        | refine VO.val rfl rfl (OpV.indexAddr_E rfl Tryd.underlying26 Tryd.sizeOf54 rfl rfl (Int.toNat_of_nonneg (by omega)).symm (by omega)) ?_
        | refine VO.val rfl rfl (OpV.indexAddr_q rfl Tryd.underlying26 Tryd.sizeOf54 rfl rfl rfl (by omega)) ?_
        | refine VO.val rfl rfl (OpV.indexAddr_q rfl Tryd.underlying26 Tryd.sizeOf54 rfl rfl (Int.toNat_of_nonneg (by omega)).symm (by omega)) ?_
        | refine VO.val rfl rfl (OpV.indexAddr_im rfl Tryd.underlying26 Tryd.sizeOf54 rfl rfl (by omega) (by omega)) ?_
      refine VO.val rfl rfl (OpV.move (.inr rfl) rfl) ?_
      refine VO.nil ?_
      show VC _ _ _ _ _
      refine VC.seq ?_
      refine VC.region ?_
      refine VO.val rfl rfl (OpV.move (.inl rfl) rfl) ?_
      refine VO.op rfl (OpE.callT' (k + 1 + 8 * q + 1 + 1) rfl rfl hB rfl Tryd.call24 rfl ((next_T (by omega))) (by omega) ?_)
      rintro _ ⟨r59, hr59, rfl⟩
      refine VO.nil ?_
      show VC _ _ _ _ _
      refine VC.block ?_
      refine VC.seq ?_
      refine VC.region ?_
      refine VO.val rfl rfl (OpV.eql rfl rfl rfl) ?_
      refine VO.val rfl rfl (OpV.move (.inr rfl) rfl) ?_
      refine VO.nil ?_
      show VC _ _ _ _ _
      refine VC.cond rfl (fun aH5b => ?_) (fun aH5b => ?_)
      · have aH5 := aH5b
        try simp only [decide_eq_true_eq, decide_eq_false_iff_not, Bool.not_eq_true', Bool.not_eq_false', Int.not_lt, Int.not_le] at aH5
        refine VC.draw (fun j b => (j = 14 ∧ b = g) ∨ (j = 17 ∧ b = g)) hB (by kernel_rfl) ?_
        refine VA.take (i := 0) rfl (by kernel_rfl) (by kernel_rfl) (by kernel_rfl) rfl rfl (OpV.move (.inl rfl) rfl) ?_
        refine VA.take (i := 1) rfl (by kernel_rfl) (by kernel_rfl) (by kernel_rfl) rfl rfl (OpV.move (.inl rfl) rfl) ?_
        refine VA.take (i := 2) rfl (by kernel_rfl) (by kernel_rfl) (by kernel_rfl) rfl rfl (OpV.move (.inl rfl) rfl) ?_
        refine VA.take (i := 5) rfl (by kernel_rfl) (by kernel_rfl) (by kernel_rfl) rfl rfl (OpV.move (.inl rfl) rfl) ?_
        refine VA.take (i := 6) rfl (by kernel_rfl) (by kernel_rfl) (by kernel_rfl) rfl rfl (OpV.move (.inl rfl) rfl) ?_
        first
          | refine VA.take (i := 7) rfl (by kernel_rfl) (by kernel_rfl) (by kernel_rfl) rfl rfl (OpV.nilCheck_at rfl rfl) ?_
          | refine VA.take (i := 7) rfl (by kernel_rfl) (by kernel_rfl) (by kernel_rfl) rfl rfl (OpV.nilCheck rfl rfl) ?_
        first
          | refine VA.take (i := 8) rfl (by kernel_rfl) (by kernel_rfl) (by kernel_rfl) rfl rfl (OpV.fieldAddr_atO 3 rfl Tryd.underlying54 rfl rfl Tryd.sizeOf3 rfl rfl) ?_
          | refine VA.take (i := 8) rfl (by kernel_rfl) (by kernel_rfl) (by kernel_rfl) rfl rfl (OpV.fieldAddrO 3 rfl Tryd.underlying54 rfl rfl Tryd.sizeOf3 rfl) ?_
        first
          | refine VA.take (i := 9) rfl (by kernel_rfl) (by kernel_rfl) (by kernel_rfl) rfl rfl (OpV.load_at rfl hB (OutW.wi (by rintro j b (⟨-, rfl⟩ | ⟨-, rfl⟩) <;> first | exact ⟨_, List.mem_of_getElem? (i := 0) rfl, rfl⟩)) Tryd.isAgg3 rfl rfl) ?_
          | refine VA.take (i := 9) rfl (by kernel_rfl) (by kernel_rfl) (by kernel_rfl) rfl rfl (OpV.load_own (i := 0) rfl hB Tryd.isAgg3 rfl rfl (rowL_at rfl (by omega) (by decide)) (by first | exact Wi.not1 (by kernel_rfl) | exact Wi.not2 (by kernel_rfl) (by kernel_rfl))) ?_
        refine VA.all (rs := [3, 10]) (by kernel_rfl) (by decide) ?_
        refine ⟨⟨_, rfl, .inl rfl, ?_⟩, ⟨_, rfl, .inl rfl, ?_⟩, trivial⟩
        ·
          refine OpE.buildSlice (zc := #[.string ⟨#[]⟩, .string ⟨#[]⟩, .string ⟨#[]⟩]) rfl hB rfl Tryd.underlying52 Tryd.sizeOf9 Tryd.zeroValue9 (by decide) (by decide) (by kernel_rfl) rfl rfl ?_
          refine VA.all (rs := [4, 10]) (by kernel_rfl) (by decide) ?_
          refine ⟨⟨_, rfl, .inl rfl, ?_⟩, ⟨_, rfl, .inl rfl, ?_⟩, trivial⟩
          ·
            refine OpE.callT' (k + 1 + 8 * q + 1 + 1 + 1) rfl rfl hB rfl Tryd.call25 rfl (some_T 1000 (by rfl) (by decide) (by decide) (by repeat (first | exact AllS.nil | refine AllS.cons (by decide) ?_))) (by omega) ?_
            rintro _ ⟨r78, hr78, rfl⟩
            refine VA.all (rs := [10]) (by kernel_rfl) (by decide) ?_
            refine ⟨⟨_, rfl, .inl rfl, ?_⟩, trivial⟩
            refine OpE.buildSlice (zc := #[.int .i64 0, .int .i64 0, .int .i64 0]) rfl hB rfl Tryd.underlying22 Tryd.sizeOf3 Tryd.zeroValue3 (by decide) (by decide) (by kernel_rfl) rfl rfl ?_
            refine VA.all (rs := [11]) (by kernel_rfl) (by decide) ?_
            refine ⟨⟨_, rfl, .inl rfl, ?_⟩, trivial⟩
            refine OpE.callT' (k + 1 + 8 * q + 1 + 1 + 1 + 1) rfl rfl hB rfl Tryd.call22 rfl (pick_X (by rfl) (by decide) (by decide) (by repeat (first | exact AllX.nil | refine AllX.cons ?_))) (by omega) ?_
            rintro _ ⟨r85, rfl⟩
            first
              | refine VA.take (i := 12) rfl (by kernel_rfl) (by kernel_rfl) (by kernel_rfl) rfl rfl (OpV.nilCheck_at rfl rfl) ?_
              | refine VA.take (i := 12) rfl (by kernel_rfl) (by kernel_rfl) (by kernel_rfl) rfl rfl (OpV.nilCheck rfl rfl) ?_
            first
              | refine VA.take (i := 13) rfl (by kernel_rfl) (by kernel_rfl) (by kernel_rfl) rfl rfl (OpV.fieldAddr_atO 0 rfl Tryd.underlying54 rfl rfl Tryd.sizeOf9 rfl rfl) ?_
              | refine VA.take (i := 13) rfl (by kernel_rfl) (by kernel_rfl) (by kernel_rfl) rfl rfl (OpV.fieldAddrO 0 rfl Tryd.underlying54 rfl rfl Tryd.sizeOf9 rfl) ?_
            refine VA.all (rs := [14]) (by kernel_rfl) (by decide) ?_
            refine ⟨⟨_, rfl, .inl rfl, ?_⟩, trivial⟩
            refine OpE.store1 (i := 0) rfl hB rfl Tryd.sizeOf9 rfl rfl rfl rfl rfl rfl (rowL_in rfl (by omega) (by decide)) (rowL_set (x := ({l.getD m default with key := r78} : MR)) rfl (by omega) (by decide) rfl (ne5_0 rfl rfl rfl rfl)) (by first | exact ⟨rfl, rfl⟩ | exact .inl ⟨rfl, rfl⟩ | exact .inr ⟨rfl, rfl⟩) ?_
            first
              | refine VA.take (i := 15) rfl (by kernel_rfl) (by kernel_rfl) (by kernel_rfl) rfl rfl (OpV.nilCheck_at rfl rfl) ?_
              | refine VA.take (i := 15) rfl (by kernel_rfl) (by kernel_rfl) (by kernel_rfl) rfl rfl (OpV.nilCheck rfl rfl) ?_
            first
              | refine VA.take (i := 16) rfl (by kernel_rfl) (by kernel_rfl) (by kernel_rfl) rfl rfl (OpV.fieldAddr_atO 3 rfl Tryd.underlying54 rfl rfl Tryd.sizeOf3 rfl rfl) ?_
              | refine VA.take (i := 16) rfl (by kernel_rfl) (by kernel_rfl) (by kernel_rfl) rfl rfl (OpV.fieldAddrO 3 rfl Tryd.underlying54 rfl rfl Tryd.sizeOf3 rfl) ?_
            refine VA.all (rs := [17]) (by kernel_rfl) (by decide) ?_
            refine ⟨⟨_, rfl, .inl rfl, ?_⟩, trivial⟩
            refine OpE.store1 (i := 0) rfl hB rfl Tryd.sizeOf3 rfl rfl rfl rfl rfl rfl (rowL_in rfl (by rw [List.length_set]; omega) (by decide)) (rowL_set (x := ({l.getD m default with key := r78, feeders := r85} : MR)) rfl (by rw [List.length_set]; omega) (by decide) rfl (by rw [getD_set_self (by omega)]; exact ne5_3 rfl rfl rfl rfl)) (by first | exact ⟨rfl, rfl⟩ | exact .inl ⟨rfl, rfl⟩ | exact .inr ⟨rfl, rfl⟩) ?_
            refine VA.done (by kernel_rfl) ?_
            show VC _ _ _ _ _
            refine VC.seq ?_
            refine VC.region ?_
            refine VO.val rfl rfl (OpV.move (.inl rfl) rfl) ?_
            refine VO.val rfl rfl (OpV.move (.inr rfl) rfl) ?_
            refine VO.nil ?_
            show VC _ _ _ _ _
            first
              | refine VC.le _ (Le.fam (t := 2) (l := l) hB hnew rfl rfl (.inl ⟨_, rfl⟩) (fun q hq => famAt hq)) ?_
              | refine VC.le _ (Le.fam (t := 2) (l := l) hB hnew rfl rfl (.inr ⟨_, _, _, _, rfl, hcap, hmx, rfl⟩) (fun q hq => famAt hq)) ?_
              | refine VC.le _ (Le.fam (t := 2) (l := (l.set m {l.getD m default with key := r78}).set m {l.getD m default with key := r78, feeders := r85}) hB hnew rfl (by simp) (.inr ⟨_, _, _, _, rfl, hcap, hmx, rfl⟩) (fun q hq => famAt' ((famSet (by rw [List.length_set]; omega) (by rw [getD_set_self (by omega)]; rfl)).trans (famSet (by omega) rfl)) hq)) ?_
              | refine VC.le _ (Le.fam (t := 2) (l := (l.set m {l.getD m default with each := r96}).set m {l.getD m default with each := r96, fixed := r103}) hB hnew rfl (by simp) (.inr ⟨_, _, _, _, rfl, hcap, hmx, rfl⟩) (fun q hq => famAt' ((famSet (by rw [List.length_set]; omega) (by rw [getD_set_self (by omega)]; rfl)).trans (famSet (by omega) rfl)) hq)) ?_
              | refine VC.le _ (Le.fam (t := 2) (l := l.set m {l.getD m default with b := b3, c := c3, can := (l.getD m default).can ++ [r67]}) hB hnew rfl (by simp) (.inr ⟨_, _, _, _, rfl, hcap, hmx, rfl⟩) (fun q hq => famAt' (by rw [List.map_set]; unfold rowM; rw [List.length_append]; rfl) hq)) ?_
            refine VC.ret ?_
            exact Exists.intro _ (And.intro (RetV.one Tryd.results4 (ResV.tmp rfl)) (And.intro (by first | exact ⟨_, ⟨MRok.small (by omega) (fun x hx => (hok x hx).six), by rw [List.length_map]; omega, by rw [List.length_map]; omega⟩, rfl⟩ | exact ⟨_, ⟨MRok.small (by simp; omega) (by rw [List.set_set]; exact MRok.set hok ⟨hr78, (MRok.getD hok (m := m) (by omega)).six.2⟩), by simp; omega, by simp; omega⟩, rfl⟩ | exact ⟨_, ⟨MRok.small (by simp; omega) (by rw [List.set_set]; exact MRok.set hok ⟨(MRok.getD hok (m := m) (by omega)).1, (MRok.getD hok (m := m) (by omega)).six.2⟩), by simp; omega, by simp; omega⟩, rfl⟩ | exact ⟨(l.set m {l.getD m default with b := b3, c := c3, can := (l.getD m default).can ++ [r67]}).map toM, ⟨MRok.small (by simp; omega) (MRok.set hok (m := m) (x := {l.getD m default with b := b3, c := c3, can := (l.getD m default).can ++ [r67]}) ⟨(MRok.getD hok (m := m) (by omega)).1, by show ((l.getD m default).can ++ [r67]).length ≤ 6; have := (MRok.getD hok (m := m) (by omega)).2.1; rw [List.length_append, List.length_singleton]; omega, fun y hy => by rcases List.mem_append.1 (show y ∈ (l.getD m default).can ++ [r67] from hy) with hy | hy; exact (MRok.getD hok (m := m) (by omega)).2.2 y hy; (rw [List.mem_singleton] at hy; subst hy; exact hr67)⟩), by simp; omega, by simp; omega⟩, rfl⟩) ((show k + 1 + 8 * q + 1 + 1 + 1 + 1 + 1 ≤ k + 60 by omega))))
          ·
            refine OpE.buildSlice (zc := #[.int .i64 0, .int .i64 0, .int .i64 0]) rfl hB rfl Tryd.underlying22 Tryd.sizeOf3 Tryd.zeroValue3 (by decide) (by decide) (by kernel_rfl) rfl rfl ?_
            refine VA.all (rs := [4]) (by kernel_rfl) (by decide) ?_
            refine ⟨⟨_, rfl, .inl rfl, ?_⟩, trivial⟩
            refine OpE.callT' (k + 1 + 8 * q + 1 + 1 + 1) rfl rfl hB rfl Tryd.call25 rfl (some_T 1000 (by rfl) (by decide) (by decide) (by repeat (first | exact AllS.nil | refine AllS.cons (by decide) ?_))) (by omega) ?_
            rintro _ ⟨r78, hr78, rfl⟩
            refine VA.all (rs := [11]) (by kernel_rfl) (by decide) ?_
            refine ⟨⟨_, rfl, .inl rfl, ?_⟩, trivial⟩
            refine OpE.callT' (k + 1 + 8 * q + 1 + 1 + 1 + 1) rfl rfl hB rfl Tryd.call22 rfl (pick_X (by rfl) (by decide) (by decide) (by repeat (first | exact AllX.nil | refine AllX.cons ?_))) (by omega) ?_
            rintro _ ⟨r85, rfl⟩
            first
              | refine VA.take (i := 12) rfl (by kernel_rfl) (by kernel_rfl) (by kernel_rfl) rfl rfl (OpV.nilCheck_at rfl rfl) ?_
              | refine VA.take (i := 12) rfl (by kernel_rfl) (by kernel_rfl) (by kernel_rfl) rfl rfl (OpV.nilCheck rfl rfl) ?_
            first
              | refine VA.take (i := 13) rfl (by kernel_rfl) (by kernel_rfl) (by kernel_rfl) rfl rfl (OpV.fieldAddr_atO 0 rfl Tryd.underlying54 rfl rfl Tryd.sizeOf9 rfl rfl) ?_
              | refine VA.take (i := 13) rfl (by kernel_rfl) (by kernel_rfl) (by kernel_rfl) rfl rfl (OpV.fieldAddrO 0 rfl Tryd.underlying54 rfl rfl Tryd.sizeOf9 rfl) ?_
            refine VA.all (rs := [14]) (by kernel_rfl) (by decide) ?_
            refine ⟨⟨_, rfl, .inl rfl, ?_⟩, trivial⟩
            refine OpE.store1 (i := 0) rfl hB rfl Tryd.sizeOf9 rfl rfl rfl rfl rfl rfl (rowL_in rfl (by omega) (by decide)) (rowL_set (x := ({l.getD m default with key := r78} : MR)) rfl (by omega) (by decide) rfl (ne5_0 rfl rfl rfl rfl)) (by first | exact ⟨rfl, rfl⟩ | exact .inl ⟨rfl, rfl⟩ | exact .inr ⟨rfl, rfl⟩) ?_
            first
              | refine VA.take (i := 15) rfl (by kernel_rfl) (by kernel_rfl) (by kernel_rfl) rfl rfl (OpV.nilCheck_at rfl rfl) ?_
              | refine VA.take (i := 15) rfl (by kernel_rfl) (by kernel_rfl) (by kernel_rfl) rfl rfl (OpV.nilCheck rfl rfl) ?_
            first
              | refine VA.take (i := 16) rfl (by kernel_rfl) (by kernel_rfl) (by kernel_rfl) rfl rfl (OpV.fieldAddr_atO 3 rfl Tryd.underlying54 rfl rfl Tryd.sizeOf3 rfl rfl) ?_
              | refine VA.take (i := 16) rfl (by kernel_rfl) (by kernel_rfl) (by kernel_rfl) rfl rfl (OpV.fieldAddrO 3 rfl Tryd.underlying54 rfl rfl Tryd.sizeOf3 rfl) ?_
            refine VA.all (rs := [17]) (by kernel_rfl) (by decide) ?_
            refine ⟨⟨_, rfl, .inl rfl, ?_⟩, trivial⟩
            refine OpE.store1 (i := 0) rfl hB rfl Tryd.sizeOf3 rfl rfl rfl rfl rfl rfl (rowL_in rfl (by rw [List.length_set]; omega) (by decide)) (rowL_set (x := ({l.getD m default with key := r78, feeders := r85} : MR)) rfl (by rw [List.length_set]; omega) (by decide) rfl (by rw [getD_set_self (by omega)]; exact ne5_3 rfl rfl rfl rfl)) (by first | exact ⟨rfl, rfl⟩ | exact .inl ⟨rfl, rfl⟩ | exact .inr ⟨rfl, rfl⟩) ?_
            refine VA.done (by kernel_rfl) ?_
            show VC _ _ _ _ _
            refine VC.seq ?_
            refine VC.region ?_
            refine VO.val rfl rfl (OpV.move (.inl rfl) rfl) ?_
            refine VO.val rfl rfl (OpV.move (.inr rfl) rfl) ?_
            refine VO.nil ?_
            show VC _ _ _ _ _
            first
              | refine VC.le _ (Le.fam (t := 2) (l := l) hB hnew rfl rfl (.inl ⟨_, rfl⟩) (fun q hq => famAt hq)) ?_
              | refine VC.le _ (Le.fam (t := 2) (l := l) hB hnew rfl rfl (.inr ⟨_, _, _, _, rfl, hcap, hmx, rfl⟩) (fun q hq => famAt hq)) ?_
              | refine VC.le _ (Le.fam (t := 2) (l := (l.set m {l.getD m default with key := r78}).set m {l.getD m default with key := r78, feeders := r85}) hB hnew rfl (by simp) (.inr ⟨_, _, _, _, rfl, hcap, hmx, rfl⟩) (fun q hq => famAt' ((famSet (by rw [List.length_set]; omega) (by rw [getD_set_self (by omega)]; rfl)).trans (famSet (by omega) rfl)) hq)) ?_
              | refine VC.le _ (Le.fam (t := 2) (l := (l.set m {l.getD m default with each := r96}).set m {l.getD m default with each := r96, fixed := r103}) hB hnew rfl (by simp) (.inr ⟨_, _, _, _, rfl, hcap, hmx, rfl⟩) (fun q hq => famAt' ((famSet (by rw [List.length_set]; omega) (by rw [getD_set_self (by omega)]; rfl)).trans (famSet (by omega) rfl)) hq)) ?_
              | refine VC.le _ (Le.fam (t := 2) (l := l.set m {l.getD m default with b := b3, c := c3, can := (l.getD m default).can ++ [r67]}) hB hnew rfl (by simp) (.inr ⟨_, _, _, _, rfl, hcap, hmx, rfl⟩) (fun q hq => famAt' (by rw [List.map_set]; unfold rowM; rw [List.length_append]; rfl) hq)) ?_
            refine VC.ret ?_
            exact Exists.intro _ (And.intro (RetV.one Tryd.results4 (ResV.tmp rfl)) (And.intro (by first | exact ⟨_, ⟨MRok.small (by omega) (fun x hx => (hok x hx).six), by rw [List.length_map]; omega, by rw [List.length_map]; omega⟩, rfl⟩ | exact ⟨_, ⟨MRok.small (by simp; omega) (by rw [List.set_set]; exact MRok.set hok ⟨hr78, (MRok.getD hok (m := m) (by omega)).six.2⟩), by simp; omega, by simp; omega⟩, rfl⟩ | exact ⟨_, ⟨MRok.small (by simp; omega) (by rw [List.set_set]; exact MRok.set hok ⟨(MRok.getD hok (m := m) (by omega)).1, (MRok.getD hok (m := m) (by omega)).six.2⟩), by simp; omega, by simp; omega⟩, rfl⟩ | exact ⟨(l.set m {l.getD m default with b := b3, c := c3, can := (l.getD m default).can ++ [r67]}).map toM, ⟨MRok.small (by simp; omega) (MRok.set hok (m := m) (x := {l.getD m default with b := b3, c := c3, can := (l.getD m default).can ++ [r67]}) ⟨(MRok.getD hok (m := m) (by omega)).1, by show ((l.getD m default).can ++ [r67]).length ≤ 6; have := (MRok.getD hok (m := m) (by omega)).2.1; rw [List.length_append, List.length_singleton]; omega, fun y hy => by rcases List.mem_append.1 (show y ∈ (l.getD m default).can ++ [r67] from hy) with hy | hy; exact (MRok.getD hok (m := m) (by omega)).2.2 y hy; (rw [List.mem_singleton] at hy; subst hy; exact hr67)⟩), by simp; omega, by simp; omega⟩, rfl⟩) ((show k + 1 + 8 * q + 1 + 1 + 1 + 1 + 1 ≤ k + 60 by omega))))
        ·
          refine OpE.buildSlice (zc := #[.int .i64 0, .int .i64 0, .int .i64 0]) rfl hB rfl Tryd.underlying22 Tryd.sizeOf3 Tryd.zeroValue3 (by decide) (by decide) (by kernel_rfl) rfl rfl ?_
          refine VA.all (rs := [3]) (by kernel_rfl) (by decide) ?_
          refine ⟨⟨_, rfl, .inl rfl, ?_⟩, trivial⟩
          refine OpE.buildSlice (zc := #[.string ⟨#[]⟩, .string ⟨#[]⟩, .string ⟨#[]⟩]) rfl hB rfl Tryd.underlying52 Tryd.sizeOf9 Tryd.zeroValue9 (by decide) (by decide) (by kernel_rfl) rfl rfl ?_
          refine VA.all (rs := [4]) (by kernel_rfl) (by decide) ?_
          refine ⟨⟨_, rfl, .inl rfl, ?_⟩, trivial⟩
          refine OpE.callT' (k + 1 + 8 * q + 1 + 1 + 1) rfl rfl hB rfl Tryd.call25 rfl (some_T 1000 (by rfl) (by decide) (by decide) (by repeat (first | exact AllS.nil | refine AllS.cons (by decide) ?_))) (by omega) ?_
          rintro _ ⟨r78, hr78, rfl⟩
          refine VA.all (rs := [11]) (by kernel_rfl) (by decide) ?_
          refine ⟨⟨_, rfl, .inl rfl, ?_⟩, trivial⟩
          refine OpE.callT' (k + 1 + 8 * q + 1 + 1 + 1 + 1) rfl rfl hB rfl Tryd.call22 rfl (pick_X (by rfl) (by decide) (by decide) (by repeat (first | exact AllX.nil | refine AllX.cons ?_))) (by omega) ?_
          rintro _ ⟨r85, rfl⟩
          first
            | refine VA.take (i := 12) rfl (by kernel_rfl) (by kernel_rfl) (by kernel_rfl) rfl rfl (OpV.nilCheck_at rfl rfl) ?_
            | refine VA.take (i := 12) rfl (by kernel_rfl) (by kernel_rfl) (by kernel_rfl) rfl rfl (OpV.nilCheck rfl rfl) ?_
          first
            | refine VA.take (i := 13) rfl (by kernel_rfl) (by kernel_rfl) (by kernel_rfl) rfl rfl (OpV.fieldAddr_atO 0 rfl Tryd.underlying54 rfl rfl Tryd.sizeOf9 rfl rfl) ?_
            | refine VA.take (i := 13) rfl (by kernel_rfl) (by kernel_rfl) (by kernel_rfl) rfl rfl (OpV.fieldAddrO 0 rfl Tryd.underlying54 rfl rfl Tryd.sizeOf9 rfl) ?_
          refine VA.all (rs := [14]) (by kernel_rfl) (by decide) ?_
          refine ⟨⟨_, rfl, .inl rfl, ?_⟩, trivial⟩
          refine OpE.store1 (i := 0) rfl hB rfl Tryd.sizeOf9 rfl rfl rfl rfl rfl rfl (rowL_in rfl (by omega) (by decide)) (rowL_set (x := ({l.getD m default with key := r78} : MR)) rfl (by omega) (by decide) rfl (ne5_0 rfl rfl rfl rfl)) (by first | exact ⟨rfl, rfl⟩ | exact .inl ⟨rfl, rfl⟩ | exact .inr ⟨rfl, rfl⟩) ?_
          first
            | refine VA.take (i := 15) rfl (by kernel_rfl) (by kernel_rfl) (by kernel_rfl) rfl rfl (OpV.nilCheck_at rfl rfl) ?_
            | refine VA.take (i := 15) rfl (by kernel_rfl) (by kernel_rfl) (by kernel_rfl) rfl rfl (OpV.nilCheck rfl rfl) ?_
          first
            | refine VA.take (i := 16) rfl (by kernel_rfl) (by kernel_rfl) (by kernel_rfl) rfl rfl (OpV.fieldAddr_atO 3 rfl Tryd.underlying54 rfl rfl Tryd.sizeOf3 rfl rfl) ?_
            | refine VA.take (i := 16) rfl (by kernel_rfl) (by kernel_rfl) (by kernel_rfl) rfl rfl (OpV.fieldAddrO 3 rfl Tryd.underlying54 rfl rfl Tryd.sizeOf3 rfl) ?_
          refine VA.all (rs := [17]) (by kernel_rfl) (by decide) ?_
          refine ⟨⟨_, rfl, .inl rfl, ?_⟩, trivial⟩
          refine OpE.store1 (i := 0) rfl hB rfl Tryd.sizeOf3 rfl rfl rfl rfl rfl rfl (rowL_in rfl (by rw [List.length_set]; omega) (by decide)) (rowL_set (x := ({l.getD m default with key := r78, feeders := r85} : MR)) rfl (by rw [List.length_set]; omega) (by decide) rfl (by rw [getD_set_self (by omega)]; exact ne5_3 rfl rfl rfl rfl)) (by first | exact ⟨rfl, rfl⟩ | exact .inl ⟨rfl, rfl⟩ | exact .inr ⟨rfl, rfl⟩) ?_
          refine VA.done (by kernel_rfl) ?_
          show VC _ _ _ _ _
          refine VC.seq ?_
          refine VC.region ?_
          refine VO.val rfl rfl (OpV.move (.inl rfl) rfl) ?_
          refine VO.val rfl rfl (OpV.move (.inr rfl) rfl) ?_
          refine VO.nil ?_
          show VC _ _ _ _ _
          first
            | refine VC.le _ (Le.fam (t := 2) (l := l) hB hnew rfl rfl (.inl ⟨_, rfl⟩) (fun q hq => famAt hq)) ?_
            | refine VC.le _ (Le.fam (t := 2) (l := l) hB hnew rfl rfl (.inr ⟨_, _, _, _, rfl, hcap, hmx, rfl⟩) (fun q hq => famAt hq)) ?_
            | refine VC.le _ (Le.fam (t := 2) (l := (l.set m {l.getD m default with key := r78}).set m {l.getD m default with key := r78, feeders := r85}) hB hnew rfl (by simp) (.inr ⟨_, _, _, _, rfl, hcap, hmx, rfl⟩) (fun q hq => famAt' ((famSet (by rw [List.length_set]; omega) (by rw [getD_set_self (by omega)]; rfl)).trans (famSet (by omega) rfl)) hq)) ?_
            | refine VC.le _ (Le.fam (t := 2) (l := (l.set m {l.getD m default with each := r96}).set m {l.getD m default with each := r96, fixed := r103}) hB hnew rfl (by simp) (.inr ⟨_, _, _, _, rfl, hcap, hmx, rfl⟩) (fun q hq => famAt' ((famSet (by rw [List.length_set]; omega) (by rw [getD_set_self (by omega)]; rfl)).trans (famSet (by omega) rfl)) hq)) ?_
            | refine VC.le _ (Le.fam (t := 2) (l := l.set m {l.getD m default with b := b3, c := c3, can := (l.getD m default).can ++ [r67]}) hB hnew rfl (by simp) (.inr ⟨_, _, _, _, rfl, hcap, hmx, rfl⟩) (fun q hq => famAt' (by rw [List.map_set]; unfold rowM; rw [List.length_append]; rfl) hq)) ?_
          refine VC.ret ?_
          exact Exists.intro _ (And.intro (RetV.one Tryd.results4 (ResV.tmp rfl)) (And.intro (by first | exact ⟨_, ⟨MRok.small (by omega) (fun x hx => (hok x hx).six), by rw [List.length_map]; omega, by rw [List.length_map]; omega⟩, rfl⟩ | exact ⟨_, ⟨MRok.small (by simp; omega) (by rw [List.set_set]; exact MRok.set hok ⟨hr78, (MRok.getD hok (m := m) (by omega)).six.2⟩), by simp; omega, by simp; omega⟩, rfl⟩ | exact ⟨_, ⟨MRok.small (by simp; omega) (by rw [List.set_set]; exact MRok.set hok ⟨(MRok.getD hok (m := m) (by omega)).1, (MRok.getD hok (m := m) (by omega)).six.2⟩), by simp; omega, by simp; omega⟩, rfl⟩ | exact ⟨(l.set m {l.getD m default with b := b3, c := c3, can := (l.getD m default).can ++ [r67]}).map toM, ⟨MRok.small (by simp; omega) (MRok.set hok (m := m) (x := {l.getD m default with b := b3, c := c3, can := (l.getD m default).can ++ [r67]}) ⟨(MRok.getD hok (m := m) (by omega)).1, by show ((l.getD m default).can ++ [r67]).length ≤ 6; have := (MRok.getD hok (m := m) (by omega)).2.1; rw [List.length_append, List.length_singleton]; omega, fun y hy => by rcases List.mem_append.1 (show y ∈ (l.getD m default).can ++ [r67] from hy) with hy | hy; exact (MRok.getD hok (m := m) (by omega)).2.2 y hy; (rw [List.mem_singleton] at hy; subst hy; exact hr67)⟩), by simp; omega, by simp; omega⟩, rfl⟩) ((show k + 1 + 8 * q + 1 + 1 + 1 + 1 + 1 ≤ k + 60 by omega))))
      · have aH5 := aH5b
        try simp only [decide_eq_true_eq, decide_eq_false_iff_not, Bool.not_eq_true', Bool.not_eq_false', Int.not_lt, Int.not_le] at aH5
        refine VC.seq ?_
        refine VC.region ?_
        refine VO.val rfl rfl (OpV.eql rfl rfl rfl) ?_
        refine VO.val rfl rfl (OpV.move (.inr rfl) rfl) ?_
        refine VO.nil ?_
        show VC _ _ _ _ _
        refine VC.cond rfl (fun aH6b => ?_) (fun aH6b => ?_)
        · have aH6 := aH6b
          try simp only [decide_eq_true_eq, decide_eq_false_iff_not, Bool.not_eq_true', Bool.not_eq_false', Int.not_lt, Int.not_le] at aH6
          refine VC.draw (fun j b => (j = 14 ∧ b = g) ∨ (j = 17 ∧ b = g)) hB (by kernel_rfl) ?_
          refine VA.take (i := 0) rfl (by kernel_rfl) (by kernel_rfl) (by kernel_rfl) rfl rfl (OpV.move (.inl rfl) rfl) ?_
          refine VA.take (i := 1) rfl (by kernel_rfl) (by kernel_rfl) (by kernel_rfl) rfl rfl (OpV.move (.inl rfl) rfl) ?_
          refine VA.take (i := 2) rfl (by kernel_rfl) (by kernel_rfl) (by kernel_rfl) rfl rfl (OpV.move (.inl rfl) rfl) ?_
          refine VA.take (i := 5) rfl (by kernel_rfl) (by kernel_rfl) (by kernel_rfl) rfl rfl (OpV.move (.inl rfl) rfl) ?_
          refine VA.take (i := 6) rfl (by kernel_rfl) (by kernel_rfl) (by kernel_rfl) rfl rfl (OpV.move (.inl rfl) rfl) ?_
          first
            | refine VA.take (i := 7) rfl (by kernel_rfl) (by kernel_rfl) (by kernel_rfl) rfl rfl (OpV.nilCheck_at rfl rfl) ?_
            | refine VA.take (i := 7) rfl (by kernel_rfl) (by kernel_rfl) (by kernel_rfl) rfl rfl (OpV.nilCheck rfl rfl) ?_
          first
            | refine VA.take (i := 8) rfl (by kernel_rfl) (by kernel_rfl) (by kernel_rfl) rfl rfl (OpV.fieldAddr_atO 2 rfl Tryd.underlying54 rfl rfl Tryd.sizeOf3 rfl rfl) ?_
            | refine VA.take (i := 8) rfl (by kernel_rfl) (by kernel_rfl) (by kernel_rfl) rfl rfl (OpV.fieldAddrO 2 rfl Tryd.underlying54 rfl rfl Tryd.sizeOf3 rfl) ?_
          first
            | refine VA.take (i := 9) rfl (by kernel_rfl) (by kernel_rfl) (by kernel_rfl) rfl rfl (OpV.load_at rfl hB (OutW.wi (by rintro j b (⟨-, rfl⟩ | ⟨-, rfl⟩) <;> first | exact ⟨_, List.mem_of_getElem? (i := 0) rfl, rfl⟩)) Tryd.isAgg3 rfl rfl) ?_
            | refine VA.take (i := 9) rfl (by kernel_rfl) (by kernel_rfl) (by kernel_rfl) rfl rfl (OpV.load_own (i := 0) rfl hB Tryd.isAgg3 rfl rfl (rowL_at rfl (by omega) (by decide)) (by first | exact Wi.not1 (by kernel_rfl) | exact Wi.not2 (by kernel_rfl) (by kernel_rfl))) ?_
          refine VA.all (rs := [3, 10]) (by kernel_rfl) (by decide) ?_
          refine ⟨⟨_, rfl, .inl rfl, ?_⟩, ⟨_, rfl, .inl rfl, ?_⟩, trivial⟩
          ·
            refine OpE.buildSlice (zc := #[.int .i64 0, .int .i64 0, .int .i64 0]) rfl hB rfl Tryd.underlying22 Tryd.sizeOf3 Tryd.zeroValue3 (by decide) (by decide) (by kernel_rfl) rfl rfl ?_
            refine VA.all (rs := [4, 10]) (by kernel_rfl) (by decide) ?_
            refine ⟨⟨_, rfl, .inl rfl, ?_⟩, ⟨_, rfl, .inl rfl, ?_⟩, trivial⟩
            ·
              refine OpE.callT' (k + 1 + 8 * q + 1 + 1 + 1) rfl rfl hB rfl Tryd.call22 rfl (pick_X (by rfl) (by decide) (by decide) (by repeat (first | exact AllX.nil | refine AllX.cons ?_))) (by omega) ?_
              rintro _ ⟨r96, rfl⟩
              refine VA.all (rs := [10]) (by kernel_rfl) (by decide) ?_
              refine ⟨⟨_, rfl, .inl rfl, ?_⟩, trivial⟩
              refine OpE.buildSlice (zc := #[.int .i64 0, .int .i64 0, .int .i64 0]) rfl hB rfl Tryd.underlying22 Tryd.sizeOf3 Tryd.zeroValue3 (by decide) (by decide) (by kernel_rfl) rfl rfl ?_
              refine VA.all (rs := [11]) (by kernel_rfl) (by decide) ?_
              refine ⟨⟨_, rfl, .inl rfl, ?_⟩, trivial⟩
              refine OpE.callT' (k + 1 + 8 * q + 1 + 1 + 1 + 1) rfl rfl hB rfl Tryd.call22 rfl (pick_X (by rfl) (by decide) (by decide) (by repeat (first | exact AllX.nil | refine AllX.cons ?_))) (by omega) ?_
              rintro _ ⟨r103, rfl⟩
              first
                | refine VA.take (i := 12) rfl (by kernel_rfl) (by kernel_rfl) (by kernel_rfl) rfl rfl (OpV.nilCheck_at rfl rfl) ?_
                | refine VA.take (i := 12) rfl (by kernel_rfl) (by kernel_rfl) (by kernel_rfl) rfl rfl (OpV.nilCheck rfl rfl) ?_
              first
                | refine VA.take (i := 13) rfl (by kernel_rfl) (by kernel_rfl) (by kernel_rfl) rfl rfl (OpV.fieldAddr_atO 1 rfl Tryd.underlying54 rfl rfl Tryd.sizeOf3 rfl rfl) ?_
                | refine VA.take (i := 13) rfl (by kernel_rfl) (by kernel_rfl) (by kernel_rfl) rfl rfl (OpV.fieldAddrO 1 rfl Tryd.underlying54 rfl rfl Tryd.sizeOf3 rfl) ?_
              refine VA.all (rs := [14]) (by kernel_rfl) (by decide) ?_
              refine ⟨⟨_, rfl, .inl rfl, ?_⟩, trivial⟩
              refine OpE.store1 (i := 0) rfl hB rfl Tryd.sizeOf3 rfl rfl rfl rfl rfl rfl (rowL_in rfl (by omega) (by decide)) (rowL_set (x := ({l.getD m default with each := r96} : MR)) rfl (by omega) (by decide) rfl (ne5_1 rfl rfl rfl rfl)) (by first | exact ⟨rfl, rfl⟩ | exact .inl ⟨rfl, rfl⟩ | exact .inr ⟨rfl, rfl⟩) ?_
              first
                | refine VA.take (i := 15) rfl (by kernel_rfl) (by kernel_rfl) (by kernel_rfl) rfl rfl (OpV.nilCheck_at rfl rfl) ?_
                | refine VA.take (i := 15) rfl (by kernel_rfl) (by kernel_rfl) (by kernel_rfl) rfl rfl (OpV.nilCheck rfl rfl) ?_
              first
                | refine VA.take (i := 16) rfl (by kernel_rfl) (by kernel_rfl) (by kernel_rfl) rfl rfl (OpV.fieldAddr_atO 2 rfl Tryd.underlying54 rfl rfl Tryd.sizeOf3 rfl rfl) ?_
                | refine VA.take (i := 16) rfl (by kernel_rfl) (by kernel_rfl) (by kernel_rfl) rfl rfl (OpV.fieldAddrO 2 rfl Tryd.underlying54 rfl rfl Tryd.sizeOf3 rfl) ?_
              refine VA.all (rs := [17]) (by kernel_rfl) (by decide) ?_
              refine ⟨⟨_, rfl, .inl rfl, ?_⟩, trivial⟩
              refine OpE.store1 (i := 0) rfl hB rfl Tryd.sizeOf3 rfl rfl rfl rfl rfl rfl (rowL_in rfl (by rw [List.length_set]; omega) (by decide)) (rowL_set (x := ({l.getD m default with each := r96, fixed := r103} : MR)) rfl (by rw [List.length_set]; omega) (by decide) rfl (by rw [getD_set_self (by omega)]; exact ne5_2 rfl rfl rfl rfl)) (by first | exact ⟨rfl, rfl⟩ | exact .inl ⟨rfl, rfl⟩ | exact .inr ⟨rfl, rfl⟩) ?_
              refine VA.done (by kernel_rfl) ?_
              show VC _ _ _ _ _
              refine VC.seq ?_
              refine VC.region ?_
              refine VO.val rfl rfl (OpV.move (.inl rfl) rfl) ?_
              refine VO.val rfl rfl (OpV.move (.inr rfl) rfl) ?_
              refine VO.nil ?_
              show VC _ _ _ _ _
              first
                | refine VC.le _ (Le.fam (t := 2) (l := l) hB hnew rfl rfl (.inl ⟨_, rfl⟩) (fun q hq => famAt hq)) ?_
                | refine VC.le _ (Le.fam (t := 2) (l := l) hB hnew rfl rfl (.inr ⟨_, _, _, _, rfl, hcap, hmx, rfl⟩) (fun q hq => famAt hq)) ?_
                | refine VC.le _ (Le.fam (t := 2) (l := (l.set m {l.getD m default with key := r78}).set m {l.getD m default with key := r78, feeders := r85}) hB hnew rfl (by simp) (.inr ⟨_, _, _, _, rfl, hcap, hmx, rfl⟩) (fun q hq => famAt' ((famSet (by rw [List.length_set]; omega) (by rw [getD_set_self (by omega)]; rfl)).trans (famSet (by omega) rfl)) hq)) ?_
                | refine VC.le _ (Le.fam (t := 2) (l := (l.set m {l.getD m default with each := r96}).set m {l.getD m default with each := r96, fixed := r103}) hB hnew rfl (by simp) (.inr ⟨_, _, _, _, rfl, hcap, hmx, rfl⟩) (fun q hq => famAt' ((famSet (by rw [List.length_set]; omega) (by rw [getD_set_self (by omega)]; rfl)).trans (famSet (by omega) rfl)) hq)) ?_
                | refine VC.le _ (Le.fam (t := 2) (l := l.set m {l.getD m default with b := b3, c := c3, can := (l.getD m default).can ++ [r67]}) hB hnew rfl (by simp) (.inr ⟨_, _, _, _, rfl, hcap, hmx, rfl⟩) (fun q hq => famAt' (by rw [List.map_set]; unfold rowM; rw [List.length_append]; rfl) hq)) ?_
              refine VC.ret ?_
              exact Exists.intro _ (And.intro (RetV.one Tryd.results4 (ResV.tmp rfl)) (And.intro (by first | exact ⟨_, ⟨MRok.small (by omega) (fun x hx => (hok x hx).six), by rw [List.length_map]; omega, by rw [List.length_map]; omega⟩, rfl⟩ | exact ⟨_, ⟨MRok.small (by simp; omega) (by rw [List.set_set]; exact MRok.set hok ⟨hr78, (MRok.getD hok (m := m) (by omega)).six.2⟩), by simp; omega, by simp; omega⟩, rfl⟩ | exact ⟨_, ⟨MRok.small (by simp; omega) (by rw [List.set_set]; exact MRok.set hok ⟨(MRok.getD hok (m := m) (by omega)).1, (MRok.getD hok (m := m) (by omega)).six.2⟩), by simp; omega, by simp; omega⟩, rfl⟩ | exact ⟨(l.set m {l.getD m default with b := b3, c := c3, can := (l.getD m default).can ++ [r67]}).map toM, ⟨MRok.small (by simp; omega) (MRok.set hok (m := m) (x := {l.getD m default with b := b3, c := c3, can := (l.getD m default).can ++ [r67]}) ⟨(MRok.getD hok (m := m) (by omega)).1, by show ((l.getD m default).can ++ [r67]).length ≤ 6; have := (MRok.getD hok (m := m) (by omega)).2.1; rw [List.length_append, List.length_singleton]; omega, fun y hy => by rcases List.mem_append.1 (show y ∈ (l.getD m default).can ++ [r67] from hy) with hy | hy; exact (MRok.getD hok (m := m) (by omega)).2.2 y hy; (rw [List.mem_singleton] at hy; subst hy; exact hr67)⟩), by simp; omega, by simp; omega⟩, rfl⟩) ((show k + 1 + 8 * q + 1 + 1 + 1 + 1 + 1 ≤ k + 60 by omega))))
            ·
              refine OpE.buildSlice (zc := #[.int .i64 0, .int .i64 0, .int .i64 0]) rfl hB rfl Tryd.underlying22 Tryd.sizeOf3 Tryd.zeroValue3 (by decide) (by decide) (by kernel_rfl) rfl rfl ?_
              refine VA.all (rs := [4]) (by kernel_rfl) (by decide) ?_
              refine ⟨⟨_, rfl, .inl rfl, ?_⟩, trivial⟩
              refine OpE.callT' (k + 1 + 8 * q + 1 + 1 + 1) rfl rfl hB rfl Tryd.call22 rfl (pick_X (by rfl) (by decide) (by decide) (by repeat (first | exact AllX.nil | refine AllX.cons ?_))) (by omega) ?_
              rintro _ ⟨r96, rfl⟩
              refine VA.all (rs := [11]) (by kernel_rfl) (by decide) ?_
              refine ⟨⟨_, rfl, .inl rfl, ?_⟩, trivial⟩
              refine OpE.callT' (k + 1 + 8 * q + 1 + 1 + 1 + 1) rfl rfl hB rfl Tryd.call22 rfl (pick_X (by rfl) (by decide) (by decide) (by repeat (first | exact AllX.nil | refine AllX.cons ?_))) (by omega) ?_
              rintro _ ⟨r103, rfl⟩
              first
                | refine VA.take (i := 12) rfl (by kernel_rfl) (by kernel_rfl) (by kernel_rfl) rfl rfl (OpV.nilCheck_at rfl rfl) ?_
                | refine VA.take (i := 12) rfl (by kernel_rfl) (by kernel_rfl) (by kernel_rfl) rfl rfl (OpV.nilCheck rfl rfl) ?_
              first
                | refine VA.take (i := 13) rfl (by kernel_rfl) (by kernel_rfl) (by kernel_rfl) rfl rfl (OpV.fieldAddr_atO 1 rfl Tryd.underlying54 rfl rfl Tryd.sizeOf3 rfl rfl) ?_
                | refine VA.take (i := 13) rfl (by kernel_rfl) (by kernel_rfl) (by kernel_rfl) rfl rfl (OpV.fieldAddrO 1 rfl Tryd.underlying54 rfl rfl Tryd.sizeOf3 rfl) ?_
              refine VA.all (rs := [14]) (by kernel_rfl) (by decide) ?_
              refine ⟨⟨_, rfl, .inl rfl, ?_⟩, trivial⟩
              refine OpE.store1 (i := 0) rfl hB rfl Tryd.sizeOf3 rfl rfl rfl rfl rfl rfl (rowL_in rfl (by omega) (by decide)) (rowL_set (x := ({l.getD m default with each := r96} : MR)) rfl (by omega) (by decide) rfl (ne5_1 rfl rfl rfl rfl)) (by first | exact ⟨rfl, rfl⟩ | exact .inl ⟨rfl, rfl⟩ | exact .inr ⟨rfl, rfl⟩) ?_
              first
                | refine VA.take (i := 15) rfl (by kernel_rfl) (by kernel_rfl) (by kernel_rfl) rfl rfl (OpV.nilCheck_at rfl rfl) ?_
                | refine VA.take (i := 15) rfl (by kernel_rfl) (by kernel_rfl) (by kernel_rfl) rfl rfl (OpV.nilCheck rfl rfl) ?_
              first
                | refine VA.take (i := 16) rfl (by kernel_rfl) (by kernel_rfl) (by kernel_rfl) rfl rfl (OpV.fieldAddr_atO 2 rfl Tryd.underlying54 rfl rfl Tryd.sizeOf3 rfl rfl) ?_
                | refine VA.take (i := 16) rfl (by kernel_rfl) (by kernel_rfl) (by kernel_rfl) rfl rfl (OpV.fieldAddrO 2 rfl Tryd.underlying54 rfl rfl Tryd.sizeOf3 rfl) ?_
              refine VA.all (rs := [17]) (by kernel_rfl) (by decide) ?_
              refine ⟨⟨_, rfl, .inl rfl, ?_⟩, trivial⟩
              refine OpE.store1 (i := 0) rfl hB rfl Tryd.sizeOf3 rfl rfl rfl rfl rfl rfl (rowL_in rfl (by rw [List.length_set]; omega) (by decide)) (rowL_set (x := ({l.getD m default with each := r96, fixed := r103} : MR)) rfl (by rw [List.length_set]; omega) (by decide) rfl (by rw [getD_set_self (by omega)]; exact ne5_2 rfl rfl rfl rfl)) (by first | exact ⟨rfl, rfl⟩ | exact .inl ⟨rfl, rfl⟩ | exact .inr ⟨rfl, rfl⟩) ?_
              refine VA.done (by kernel_rfl) ?_
              show VC _ _ _ _ _
              refine VC.seq ?_
              refine VC.region ?_
              refine VO.val rfl rfl (OpV.move (.inl rfl) rfl) ?_
              refine VO.val rfl rfl (OpV.move (.inr rfl) rfl) ?_
              refine VO.nil ?_
              show VC _ _ _ _ _
              first
                | refine VC.le _ (Le.fam (t := 2) (l := l) hB hnew rfl rfl (.inl ⟨_, rfl⟩) (fun q hq => famAt hq)) ?_
                | refine VC.le _ (Le.fam (t := 2) (l := l) hB hnew rfl rfl (.inr ⟨_, _, _, _, rfl, hcap, hmx, rfl⟩) (fun q hq => famAt hq)) ?_
                | refine VC.le _ (Le.fam (t := 2) (l := (l.set m {l.getD m default with key := r78}).set m {l.getD m default with key := r78, feeders := r85}) hB hnew rfl (by simp) (.inr ⟨_, _, _, _, rfl, hcap, hmx, rfl⟩) (fun q hq => famAt' ((famSet (by rw [List.length_set]; omega) (by rw [getD_set_self (by omega)]; rfl)).trans (famSet (by omega) rfl)) hq)) ?_
                | refine VC.le _ (Le.fam (t := 2) (l := (l.set m {l.getD m default with each := r96}).set m {l.getD m default with each := r96, fixed := r103}) hB hnew rfl (by simp) (.inr ⟨_, _, _, _, rfl, hcap, hmx, rfl⟩) (fun q hq => famAt' ((famSet (by rw [List.length_set]; omega) (by rw [getD_set_self (by omega)]; rfl)).trans (famSet (by omega) rfl)) hq)) ?_
                | refine VC.le _ (Le.fam (t := 2) (l := l.set m {l.getD m default with b := b3, c := c3, can := (l.getD m default).can ++ [r67]}) hB hnew rfl (by simp) (.inr ⟨_, _, _, _, rfl, hcap, hmx, rfl⟩) (fun q hq => famAt' (by rw [List.map_set]; unfold rowM; rw [List.length_append]; rfl) hq)) ?_
              refine VC.ret ?_
              exact Exists.intro _ (And.intro (RetV.one Tryd.results4 (ResV.tmp rfl)) (And.intro (by first | exact ⟨_, ⟨MRok.small (by omega) (fun x hx => (hok x hx).six), by rw [List.length_map]; omega, by rw [List.length_map]; omega⟩, rfl⟩ | exact ⟨_, ⟨MRok.small (by simp; omega) (by rw [List.set_set]; exact MRok.set hok ⟨hr78, (MRok.getD hok (m := m) (by omega)).six.2⟩), by simp; omega, by simp; omega⟩, rfl⟩ | exact ⟨_, ⟨MRok.small (by simp; omega) (by rw [List.set_set]; exact MRok.set hok ⟨(MRok.getD hok (m := m) (by omega)).1, (MRok.getD hok (m := m) (by omega)).six.2⟩), by simp; omega, by simp; omega⟩, rfl⟩ | exact ⟨(l.set m {l.getD m default with b := b3, c := c3, can := (l.getD m default).can ++ [r67]}).map toM, ⟨MRok.small (by simp; omega) (MRok.set hok (m := m) (x := {l.getD m default with b := b3, c := c3, can := (l.getD m default).can ++ [r67]}) ⟨(MRok.getD hok (m := m) (by omega)).1, by show ((l.getD m default).can ++ [r67]).length ≤ 6; have := (MRok.getD hok (m := m) (by omega)).2.1; rw [List.length_append, List.length_singleton]; omega, fun y hy => by rcases List.mem_append.1 (show y ∈ (l.getD m default).can ++ [r67] from hy) with hy | hy; exact (MRok.getD hok (m := m) (by omega)).2.2 y hy; (rw [List.mem_singleton] at hy; subst hy; exact hr67)⟩), by simp; omega, by simp; omega⟩, rfl⟩) ((show k + 1 + 8 * q + 1 + 1 + 1 + 1 + 1 ≤ k + 60 by omega))))
          ·
            refine OpE.buildSlice (zc := #[.int .i64 0, .int .i64 0, .int .i64 0]) rfl hB rfl Tryd.underlying22 Tryd.sizeOf3 Tryd.zeroValue3 (by decide) (by decide) (by kernel_rfl) rfl rfl ?_
            refine VA.all (rs := [3]) (by kernel_rfl) (by decide) ?_
            refine ⟨⟨_, rfl, .inl rfl, ?_⟩, trivial⟩
            refine OpE.buildSlice (zc := #[.int .i64 0, .int .i64 0, .int .i64 0]) rfl hB rfl Tryd.underlying22 Tryd.sizeOf3 Tryd.zeroValue3 (by decide) (by decide) (by kernel_rfl) rfl rfl ?_
            refine VA.all (rs := [4]) (by kernel_rfl) (by decide) ?_
            refine ⟨⟨_, rfl, .inl rfl, ?_⟩, trivial⟩
            refine OpE.callT' (k + 1 + 8 * q + 1 + 1 + 1) rfl rfl hB rfl Tryd.call22 rfl (pick_X (by rfl) (by decide) (by decide) (by repeat (first | exact AllX.nil | refine AllX.cons ?_))) (by omega) ?_
            rintro _ ⟨r96, rfl⟩
            refine VA.all (rs := [11]) (by kernel_rfl) (by decide) ?_
            refine ⟨⟨_, rfl, .inl rfl, ?_⟩, trivial⟩
            refine OpE.callT' (k + 1 + 8 * q + 1 + 1 + 1 + 1) rfl rfl hB rfl Tryd.call22 rfl (pick_X (by rfl) (by decide) (by decide) (by repeat (first | exact AllX.nil | refine AllX.cons ?_))) (by omega) ?_
            rintro _ ⟨r103, rfl⟩
            first
              | refine VA.take (i := 12) rfl (by kernel_rfl) (by kernel_rfl) (by kernel_rfl) rfl rfl (OpV.nilCheck_at rfl rfl) ?_
              | refine VA.take (i := 12) rfl (by kernel_rfl) (by kernel_rfl) (by kernel_rfl) rfl rfl (OpV.nilCheck rfl rfl) ?_
            first
              | refine VA.take (i := 13) rfl (by kernel_rfl) (by kernel_rfl) (by kernel_rfl) rfl rfl (OpV.fieldAddr_atO 1 rfl Tryd.underlying54 rfl rfl Tryd.sizeOf3 rfl rfl) ?_
              | refine VA.take (i := 13) rfl (by kernel_rfl) (by kernel_rfl) (by kernel_rfl) rfl rfl (OpV.fieldAddrO 1 rfl Tryd.underlying54 rfl rfl Tryd.sizeOf3 rfl) ?_
            refine VA.all (rs := [14]) (by kernel_rfl) (by decide) ?_
            refine ⟨⟨_, rfl, .inl rfl, ?_⟩, trivial⟩
            refine OpE.store1 (i := 0) rfl hB rfl Tryd.sizeOf3 rfl rfl rfl rfl rfl rfl (rowL_in rfl (by omega) (by decide)) (rowL_set (x := ({l.getD m default with each := r96} : MR)) rfl (by omega) (by decide) rfl (ne5_1 rfl rfl rfl rfl)) (by first | exact ⟨rfl, rfl⟩ | exact .inl ⟨rfl, rfl⟩ | exact .inr ⟨rfl, rfl⟩) ?_
            first
              | refine VA.take (i := 15) rfl (by kernel_rfl) (by kernel_rfl) (by kernel_rfl) rfl rfl (OpV.nilCheck_at rfl rfl) ?_
              | refine VA.take (i := 15) rfl (by kernel_rfl) (by kernel_rfl) (by kernel_rfl) rfl rfl (OpV.nilCheck rfl rfl) ?_
            first
              | refine VA.take (i := 16) rfl (by kernel_rfl) (by kernel_rfl) (by kernel_rfl) rfl rfl (OpV.fieldAddr_atO 2 rfl Tryd.underlying54 rfl rfl Tryd.sizeOf3 rfl rfl) ?_
              | refine VA.take (i := 16) rfl (by kernel_rfl) (by kernel_rfl) (by kernel_rfl) rfl rfl (OpV.fieldAddrO 2 rfl Tryd.underlying54 rfl rfl Tryd.sizeOf3 rfl) ?_
            refine VA.all (rs := [17]) (by kernel_rfl) (by decide) ?_
            refine ⟨⟨_, rfl, .inl rfl, ?_⟩, trivial⟩
            refine OpE.store1 (i := 0) rfl hB rfl Tryd.sizeOf3 rfl rfl rfl rfl rfl rfl (rowL_in rfl (by rw [List.length_set]; omega) (by decide)) (rowL_set (x := ({l.getD m default with each := r96, fixed := r103} : MR)) rfl (by rw [List.length_set]; omega) (by decide) rfl (by rw [getD_set_self (by omega)]; exact ne5_2 rfl rfl rfl rfl)) (by first | exact ⟨rfl, rfl⟩ | exact .inl ⟨rfl, rfl⟩ | exact .inr ⟨rfl, rfl⟩) ?_
            refine VA.done (by kernel_rfl) ?_
            show VC _ _ _ _ _
            refine VC.seq ?_
            refine VC.region ?_
            refine VO.val rfl rfl (OpV.move (.inl rfl) rfl) ?_
            refine VO.val rfl rfl (OpV.move (.inr rfl) rfl) ?_
            refine VO.nil ?_
            show VC _ _ _ _ _
            first
              | refine VC.le _ (Le.fam (t := 2) (l := l) hB hnew rfl rfl (.inl ⟨_, rfl⟩) (fun q hq => famAt hq)) ?_
              | refine VC.le _ (Le.fam (t := 2) (l := l) hB hnew rfl rfl (.inr ⟨_, _, _, _, rfl, hcap, hmx, rfl⟩) (fun q hq => famAt hq)) ?_
              | refine VC.le _ (Le.fam (t := 2) (l := (l.set m {l.getD m default with key := r78}).set m {l.getD m default with key := r78, feeders := r85}) hB hnew rfl (by simp) (.inr ⟨_, _, _, _, rfl, hcap, hmx, rfl⟩) (fun q hq => famAt' ((famSet (by rw [List.length_set]; omega) (by rw [getD_set_self (by omega)]; rfl)).trans (famSet (by omega) rfl)) hq)) ?_
              | refine VC.le _ (Le.fam (t := 2) (l := (l.set m {l.getD m default with each := r96}).set m {l.getD m default with each := r96, fixed := r103}) hB hnew rfl (by simp) (.inr ⟨_, _, _, _, rfl, hcap, hmx, rfl⟩) (fun q hq => famAt' ((famSet (by rw [List.length_set]; omega) (by rw [getD_set_self (by omega)]; rfl)).trans (famSet (by omega) rfl)) hq)) ?_
              | refine VC.le _ (Le.fam (t := 2) (l := l.set m {l.getD m default with b := b3, c := c3, can := (l.getD m default).can ++ [r67]}) hB hnew rfl (by simp) (.inr ⟨_, _, _, _, rfl, hcap, hmx, rfl⟩) (fun q hq => famAt' (by rw [List.map_set]; unfold rowM; rw [List.length_append]; rfl) hq)) ?_
            refine VC.ret ?_
            exact Exists.intro _ (And.intro (RetV.one Tryd.results4 (ResV.tmp rfl)) (And.intro (by first | exact ⟨_, ⟨MRok.small (by omega) (fun x hx => (hok x hx).six), by rw [List.length_map]; omega, by rw [List.length_map]; omega⟩, rfl⟩ | exact ⟨_, ⟨MRok.small (by simp; omega) (by rw [List.set_set]; exact MRok.set hok ⟨hr78, (MRok.getD hok (m := m) (by omega)).six.2⟩), by simp; omega, by simp; omega⟩, rfl⟩ | exact ⟨_, ⟨MRok.small (by simp; omega) (by rw [List.set_set]; exact MRok.set hok ⟨(MRok.getD hok (m := m) (by omega)).1, (MRok.getD hok (m := m) (by omega)).six.2⟩), by simp; omega, by simp; omega⟩, rfl⟩ | exact ⟨(l.set m {l.getD m default with b := b3, c := c3, can := (l.getD m default).can ++ [r67]}).map toM, ⟨MRok.small (by simp; omega) (MRok.set hok (m := m) (x := {l.getD m default with b := b3, c := c3, can := (l.getD m default).can ++ [r67]}) ⟨(MRok.getD hok (m := m) (by omega)).1, by show ((l.getD m default).can ++ [r67]).length ≤ 6; have := (MRok.getD hok (m := m) (by omega)).2.1; rw [List.length_append, List.length_singleton]; omega, fun y hy => by rcases List.mem_append.1 (show y ∈ (l.getD m default).can ++ [r67] from hy) with hy | hy; exact (MRok.getD hok (m := m) (by omega)).2.2 y hy; (rw [List.mem_singleton] at hy; subst hy; exact hr67)⟩), by simp; omega, by simp; omega⟩, rfl⟩) ((show k + 1 + 8 * q + 1 + 1 + 1 + 1 + 1 ≤ k + 60 by omega))))
        · have aH6 := aH6b
          try simp only [decide_eq_true_eq, decide_eq_false_iff_not, Bool.not_eq_true', Bool.not_eq_false', Int.not_lt, Int.not_le] at aH6
          refine VC.draw (fun j b => (j = 9 ∧ (l.getD m default).val.ownBlock = some b) ∨ (j = 12 ∧ b = g)) hB (by kernel_rfl) ?_
          refine VA.take (i := 0) rfl (by kernel_rfl) (by kernel_rfl) (by kernel_rfl) rfl rfl (OpV.move (.inl rfl) rfl) ?_
          refine VA.take (i := 1) rfl (by kernel_rfl) (by kernel_rfl) (by kernel_rfl) rfl rfl (OpV.move (.inl rfl) rfl) ?_
          first
            | refine VA.take (i := 2) rfl (by kernel_rfl) (by kernel_rfl) (by kernel_rfl) rfl rfl (OpV.nilCheck_at rfl rfl) ?_
            | refine VA.take (i := 2) rfl (by kernel_rfl) (by kernel_rfl) (by kernel_rfl) rfl rfl (OpV.nilCheck rfl rfl) ?_
          first
            | refine VA.take (i := 3) rfl (by kernel_rfl) (by kernel_rfl) (by kernel_rfl) rfl rfl (OpV.fieldAddr_atO 4 rfl Tryd.underlying54 rfl rfl Tryd.sizeOf52 rfl rfl) ?_
            | refine VA.take (i := 3) rfl (by kernel_rfl) (by kernel_rfl) (by kernel_rfl) rfl rfl (OpV.fieldAddrO 4 rfl Tryd.underlying54 rfl rfl Tryd.sizeOf52 rfl) ?_
          first
            | refine VA.take (i := 4) rfl (by kernel_rfl) (by kernel_rfl) (by kernel_rfl) rfl rfl (OpV.load_at rfl hB (OutW.wi (by rintro j b (⟨-, rfl⟩ | ⟨-, rfl⟩) <;> first | exact ⟨_, List.mem_of_getElem? (i := 0) rfl, rfl⟩)) Tryd.isAgg52 rfl rfl) ?_
            | refine VA.take (i := 4) rfl (by kernel_rfl) (by kernel_rfl) (by kernel_rfl) rfl rfl (OpV.load_own (i := 0) rfl hB Tryd.isAgg52 rfl rfl (rowL_at rfl (by omega) (by decide)) (by first | exact Wi.not1 (by kernel_rfl) | exact Wi.not2 (by kernel_rfl) (by kernel_rfl))) ?_
          refine VA.take (i := 5) rfl (by kernel_rfl) (by kernel_rfl) (by kernel_rfl) rfl rfl (OpV.move (.inl rfl) rfl) ?_
          refine VA.all (rs := [6]) (by kernel_rfl) (by decide) ?_
          refine ⟨⟨_, rfl, .inl rfl, ?_⟩, trivial⟩
          refine OpE.buildSlice (zc := #[.string ⟨#[]⟩, .string ⟨#[]⟩, .string ⟨#[]⟩]) rfl hB rfl Tryd.underlying52 Tryd.sizeOf9 Tryd.zeroValue9 (by decide) (by decide) (by kernel_rfl) rfl rfl ?_
          refine VA.all (rs := [7]) (by kernel_rfl) (by decide) ?_
          refine ⟨⟨_, rfl, .inl rfl, ?_⟩, trivial⟩
          refine OpE.callT' (k + 1 + 8 * q + 1 + 1 + 1) rfl rfl hB rfl Tryd.call25 rfl (some_T 1000 (by rfl) (by decide) (by decide) (by repeat (first | exact AllS.nil | refine AllS.cons (by decide) ?_))) (by omega) ?_
          rintro _ ⟨r67, hr67, rfl⟩
          refine VA.all (rs := [8]) (by kernel_rfl) (by decide) ?_
          refine ⟨⟨_, rfl, .inl rfl, ?_⟩, trivial⟩
          refine OpE.buildSlice (zc := #[.string ⟨#[]⟩]) rfl hB rfl Tryd.underlying52 Tryd.sizeOf9 Tryd.zeroValue9 (by decide) (by decide) (by kernel_rfl) rfl rfl ?_
          refine VA.all (rs := [9]) (by kernel_rfl) (by decide) ?_
          refine ⟨⟨_, rfl, .inl rfl, ?_⟩, trivial⟩
          refine OpE.append1S (i := m + 1) rfl hB rfl Tryd.underlying52 (infoOf Tryd.t9 1 (by kernel_rfl) rfl rfl) rfl (by decide) (by decide) rfl (famAt (by omega)) rfl rfl (strsL_snoc _ _) (by have := (MRok.getD hok (m := m) (by omega)).2.1; omega) (fun _ h => .inl ⟨rfl, h⟩) ?_
          intro b3 c3
          first
            | refine VA.take (i := 10) rfl (by kernel_rfl) (by kernel_rfl) (by kernel_rfl) rfl rfl (OpV.nilCheck_at rfl rfl) ?_
            | refine VA.take (i := 10) rfl (by kernel_rfl) (by kernel_rfl) (by kernel_rfl) rfl rfl (OpV.nilCheck rfl rfl) ?_
          first
            | refine VA.take (i := 11) rfl (by kernel_rfl) (by kernel_rfl) (by kernel_rfl) rfl rfl (OpV.fieldAddr_atO 4 rfl Tryd.underlying54 rfl rfl Tryd.sizeOf52 rfl rfl) ?_
            | refine VA.take (i := 11) rfl (by kernel_rfl) (by kernel_rfl) (by kernel_rfl) rfl rfl (OpV.fieldAddrO 4 rfl Tryd.underlying54 rfl rfl Tryd.sizeOf52 rfl) ?_
          refine VA.all (rs := [12]) (by kernel_rfl) (by decide) ?_
          refine ⟨⟨_, rfl, .inl rfl, ?_⟩, trivial⟩
          refine OpE.store1 (i := 0) rfl hB rfl Tryd.sizeOf52 rfl rfl rfl rfl rfl rfl (rowL_in rfl (by omega) (by decide)) (rowL_set (x := ({l.getD m default with b := b3, c := c3, can := (l.getD m default).can ++ [r67]} : MR)) rfl (by omega) (by decide) (by show AV.v _ = AV.v _; rw [List.length_append]; rfl) (ne5_4 rfl rfl rfl rfl)) (by first | exact ⟨rfl, rfl⟩ | exact .inl ⟨rfl, rfl⟩ | exact .inr ⟨rfl, rfl⟩) ?_
          refine VA.done (by kernel_rfl) ?_
          show VC _ _ _ _ _
          refine VC.seq ?_
          refine VC.region ?_
          refine VO.val rfl rfl (OpV.move (.inl rfl) rfl) ?_
          refine VO.val rfl rfl (OpV.move (.inr rfl) rfl) ?_
          refine VO.nil ?_
          show VC _ _ _ _ _
          first
            | refine VC.le _ (Le.fam (t := 2) (l := l) hB hnew rfl rfl (.inl ⟨_, rfl⟩) (fun q hq => famAt hq)) ?_
            | refine VC.le _ (Le.fam (t := 2) (l := l) hB hnew rfl rfl (.inr ⟨_, _, _, _, rfl, hcap, hmx, rfl⟩) (fun q hq => famAt hq)) ?_
            | refine VC.le _ (Le.fam (t := 2) (l := (l.set m {l.getD m default with key := r78}).set m {l.getD m default with key := r78, feeders := r85}) hB hnew rfl (by simp) (.inr ⟨_, _, _, _, rfl, hcap, hmx, rfl⟩) (fun q hq => famAt' ((famSet (by rw [List.length_set]; omega) (by rw [getD_set_self (by omega)]; rfl)).trans (famSet (by omega) rfl)) hq)) ?_
            | refine VC.le _ (Le.fam (t := 2) (l := (l.set m {l.getD m default with each := r96}).set m {l.getD m default with each := r96, fixed := r103}) hB hnew rfl (by simp) (.inr ⟨_, _, _, _, rfl, hcap, hmx, rfl⟩) (fun q hq => famAt' ((famSet (by rw [List.length_set]; omega) (by rw [getD_set_self (by omega)]; rfl)).trans (famSet (by omega) rfl)) hq)) ?_
            | refine VC.le _ (Le.fam (t := 2) (l := l.set m {l.getD m default with b := b3, c := c3, can := (l.getD m default).can ++ [r67]}) hB hnew rfl (by simp) (.inr ⟨_, _, _, _, rfl, hcap, hmx, rfl⟩) (fun q hq => famAt' (by rw [List.map_set]; unfold rowM; rw [List.length_append]; rfl) hq)) ?_
          refine VC.ret ?_
          exact Exists.intro _ (And.intro (RetV.one Tryd.results4 (ResV.tmp rfl)) (And.intro (by first | exact ⟨_, ⟨MRok.small (by omega) (fun x hx => (hok x hx).six), by rw [List.length_map]; omega, by rw [List.length_map]; omega⟩, rfl⟩ | exact ⟨_, ⟨MRok.small (by simp; omega) (by rw [List.set_set]; exact MRok.set hok ⟨hr78, (MRok.getD hok (m := m) (by omega)).six.2⟩), by simp; omega, by simp; omega⟩, rfl⟩ | exact ⟨_, ⟨MRok.small (by simp; omega) (by rw [List.set_set]; exact MRok.set hok ⟨(MRok.getD hok (m := m) (by omega)).1, (MRok.getD hok (m := m) (by omega)).six.2⟩), by simp; omega, by simp; omega⟩, rfl⟩ | exact ⟨(l.set m {l.getD m default with b := b3, c := c3, can := (l.getD m default).can ++ [r67]}).map toM, ⟨MRok.small (by simp; omega) (MRok.set hok (m := m) (x := {l.getD m default with b := b3, c := c3, can := (l.getD m default).can ++ [r67]}) ⟨(MRok.getD hok (m := m) (by omega)).1, by show ((l.getD m default).can ++ [r67]).length ≤ 6; have := (MRok.getD hok (m := m) (by omega)).2.1; rw [List.length_append, List.length_singleton]; omega, fun y hy => by rcases List.mem_append.1 (show y ∈ (l.getD m default).can ++ [r67] from hy) with hy | hy; exact (MRok.getD hok (m := m) (by omega)).2.2 y hy; (rw [List.mem_singleton] at hy; subst hy; exact hr67)⟩), by simp; omega, by simp; omega⟩, rfl⟩) ((show k + 1 + 8 * q + 1 + 1 + 1 + 1 ≤ k + 60 by omega))))
    · have aH4 := aH4b
      try simp only [decide_eq_true_eq, decide_eq_false_iff_not, Bool.not_eq_true', Bool.not_eq_false', Int.not_lt, Int.not_le] at aH4
      refine VC.skip ?_
      show VC _ _ _ _ _
      refine VC.seq ?_
      refine VC.region ?_
      refine VO.val rfl rfl (OpV.move (.inl rfl) rfl) ?_
      refine VO.val rfl rfl (OpV.move (.inr rfl) rfl) ?_
      refine VO.nil ?_
      show VC _ _ _ _ _
      first
        | refine VC.le _ (Le.fam (t := 2) (l := l) hB hnew rfl rfl (.inl ⟨_, rfl⟩) (fun q hq => famAt hq)) ?_
        | refine VC.le _ (Le.fam (t := 2) (l := l) hB hnew rfl rfl (.inr ⟨_, _, _, _, rfl, hcap, hmx, rfl⟩) (fun q hq => famAt hq)) ?_
        | refine VC.le _ (Le.fam (t := 2) (l := (l.set m {l.getD m default with key := r78}).set m {l.getD m default with key := r78, feeders := r85}) hB hnew rfl (by simp) (.inr ⟨_, _, _, _, rfl, hcap, hmx, rfl⟩) (fun q hq => famAt' ((famSet (by rw [List.length_set]; omega) (by rw [getD_set_self (by omega)]; rfl)).trans (famSet (by omega) rfl)) hq)) ?_
        | refine VC.le _ (Le.fam (t := 2) (l := (l.set m {l.getD m default with each := r96}).set m {l.getD m default with each := r96, fixed := r103}) hB hnew rfl (by simp) (.inr ⟨_, _, _, _, rfl, hcap, hmx, rfl⟩) (fun q hq => famAt' ((famSet (by rw [List.length_set]; omega) (by rw [getD_set_self (by omega)]; rfl)).trans (famSet (by omega) rfl)) hq)) ?_
        | refine VC.le _ (Le.fam (t := 2) (l := l.set m {l.getD m default with b := b3, c := c3, can := (l.getD m default).can ++ [r67]}) hB hnew rfl (by simp) (.inr ⟨_, _, _, _, rfl, hcap, hmx, rfl⟩) (fun q hq => famAt' (by rw [List.map_set]; unfold rowM; rw [List.length_append]; rfl) hq)) ?_
      refine VC.ret ?_
      exact Exists.intro _ (And.intro (RetV.one Tryd.results4 (ResV.tmp rfl)) (And.intro (by first | exact ⟨_, ⟨MRok.small (by omega) (fun x hx => (hok x hx).six), by rw [List.length_map]; omega, by rw [List.length_map]; omega⟩, rfl⟩ | exact ⟨_, ⟨MRok.small (by simp; omega) (by rw [List.set_set]; exact MRok.set hok ⟨hr78, (MRok.getD hok (m := m) (by omega)).six.2⟩), by simp; omega, by simp; omega⟩, rfl⟩ | exact ⟨_, ⟨MRok.small (by simp; omega) (by rw [List.set_set]; exact MRok.set hok ⟨(MRok.getD hok (m := m) (by omega)).1, (MRok.getD hok (m := m) (by omega)).six.2⟩), by simp; omega, by simp; omega⟩, rfl⟩ | exact ⟨(l.set m {l.getD m default with b := b3, c := c3, can := (l.getD m default).can ++ [r67]}).map toM, ⟨MRok.small (by simp; omega) (MRok.set hok (m := m) (x := {l.getD m default with b := b3, c := c3, can := (l.getD m default).can ++ [r67]}) ⟨(MRok.getD hok (m := m) (by omega)).1, by show ((l.getD m default).can ++ [r67]).length ≤ 6; have := (MRok.getD hok (m := m) (by omega)).2.1; rw [List.length_append, List.length_singleton]; omega, fun y hy => by rcases List.mem_append.1 (show y ∈ (l.getD m default).can ++ [r67] from hy) with hy | hy; exact (MRok.getD hok (m := m) (by omega)).2.2 y hy; (rw [List.mem_singleton] at hy; subst hy; exact hr67)⟩), by simp; omega, by simp; omega⟩, rfl⟩) ((show k + 1 + 8 * q + 1 ≤ k + 60 by omega))))
end Go.Proofs.YtdemlenodablfaaDoor
