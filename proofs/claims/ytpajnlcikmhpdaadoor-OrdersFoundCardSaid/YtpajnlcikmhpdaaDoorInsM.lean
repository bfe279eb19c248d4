/- Walks: slices.Clone, Grow, Concat and Insert for lists of lists of strings. -/
import Derived.Test.YtpajnlcikmhpdaaDoorSxGrow
import Derived.Test.YtpajnlcikmhpdaaDoorCloneS
namespace Go.Proofs.YtpajnlcikmhpdaaDoor
open Go.RowKit
set_option linter.unusedVariables false
set_option linter.unusedSimpArgs false

theorem Le.erase {B : Bs} {s : St'} (i : Nat) : Le B s ⟨s.sl, s.hp.eraseIdx i, s.k⟩ := fun a w hr => hr.erase i
set_option maxRecDepth 100000 in
theorem slices_CloneM {xs : List (List ByteArray)} (hl : xs.length ≤ 1000000000) :
    SpecH Tryd.prog 65 [avM xs] [] (fun y hp' => ∃ u, y = .v u ∧ hp' = [.row u (xs.length) (1) (listM xs) (27)]) := by
  refine SpecH.of_VC Tryd.func65 rfl Tryd.ntmps65 (Nat.le_of_ble_eq_true rfl) fun w A hB => ?_
  have hnew : True := trivial
  refine VC.seq ?_
  refine VC.region ?_
  refine VO.val rfl rfl (OpV.move (.inr rfl) rfl) ?_
  refine VO.nil ?_
  show VC _ _ _ _ _
  refine VC.seq ?_
  refine VC.seq ?_
  refine VC.region ?_
  refine VO.val rfl rfl (OpV.move (.inl rfl) rfl) ?_
  refine VO.op rfl (OpE.eqNil rfl rfl Tryd.underlying30 rfl ?_)
  intro b4 hb4
  refine VO.nil ?_
  show VC _ _ _ _ _
  refine VC.cond rfl (fun h0b => ?_) (fun h0b => ?_)
  · have h0 := h0b
    try simp only [decide_eq_true_eq, decide_eq_false_iff_not, Bool.not_eq_true', Bool.not_eq_false', Int.not_lt, Int.not_le] at h0
    refine VC.seq ?_
    refine VC.region ?_
    refine VO.val rfl rfl (OpV.move (.inr rfl) rfl) ?_
    refine VO.nil ?_
    show VC _ _ _ _ _
    obtain rfl : xs = [] := List.eq_nil_of_length_eq_zero (hb4 h0)
    refine VC.le _ (Le.nilRow 1 27) ?_
    refine VC.le ⟨[(2, _)], [_], 0⟩ (Le.pick hB [0] ⟨rfl, trivial⟩ rfl rfl (Nat.le_refl _)) ?_
    refine VC.ret ?_
    exact Exists.intro _ (And.intro (RetV.one Tryd.results65 (ResV.tmp rfl)) (⟨_, rfl, rfl⟩))
  · have h0 := h0b
    try simp only [decide_eq_true_eq, decide_eq_false_iff_not, Bool.not_eq_true', Bool.not_eq_false', Int.not_lt, Int.not_le] at h0
    refine VC.skip ?_
    show VC _ _ _ _ _
    refine VC.seq ?_
    refine VC.region ?_
    refine VO.op rfl (OpE.buildSlice0 rfl hB rfl Tryd.underlying30 Tryd.sizeOf27 ?_)
    intro g5
    refine VO.val rfl rfl (OpV.move (.inl rfl) rfl) ?_
    refine VO.op rfl (OpE.appendP (i := 0) rfl hB rfl Tryd.underlying30 (infoOf Tryd.t27 1 (by kernel_rfl) rfl rfl) rfl (by decide) (by decide) rfl rfl (.im rfl) (fun _ _ => rfl) (by omega) (tab_M xs) (fun _ _ => trivial) ?_)
    intro u7
    refine VO.val rfl rfl (OpV.move (.inr rfl) rfl) ?_
    refine VO.nil ?_
    show VC _ _ _ _ _
    rw [Nat.zero_add]
    refine VC.le ⟨[(2, _)], [_], 0⟩ (Le.pick hB [0] ⟨rfl, trivial⟩ rfl rfl (Nat.le_refl _)) ?_
    refine VC.ret ?_
    exact Exists.intro _ (And.intro (RetV.one Tryd.results65 (ResV.tmp rfl)) (⟨_, rfl, rfl⟩))
set_option maxRecDepth 100000 in
theorem slices_Grow_nil {k : Nat} (hk : k ≤ 1000000000) :
    SpecH Tryd.prog 66 [.v (.slice none 0 0), avI (k : Int)] [] (fun y hp' => ∃ u, y = .v u ∧ hp' = [.row u (0) (1) ([]) (27)]) := by
  refine SpecH.of_VC Tryd.func66 rfl Tryd.ntmps66 (Nat.le_of_ble_eq_true rfl) fun w A hB => ?_
  have hnew : True := trivial
  refine VC.seq ?_
  refine VC.region ?_
  refine VO.val rfl rfl (OpV.move (.inr rfl) rfl) ?_
  refine VO.nil ?_
  show VC _ _ _ _ _
  refine VC.seq ?_
  refine VC.seq ?_
  refine VC.region ?_
  refine VO.val rfl rfl (OpV.move (.inl rfl) rfl) ?_
  refine VO.val rfl rfl (OpV.lss rfl rfl rfl) ?_
  refine VO.nil ?_
  show VC _ _ _ _ _
  refine VC.cond rfl (fun aH1b => ?_) (fun aH1b => ?_)
  · have aH1 := aH1b
    try simp only [decide_eq_true_eq, decide_eq_false_iff_not, Bool.not_eq_true', Bool.not_eq_false', Int.not_lt, Int.not_le] at aH1
    exact VC.absurd (by omega)
  · have aH1 := aH1b
    try simp only [decide_eq_true_eq, decide_eq_false_iff_not, Bool.not_eq_true', Bool.not_eq_false', Int.not_lt, Int.not_le] at aH1
    refine VC.skip ?_
    show VC _ _ _ _ _
    refine VC.seq ?_
    refine VC.seq ?_
    refine VC.region ?_
    refine VO.val rfl rfl (OpV.move (.inl rfl) rfl) ?_
    refine VO.val rfl rfl (OpV.move (.inl rfl) rfl) ?_
    refine VO.val rfl rfl (OpV.cap_v rfl Tryd.underlying30 rfl) ?_
    refine VO.val rfl rfl (OpV.move (.inl rfl) rfl) ?_
    first
      | refine VO.val rfl rfl (OpV.len_im rfl Tryd.underlying30 rfl) ?_
      | refine VO.val rfl rfl (OpV.len_v rfl Tryd.underlying30 rfl) ?_
    refine VO.val rfl rfl (OpV.sub rfl rfl rfl (by unfold fits; omega)) ?_
    refine VO.val rfl rfl (OpV.sub rfl rfl rfl (by unfold fits; omega)) ?_
    refine VO.val rfl rfl (OpV.move (.inr rfl) rfl) ?_
    refine VO.nil ?_
    show VC _ _ _ _ _
    refine VC.seq ?_
    refine VC.region ?_
    refine VO.val rfl rfl (OpV.move (.inl rfl) rfl) ?_
    refine VO.val rfl rfl (OpV.gtr rfl rfl rfl) ?_
    refine VO.nil ?_
    show VC _ _ _ _ _
    refine VC.cond rfl (fun aH2b => ?_) (fun aH2b => ?_)
    · have aH2 := aH2b
      try simp only [decide_eq_true_eq, decide_eq_false_iff_not, Bool.not_eq_true', Bool.not_eq_false', Int.not_lt, Int.not_le] at aH2
      refine VC.region ?_
      refine VO.val rfl rfl (OpV.move (.inl rfl) rfl) ?_
      refine VO.val rfl rfl (OpV.move (.inl rfl) rfl) ?_
      refine VO.val rfl rfl (OpV.cap_v rfl Tryd.underlying30 rfl) ?_
      refine VO.val rfl rfl (OpV.slice_nilv rfl Tryd.underlying30 Tryd.sizeOf27 rfl rfl ⟨_, _, rfl, rfl⟩) ?_
      refine VO.val rfl rfl (OpV.move (.inl rfl) rfl) ?_
      refine VO.op rfl (OpE.appendZ (k := k) rfl hB rfl Tryd.underlying30 Tryd.underlying3 (infoOf Tryd.t27 1 (by kernel_rfl) rfl rfl) rfl (by decide) (by decide) rfl rfl (by omega) (by omega) (by omega) (by omega) ?_)
      intro u22
      refine VO.asBox (i := 0) rfl (by omega) (fun g cap hu hcap hmx => ?_)
      subst hu
      refine VO.val rfl rfl (OpV.move (.inl rfl) rfl) ?_
      first
        | refine VO.val rfl rfl (OpV.len_im rfl Tryd.underlying30 rfl) ?_
        | refine VO.val rfl rfl (OpV.len_v rfl Tryd.underlying30 rfl) ?_
        | refine VO.val rfl rfl (OpV.len_row (i := 0) rfl Tryd.underlying30 rfl rfl) ?_
      first
        | refine VO.val rfl rfl (OpV.slice_ints (h := 0) rfl Tryd.underlying30 Tryd.sizeOf27 rfl rfl ⟨_, _, rfl, rfl⟩ (by omega) (by omega)) ?_
        | refine VO.val rfl rfl (OpV.slice_strs (h := 0) rfl Tryd.underlying30 Tryd.sizeOf27 rfl rfl ⟨_, _, rfl, rfl⟩ (by omega) (by omega)) ?_
        | refine VO.val rfl rfl (OpV.slice_M (h := 0) rfl Tryd.underlying30 Tryd.sizeOf27 rfl rfl ⟨_, _, rfl, rfl⟩ (by omega) (by omega)) ?_
        | refine VO.val rfl rfl (OpV.slice_L (h := 0) rfl Tryd.underlying30 Tryd.sizeOf27 rfl rfl ⟨_, _, rfl, rfl⟩ (by omega) (by omega)) ?_
        | refine VO.val rfl rfl (OpV.slice_im (h := 0) rfl Tryd.underlying30 Tryd.sizeOf27 rfl rfl ⟨_, _, rfl, rfl⟩ (by omega) (by omega)) ?_
        | refine VO.val rfl rfl (OpV.slice_own (h := 0) rfl Tryd.underlying30 Tryd.sizeOf27 rfl rfl ⟨_, _, rfl, rfl⟩ (by omega) (by omega) (by omega)) ?_
      refine VO.val rfl rfl (OpV.move (.inr rfl) rfl) ?_
      refine VO.nil ?_
      show VC _ _ _ _ _
      refine VC.seq ?_
      refine VC.region ?_
      refine VO.val rfl rfl (OpV.move (.inl rfl) rfl) ?_
      refine VO.val rfl rfl (OpV.move (.inr rfl) rfl) ?_
      refine VO.nil ?_
      show VC _ _ _ _ _
      first
        | refine VC.le _ ((Le.cutBox (i := 0) 0 rfl).trans (Le.boxRow (i := 0) (n := 0) (sz := 1) (cap := cap) rfl rfl (Nat.zero_le _) hmx)) ?_
        | refine VC.le _ (Le.nilRow 1 27) ?_
      refine VC.le ⟨[(4, _)], [_], 0⟩ (Le.pick hB [0] ⟨rfl, trivial⟩ rfl rfl (Nat.le_refl _)) ?_
      refine VC.ret ?_
      exact Exists.intro _ (And.intro (RetV.one Tryd.results66 (ResV.tmp rfl)) (⟨_, rfl, rfl⟩))
    · have aH2 := aH2b
      try simp only [decide_eq_true_eq, decide_eq_false_iff_not, Bool.not_eq_true', Bool.not_eq_false', Int.not_lt, Int.not_le] at aH2
      refine VC.skip ?_
      show VC _ _ _ _ _
      refine VC.seq ?_
      refine VC.region ?_
      refine VO.val rfl rfl (OpV.move (.inl rfl) rfl) ?_
      refine VO.val rfl rfl (OpV.move (.inr rfl) rfl) ?_
      refine VO.nil ?_
      show VC _ _ _ _ _
      first
        | refine VC.le _ ((Le.cutBox (i := 0) 0 rfl).trans (Le.boxRow (i := 0) (n := 0) (sz := 1) (cap := cap) rfl rfl (Nat.zero_le _) hmx)) ?_
        | refine VC.le _ (Le.nilRow 1 27) ?_
      refine VC.le ⟨[(4, _)], [_], 0⟩ (Le.pick hB [0] ⟨rfl, trivial⟩ rfl rfl (Nat.le_refl _)) ?_
      refine VC.ret ?_
      exact Exists.intro _ (And.intro (RetV.one Tryd.results66 (ResV.tmp rfl)) (⟨_, rfl, rfl⟩))
theorem flat_take_le {α : Type} (ll : List (List α)) (q : Nat) : (ll.take q).flatten.length ≤ ll.flatten.length := by
  conv => rhs; rw [← List.take_append_drop q ll]
  rw [List.flatten_append, List.length_append]
  omega
theorem flat_take_succ {α : Type} {ll : List (List α)} {q : Nat} (h : q < ll.length) : (ll.take (q + 1)).flatten = (ll.take q).flatten ++ ll.getD q default := by
  rw [List.take_add_one, List.flatten_append]
  simp [h]
theorem listM_app {α : Type} [Inhabited α] [Sx1 α] (xs ys : List α) : listM xs ++ listM ys = listM (xs ++ ys) := by simp [listM]
set_option maxRecDepth 100000 in
theorem slices_ConcatM {ll : List (List (List ByteArray))} (hl : ll.length ≤ 1000000000) (ht : ll.flatten.length ≤ 1000000000) :
    SpecH Tryd.prog 37 [avM ll] [] (fun y hp' => ∃ u, y = .v u ∧ hp' = [.row u (ll.flatten.length) (1) (listM ll.flatten) (27)]) := by
  refine SpecH.of_VC Tryd.func37 rfl Tryd.ntmps37 (Nat.le_of_ble_eq_true rfl) fun w A hB => ?_
  have hnew : True := trivial
  refine VC.seq ?_
  refine VC.region ?_
  refine VO.val rfl rfl (OpV.move (.inr rfl) rfl) ?_
  refine VO.nil ?_
  show VC _ _ _ _ _
  refine VC.seq ?_
  refine VC.region ?_
  refine VO.val rfl rfl (OpV.move (.inr rfl) rfl) ?_
  refine VO.nil ?_
  show VC _ _ _ _ _
  refine VC.seq ?_
  refine VC.seq ?_
  refine VC.region ?_
  refine VO.val rfl rfl (OpV.move (.inl rfl) rfl) ?_
  first
    | refine VO.val rfl rfl (OpV.len_im rfl Tryd.underlying92 rfl) ?_
    | refine VO.val rfl rfl (OpV.len_v rfl Tryd.underlying92 rfl) ?_
  refine VO.val rfl rfl (OpV.move (.inl rfl) rfl) ?_
  refine VO.nil ?_
  show VC _ _ _ _ _
  refine VC.block ?_
  refine VC.loopK [(0, _), (9, _), (10, _)] ⟨rfl, rfl, rfl, trivial⟩ ({q : Nat // q ≤ ll.length}) (fun (i : {q : Nat // q ≤ ll.length}) => match i with | ⟨q, hq⟩ => [(3, avI ((ll.take q).flatten.length : Int)), (11, avI (q : Int))]) (fun (i : {q : Nat // q ≤ ll.length}) => match i with | ⟨q, hq⟩ => []) (fun (i : {q : Nat // q ≤ ll.length}) => match i with | ⟨q, hq⟩ => 0) (fun (i : {q : Nat // q ≤ ll.length}) => match i with | ⟨q, hq⟩ => ll.length - q) ⟨0, Nat.zero_le _⟩ (Le.mk hB [] ⟨rfl, rfl, rfl, rfl, rfl, trivial⟩ rfl rfl (Nat.le_refl _)) ?_
  rintro ⟨q, hq⟩
  show VC _ _ _ _ ⟨[(3, avI ((ll.take q).flatten.length : Int)), (11, avI (q : Int))] ++ [(0, _), (9, _), (10, _)], [], 0⟩
  refine VC.seq ?_
  refine VC.region ?_
  refine VO.val rfl rfl (OpV.lss rfl rfl rfl) ?_
  refine VO.nil ?_
  show VC _ _ _ _ _
  refine VC.seq ?_
  refine VC.cond rfl (fun aH1b => ?_) (fun aH1b => ?_)
  · have aH1 := aH1b
    try simp only [decide_eq_true_eq, decide_eq_false_iff_not, Bool.not_eq_true', Bool.not_eq_false', Int.not_lt, Int.not_le] at aH1
    have e1 := flat_take_succ (ll := ll) (q := q) (by omega)
    have e2 := flat_take_le ll (q + 1)
    have e3 : (ll.take (q + 1)).flatten.length = (ll.take q).flatten.length + (ll.getD q default).length := by rw [e1, List.length_append]
    refine VC.skip ?_
    show VC _ _ _ _ _
    refine VC.seq ?_
    refine VC.block ?_
    refine VC.seq ?_
    refine VC.region ?_
    first
      | refine VO.val rfl rfl (OpV.indexAddr_1 rfl Tryd.underlying92 Tryd.sizeOf30 rfl rfl rfl (by omega)) ?_
      | refine VO.val rfl rfl (OpV.indexAddr_1 rfl Tryd.underlying92 Tryd.sizeOf30 rfl rfl (Int.toNat_of_nonneg (by omega)).symm (by omega)) ?_
      | refine VO.val rfl rfl (OpV.indexAddr_o rfl Tryd.underlying92 Tryd.sizeOf30 rfl rfl rfl (by omega)) ?_
      | refine VO.val rfl rfl (OpV.indexAddr_o rfl Tryd.underlying92 Tryd.sizeOf30 rfl rfl (Int.toNat_of_nonneg (by omega)).symm (by omega)) ?_
      | refine VO.val rfl rfl (OpV.indexAddr_q rfl Tryd.underlying92 Tryd.sizeOf30 rfl rfl rfl (by omega)) ?_
      | refine VO.val rfl rfl (OpV.indexAddr_q rfl Tryd.underlying92 Tryd.sizeOf30 rfl rfl (Int.toNat_of_nonneg (by omega)).symm (by omega)) ?_
      | refine VO.val rfl rfl (OpV.indexAddr_im rfl Tryd.underlying92 Tryd.sizeOf30 rfl rfl (by omega) (by omega)) ?_
    refine VO.val rfl rfl (OpV.load_at rfl hB OutW.no Tryd.isAgg30 rfl rfl) ?_
    refine VO.val rfl rfl (OpV.move (.inr rfl) rfl) ?_
    refine VO.nil ?_
    show VC _ _ _ _ _
    refine VC.seq ?_
    refine VC.region ?_
    refine VO.val rfl rfl (OpV.move (.inl rfl) rfl) ?_
    refine VO.val rfl rfl (OpV.move (.inl rfl) rfl) ?_
    first
      | refine VO.val rfl rfl (OpV.len_im rfl Tryd.underlying30 rfl) ?_
      | refine VO.val rfl rfl (OpV.len_v rfl Tryd.underlying30 rfl) ?_
    refine VO.val rfl rfl (OpV.add rfl rfl rfl (by unfold fits; omega)) ?_
    refine VO.val rfl rfl (OpV.move (.inr rfl) rfl) ?_
    refine VO.nil ?_
    show VC _ _ _ _ _
    refine VC.seq ?_
    refine VC.region ?_
    refine VO.val rfl rfl (OpV.move (.inl rfl) rfl) ?_
    refine VO.val rfl rfl (OpV.lss rfl rfl rfl) ?_
    refine VO.nil ?_
    show VC _ _ _ _ _
    refine VC.cond rfl (fun aH2b => ?_) (fun aH2b => ?_)
    · have aH2 := aH2b
      try simp only [decide_eq_true_eq, decide_eq_false_iff_not, Bool.not_eq_true', Bool.not_eq_false', Int.not_lt, Int.not_le] at aH2
      exact VC.absurd (by omega)
    · have aH2 := aH2b
      try simp only [decide_eq_true_eq, decide_eq_false_iff_not, Bool.not_eq_true', Bool.not_eq_false', Int.not_lt, Int.not_le] at aH2
      refine VC.skip ?_
      show VC _ _ _ _ _
      refine VC.region ?_
      refine VO.val rfl rfl (OpV.add rfl rfl rfl (by unfold fits; omega)) ?_
      refine VO.val rfl rfl (OpV.move (.inl rfl) rfl) ?_
      refine VO.nil ?_
      exact Exists.intro (⟨q + 1, by omega⟩) (And.intro (Le.mk hB [] ⟨(by dsimp only; rw [e3, Int.natCast_add]; rfl), rfl, rfl, rfl, rfl, trivial⟩ rfl rfl (Nat.le_refl _)) (by first | omega | (show _ < _; omega) | (simp only []; omega)))
  · have aH1 := aH1b
    try simp only [decide_eq_true_eq, decide_eq_false_iff_not, Bool.not_eq_true', Bool.not_eq_false', Int.not_lt, Int.not_le] at aH1
    obtain rfl : q = ll.length := by omega
    have e0 : (ll.take ll.length).flatten.length = ll.flatten.length := by rw [List.take_length]
    refine VC.exit ?_
    show VC _ _ _ _ _
    refine VC.seq ?_
    refine VC.region ?_
    refine VO.val rfl rfl (OpV.move (.inl rfl) rfl) ?_
    refine VO.op rfl (OpE.callH (hp := []) (rest := _) rfl hB rfl Tryd.call66 rfl rfl ((slices_Grow_nil (by omega))) (List.Perm.refl _) (fun _ h => by obtain ⟨e, he, _⟩ := h; cases he) ?_)
    rintro _ _ ⟨u24, rfl, rfl⟩
    refine VO.val rfl rfl (OpV.move (.inr rfl) rfl) ?_
    refine VO.nil ?_
    show VC _ _ _ _ _
    refine VC.seq ?_
    refine VC.seq ?_
    refine VC.region ?_
    refine VO.val rfl rfl (OpV.move (.inl rfl) rfl) ?_
    first
      | refine VO.val rfl rfl (OpV.len_im rfl Tryd.underlying92 rfl) ?_
      | refine VO.val rfl rfl (OpV.len_v rfl Tryd.underlying92 rfl) ?_
      | refine VO.val rfl rfl (OpV.len_row (i := 0) rfl Tryd.underlying92 rfl rfl) ?_
    refine VO.val rfl rfl (OpV.move (.inl rfl) rfl) ?_
    refine VO.nil ?_
    show VC _ _ _ _ _
    refine VC.block ?_
    refine VC.loopK [(25, _), (26, _)] ⟨rfl, rfl, trivial⟩ ({zz : Value × Nat // zz.2 ≤ ll.length}) (fun (i : {zz : Value × Nat // zz.2 ≤ ll.length}) => match i with | ⟨⟨u, r⟩, hq1⟩ => [(6, .v u), (27, avI (r : Int))]) (fun (i : {zz : Value × Nat // zz.2 ≤ ll.length}) => match i with | ⟨⟨u, r⟩, hq1⟩ => [.row u (ll.take r).flatten.length 1 (listM (ll.take r).flatten) 27]) (fun (i : {zz : Value × Nat // zz.2 ≤ ll.length}) => match i with | ⟨⟨u, r⟩, hq1⟩ => 0) (fun (i : {zz : Value × Nat // zz.2 ≤ ll.length}) => match i with | ⟨⟨u, r⟩, hq1⟩ => ll.length - r) ⟨(u24, 0), Nat.zero_le _⟩ (Le.mk hB [0] ⟨rfl, rfl, rfl, rfl, trivial⟩ rfl rfl (Nat.le_refl _)) ?_
    rintro ⟨⟨u, r⟩, hq1⟩
    show VC _ _ _ _ ⟨[(6, .v u), (27, avI (r : Int))] ++ [(25, _), (26, _)], [.row u (ll.take r).flatten.length 1 (listM (ll.take r).flatten) 27], 0⟩
    simp only at hq1
    refine VC.seq ?_
    refine VC.region ?_
    refine VO.val rfl rfl (OpV.lss rfl rfl rfl) ?_
    refine VO.nil ?_
    show VC _ _ _ _ _
    refine VC.seq ?_
    refine VC.cond rfl (fun aH3b => ?_) (fun aH3b => ?_)
    · have aH3 := aH3b
      try simp only [decide_eq_true_eq, decide_eq_false_iff_not, Bool.not_eq_true', Bool.not_eq_false', Int.not_lt, Int.not_le] at aH3
      have f1 := flat_take_succ (ll := ll) (q := r) (by omega)
      have f2 := flat_take_le ll (r + 1)
      have f3 : (ll.take (r + 1)).flatten.length = (ll.take r).flatten.length + (ll.getD r default).length := by rw [f1, List.length_append]
      refine VC.skip ?_
      show VC _ _ _ _ _
      refine VC.seq ?_
      refine VC.block ?_
      refine VC.seq ?_
      refine VC.region ?_
      first
        | refine VO.val rfl rfl (OpV.indexAddr_1 rfl Tryd.underlying92 Tryd.sizeOf30 rfl rfl rfl (by omega)) ?_
        | refine VO.val rfl rfl (OpV.indexAddr_1 rfl Tryd.underlying92 Tryd.sizeOf30 rfl rfl (Int.toNat_of_nonneg (by omega)).symm (by omega)) ?_
        | refine VO.val rfl rfl (OpV.indexAddr_o rfl Tryd.underlying92 Tryd.sizeOf30 rfl rfl rfl (by omega)) ?_
        | refine VO.val rfl rfl (OpV.indexAddr_o rfl Tryd.underlying92 Tryd.sizeOf30 rfl rfl (Int.toNat_of_nonneg (by omega)).symm (by omega)) ?_
        | refine VO.val rfl rfl (OpV.indexAddr_q rfl Tryd.underlying92 Tryd.sizeOf30 rfl rfl rfl (by omega)) ?_
        | refine VO.val rfl rfl (OpV.indexAddr_q rfl Tryd.underlying92 Tryd.sizeOf30 rfl rfl (Int.toNat_of_nonneg (by omega)).symm (by omega)) ?_
        | refine VO.val rfl rfl (OpV.indexAddr_im rfl Tryd.underlying92 Tryd.sizeOf30 rfl rfl (by omega) (by omega)) ?_
      first
        | refine VO.val rfl rfl (OpV.load_at rfl hB OutW.no Tryd.isAgg30 rfl rfl) ?_
        | refine VO.val rfl rfl (OpV.load_own (i := 0) rfl hB Tryd.isAgg30 rfl rfl rfl (fun h => h)) ?_
      refine VO.val rfl rfl (OpV.move (.inr rfl) rfl) ?_
      refine VO.nil ?_
      show VC _ _ _ _ _
      refine VC.region ?_
      refine VO.val rfl rfl (OpV.move (.inl rfl) rfl) ?_
      refine VO.val rfl rfl (OpV.move (.inl rfl) rfl) ?_
      refine VO.op rfl (OpE.appendP (i := 0) rfl hB rfl Tryd.underlying30 (infoOf Tryd.t27 1 (by kernel_rfl) rfl rfl) rfl (by decide) (by decide) rfl rfl (.im rfl) (fun _ _ => rfl) (by omega) (by rw [tab_M, listM_app, ← f1]) (fun _ _ => trivial) ?_)
      intro u2
      refine VO.val rfl rfl (OpV.move (.inr rfl) rfl) ?_
      refine VO.nil ?_
      show VC _ _ _ _ _
      refine VC.region ?_
      refine VO.val rfl rfl (OpV.add rfl rfl rfl (by unfold fits; omega)) ?_
      refine VO.val rfl rfl (OpV.move (.inl rfl) rfl) ?_
      refine VO.nil ?_
      first
        | exact Exists.intro (⟨(u2, r + 1), by show _ ≤ _; omega⟩) (And.intro (Le.mk hB [0] ⟨rfl, rfl, rfl, rfl, trivial⟩ rfl (by dsimp only; rw [f3]; rfl) (Nat.le_refl _)) (by first | omega | (show _ < _; omega) | (simp only []; omega)))
        | exact Exists.intro (⟨(u, r + 1), by show _ ≤ _; omega⟩) (And.intro (Le.mk hB [0] ⟨rfl, rfl, rfl, rfl, trivial⟩ rfl (by dsimp only; rw [f3]; rfl) (Nat.le_refl _)) (by first | omega | (show _ < _; omega) | (simp only []; omega)))
    · have aH3 := aH3b
      try simp only [decide_eq_true_eq, decide_eq_false_iff_not, Bool.not_eq_true', Bool.not_eq_false', Int.not_lt, Int.not_le] at aH3
      obtain rfl : r = ll.length := by omega
      rw [List.take_length]
      refine VC.exit ?_
      show VC _ _ _ _ _
      refine VC.seq ?_
      refine VC.region ?_
      refine VO.val rfl rfl (OpV.move (.inl rfl) rfl) ?_
      refine VO.val rfl rfl (OpV.move (.inr rfl) rfl) ?_
      refine VO.nil ?_
      show VC _ _ _ _ _
      refine VC.le ⟨[(2, _)], [_], 0⟩ (Le.pick hB [0] ⟨rfl, trivial⟩ rfl rfl (Nat.le_refl _)) ?_
      refine VC.ret ?_
      exact Exists.intro _ (And.intro (RetV.one Tryd.results37 (ResV.tmp rfl)) (⟨_, rfl, rfl⟩))
theorem ins_one {l : List AV} {F : Nat → AV} {X : AV} (hF : F 0 = X) : l.take (0 + 0 * 1) ++ tab (1 * 1) F ++ l.drop (0 + 0 * 1 + 1 * 1) = X :: l.drop 1 := by
  simp [tab, hF]
theorem ins_many {p : List (List ByteArray)} {l : List AV} {F : Nat → AV} (hl : l.length = p.length + 1) (hF : ∀ j, j < p.length → F j = Sx1.cell (p.getD j default)) :
    l.take (0 + 1 * 1) ++ tab (p.length * 1) F ++ l.drop (0 + 1 * 1 + p.length * 1) = l.take 1 ++ listM p := by
  have h1 : l.drop (0 + 1 * 1 + p.length * 1) = [] := List.drop_eq_nil_of_le (by omega)
  have h2 : tab (p.length * 1) F = listM p := by
    apply List.ext_getElem (by rw [tab_len, listM_len, Nat.mul_one])
    intro i h1 h2
    rw [tab_get]
    rw [listM_len] at h2
    rw [hF i h2]
    simp [listM, h2]
  rw [h1, h2, List.append_nil]
theorem ins_last {x : List ByteArray} {p : List (List ByteArray)} {l : List AV} {F : Nat → AV} (hF : F 0 = Sx1.cell x) (hl : 0 < l.length) : (l.take 1 ++ listM p).take (0 + 0 * 1) ++ tab (1 * 1) F ++ (l.take 1 ++ listM p).drop (0 + 0 * 1 + 1 * 1) = listM (x :: p) := by
  rw [ins_one hF]
  match l, hl with
  | y :: l, _ => simp [listM]
set_option maxRecDepth 100000 in
theorem slices_InsertM {p : List (List ByteArray)} {x : List ByteArray} {u : Value} (hl : p.length ≤ 1000000000) :
    SpecH Tryd.prog 64 [.v u, avI 0, avM [x]] [.row u p.length 1 (listM p) 27] (fun y hp' => ∃ u', y = .v u' ∧ hp' = [.row u' (p.length + 1) 1 (listM (x :: p)) 27]) := by
  have hx1 : [x].length = 1 := rfl
  refine SpecH.of_VC Tryd.func64 rfl Tryd.ntmps64 (Nat.le_of_ble_eq_true rfl) fun w A hB => ?_
  have hnew : True := trivial
  refine VC.seq ?_
  refine VC.region ?_
  refine VO.val rfl rfl (OpV.move (.inr rfl) rfl) ?_
  refine VO.nil ?_
  show VC _ _ _ _ _
  refine VC.seq ?_
  refine VC.region ?_
  refine VO.val rfl rfl (OpV.move (.inl rfl) rfl) ?_
  refine VO.val rfl rfl (OpV.move (.inl rfl) rfl) ?_
  refine VO.val rfl rfl (OpV.slice_rowA (i := 0) (l := 0) rfl Tryd.underlying30 Tryd.sizeOf27 rfl rfl ⟨_, _, rfl, rfl⟩ rfl (by omega) (by omega)) ?_
  refine VO.nil ?_
  show VC _ _ _ _ _
  refine VC.seq ?_
  refine VC.region ?_
  refine VO.val rfl rfl (OpV.move (.inl rfl) rfl) ?_
  first
    | refine VO.val rfl rfl (OpV.len_im rfl Tryd.underlying30 rfl) ?_
    | refine VO.val rfl rfl (OpV.len_v rfl Tryd.underlying30 rfl) ?_
    | refine VO.val rfl rfl (OpV.len_row (i := 0) rfl Tryd.underlying30 rfl rfl) ?_
  refine VO.val rfl rfl (OpV.move (.inr rfl) rfl) ?_
  refine VO.nil ?_
  show VC _ _ _ _ _
  refine VC.seq ?_
  refine VC.seq ?_
  refine VC.region ?_
  refine VO.val rfl rfl (OpV.move (.inl rfl) rfl) ?_
  refine VO.val rfl rfl (OpV.eql rfl rfl rfl) ?_
  refine VO.nil ?_
  show VC _ _ _ _ _
  refine VC.cond rfl (fun aH1b => ?_) (fun aH1b => ?_)
  · have aH1 := aH1b
    try simp only [decide_eq_true_eq, decide_eq_false_iff_not, Bool.not_eq_true', Bool.not_eq_false', Int.not_lt, Int.not_le] at aH1
    exact VC.absurd (by omega)
  · have aH1 := aH1b
    try simp only [decide_eq_true_eq, decide_eq_false_iff_not, Bool.not_eq_true', Bool.not_eq_false', Int.not_lt, Int.not_le] at aH1
    refine VC.skip ?_
    show VC _ _ _ _ _
    refine VC.seq ?_
    refine VC.region ?_
    refine VO.val rfl rfl (OpV.move (.inl rfl) rfl) ?_
    first
      | refine VO.val rfl rfl (OpV.len_im rfl Tryd.underlying30 rfl) ?_
      | refine VO.val rfl rfl (OpV.len_v rfl Tryd.underlying30 rfl) ?_
      | refine VO.val rfl rfl (OpV.len_row (i := 0) rfl Tryd.underlying30 rfl rfl) ?_
    refine VO.val rfl rfl (OpV.move (.inr rfl) rfl) ?_
    refine VO.nil ?_
    show VC _ _ _ _ _
    refine VC.seq ?_
    refine VC.seq ?_
    refine VC.region ?_
    refine VO.val rfl rfl (OpV.move (.inl rfl) rfl) ?_
    refine VO.val rfl rfl (OpV.move (.inl rfl) rfl) ?_
    refine VO.val rfl rfl (OpV.eql rfl rfl rfl) ?_
    refine VO.nil ?_
    show VC _ _ _ _ _
    refine VC.cond rfl (fun h1b => ?_) (fun h1b => ?_)
    · have h1 := h1b
      try simp only [decide_eq_true_eq, decide_eq_false_iff_not, Bool.not_eq_true', Bool.not_eq_false', Int.not_lt, Int.not_le] at h1
      obtain rfl : p = [] := List.eq_nil_of_length_eq_zero (by omega)
      refine VC.seq ?_
      refine VC.region ?_
      refine VO.val rfl rfl (OpV.move (.inl rfl) rfl) ?_
      refine VO.val rfl rfl (OpV.move (.inl rfl) rfl) ?_
      refine VO.op rfl (OpE.appendP (i := 0) rfl hB rfl Tryd.underlying30 (infoOf Tryd.t27 1 (by kernel_rfl) rfl rfl) rfl (by decide) (by decide) rfl rfl (.im rfl) (fun _ _ => rfl) (by omega) (tab_M [x]) (fun _ _ => trivial) ?_)
      intro u25
      refine VO.val rfl rfl (OpV.move (.inr rfl) rfl) ?_
      refine VO.nil ?_
      show VC _ _ _ _ _
      refine VC.ret ?_
      exact Exists.intro _ (And.intro (RetV.one Tryd.results64 (ResV.tmp rfl)) (⟨_, rfl, rfl⟩))
    · have h1 := h1b
      try simp only [decide_eq_true_eq, decide_eq_false_iff_not, Bool.not_eq_true', Bool.not_eq_false', Int.not_lt, Int.not_le] at h1
      refine VC.asBox (i := 0) rfl (by omega) (fun g cap hu hcap hmx => ?_)
      subst hu
      refine VC.skip ?_
      show VC _ _ _ _ _
      refine VC.seq ?_
      refine VC.seq ?_
      refine VC.region ?_
      refine VO.val rfl rfl (OpV.move (.inl rfl) rfl) ?_
      refine VO.val rfl rfl (OpV.move (.inl rfl) rfl) ?_
      refine VO.val rfl rfl (OpV.add rfl rfl rfl (by unfold fits; omega)) ?_
      refine VO.val rfl rfl (OpV.move (.inl rfl) rfl) ?_
      refine VO.val rfl rfl (OpV.cap_v rfl Tryd.underlying30 rfl) ?_
      refine VO.val rfl rfl (OpV.gtr rfl rfl rfl) ?_
      refine VO.nil ?_
      show VC _ _ _ _ _
      refine VC.cond rfl (fun h2b => ?_) (fun h2b => ?_)
      · have h2 := h2b
        try simp only [decide_eq_true_eq, decide_eq_false_iff_not, Bool.not_eq_true', Bool.not_eq_false', Int.not_lt, Int.not_le] at h2
        refine VC.seq ?_
        refine VC.region ?_
        refine VO.val rfl rfl (OpV.move (.inl rfl) rfl) ?_
        refine VO.val rfl rfl (OpV.move (.inl rfl) rfl) ?_
        first
          | refine VO.val rfl rfl (OpV.slice_ints (h := 0) rfl Tryd.underlying30 Tryd.sizeOf27 rfl rfl ⟨_, _, rfl, rfl⟩ (by omega) (by omega)) ?_
          | refine VO.val rfl rfl (OpV.slice_strs (h := 0) rfl Tryd.underlying30 Tryd.sizeOf27 rfl rfl ⟨_, _, rfl, rfl⟩ (by omega) (by omega)) ?_
          | refine VO.val rfl rfl (OpV.slice_M (h := 0) rfl Tryd.underlying30 Tryd.sizeOf27 rfl rfl ⟨_, _, rfl, rfl⟩ (by omega) (by omega)) ?_
          | refine VO.val rfl rfl (OpV.slice_L (h := 0) rfl Tryd.underlying30 Tryd.sizeOf27 rfl rfl ⟨_, _, rfl, rfl⟩ (by omega) (by omega)) ?_
          | refine VO.val rfl rfl (OpV.slice_im (h := 0) rfl Tryd.underlying30 Tryd.sizeOf27 rfl rfl ⟨_, _, rfl, rfl⟩ (by omega) (by omega)) ?_
          | refine VO.val rfl rfl (OpV.slice_own (h := 0) rfl Tryd.underlying30 Tryd.sizeOf27 rfl rfl ⟨_, _, rfl, rfl⟩ (by omega) (by omega) (by omega)) ?_
        refine VO.val rfl rfl (OpV.move (.inl rfl) rfl) ?_
        refine VO.val rfl rfl (OpV.move (.inl rfl) rfl) ?_
        refine VO.val rfl rfl (OpV.add rfl rfl rfl (by unfold fits; omega)) ?_
        refine VO.val rfl rfl (OpV.move (.inl rfl) rfl) ?_
        refine VO.val rfl rfl (OpV.sub rfl rfl rfl (by unfold fits; omega)) ?_
        refine VO.op rfl (OpE.appendZ (k := p.length + 1) rfl hB rfl Tryd.underlying30 Tryd.underlying3 (infoOf Tryd.t27 1 (by kernel_rfl) rfl rfl) rfl (by decide) (by decide) rfl rfl (by omega) (by omega) (by omega) (by omega) ?_)
        intro u40
        refine VO.asBox (i := 1) rfl (by omega) (fun g3 cap3 hu3 hcap3 hmx3 => ?_)
        subst hu3
        refine VO.val rfl rfl (OpV.move (.inr rfl) rfl) ?_
        refine VO.nil ?_
        show VC _ _ _ _ _
        refine VC.seq ?_
        refine VC.region ?_
        refine VO.val rfl rfl (OpV.move (.inl rfl) rfl) ?_
        refine VO.val rfl rfl (OpV.move (.inl rfl) rfl) ?_
        first
          | refine VO.val rfl rfl (OpV.slice_ints (l := 0) rfl Tryd.underlying30 Tryd.sizeOf27 rfl ⟨_, _, rfl, rfl⟩ rfl (by omega) (by omega)) ?_
          | refine VO.val rfl rfl (OpV.slice_strs (l := 0) rfl Tryd.underlying30 Tryd.sizeOf27 rfl ⟨_, _, rfl, rfl⟩ rfl (by omega) (by omega)) ?_
          | refine VO.val rfl rfl (OpV.slice_M (l := 0) rfl Tryd.underlying30 Tryd.sizeOf27 rfl ⟨_, _, rfl, rfl⟩ rfl (by omega) (by omega)) ?_
          | refine VO.val rfl rfl (OpV.slice_L (l := 0) rfl Tryd.underlying30 Tryd.sizeOf27 rfl ⟨_, _, rfl, rfl⟩ rfl (by omega) (by omega)) ?_
          | refine VO.val rfl rfl (OpV.slice_im (l := 0) rfl Tryd.underlying30 Tryd.sizeOf27 rfl ⟨_, _, rfl, rfl⟩ rfl (by omega) (by omega)) ?_
          | refine VO.val rfl rfl (OpV.slice_own (l := 0) rfl Tryd.underlying30 Tryd.sizeOf27 rfl ⟨_, _, rfl, rfl⟩ rfl (by omega) (by omega) (by omega)) ?_
        refine VO.val rfl rfl (OpV.move (.inl rfl) rfl) ?_
        first
          | refine VO.op rfl (OpE.copy (i := 0) rfl hB rfl Tryd.underlying30 Tryd.sizeOf27 rfl rfl (SrcP.im rfl) (c := 1) (by omega) (fun _ _ => rfl) (by simp) (ins_one (X := Sx1.cell x) rfl) trivial ?_)
          | refine VO.op rfl (OpE.copy (i := 1) rfl hB rfl Tryd.underlying30 Tryd.sizeOf27 rfl rfl (SrcP.im rfl) (c := 1) (by omega) (fun _ _ => rfl) (by simp) (ins_one (X := Sx1.cell x) rfl) trivial ?_)
        refine VO.nil ?_
        show VC _ _ _ _ _
        refine VC.seq ?_
        refine VC.draw (fun j b => j = 8 ∧ b = g3) hB (by kernel_rfl) ?_
        refine VA.take (i := 0) rfl (by kernel_rfl) (by kernel_rfl) (by kernel_rfl) rfl rfl (OpV.move (.inl rfl) rfl) ?_
        refine VA.take (i := 1) rfl (by kernel_rfl) (by kernel_rfl) (by kernel_rfl) rfl rfl (OpV.move (.inl rfl) rfl) ?_
        refine VA.take (i := 2) rfl (by kernel_rfl) (by kernel_rfl) (by kernel_rfl) rfl rfl (OpV.move (.inl rfl) rfl) ?_
        refine VA.take (i := 3) rfl (by kernel_rfl) (by kernel_rfl) (by kernel_rfl) rfl rfl (OpV.add rfl rfl rfl (by unfold fits; omega)) ?_
        first
          | refine VA.take (i := 4) rfl (by kernel_rfl) (by kernel_rfl) (by kernel_rfl) rfl rfl (OpV.slice_ints (l := 1) rfl Tryd.underlying30 Tryd.sizeOf27 rfl ⟨_, _, rfl, by omega⟩ rfl (by omega) (by omega)) ?_
          | refine VA.take (i := 4) rfl (by kernel_rfl) (by kernel_rfl) (by kernel_rfl) rfl rfl (OpV.slice_strs (l := 1) rfl Tryd.underlying30 Tryd.sizeOf27 rfl ⟨_, _, rfl, by omega⟩ rfl (by omega) (by omega)) ?_
          | refine VA.take (i := 4) rfl (by kernel_rfl) (by kernel_rfl) (by kernel_rfl) rfl rfl (OpV.slice_M (l := 1) rfl Tryd.underlying30 Tryd.sizeOf27 rfl ⟨_, _, rfl, by omega⟩ rfl (by omega) (by omega)) ?_
          | refine VA.take (i := 4) rfl (by kernel_rfl) (by kernel_rfl) (by kernel_rfl) rfl rfl (OpV.slice_L (l := 1) rfl Tryd.underlying30 Tryd.sizeOf27 rfl ⟨_, _, rfl, by omega⟩ rfl (by omega) (by omega)) ?_
          | refine VA.take (i := 4) rfl (by kernel_rfl) (by kernel_rfl) (by kernel_rfl) rfl rfl (OpV.slice_im (l := 1) rfl Tryd.underlying30 Tryd.sizeOf27 rfl ⟨_, _, rfl, by omega⟩ rfl (by omega) (by omega)) ?_
          | refine VA.take (i := 4) rfl (by kernel_rfl) (by kernel_rfl) (by kernel_rfl) rfl rfl (OpV.slice_own (l := 1) rfl Tryd.underlying30 Tryd.sizeOf27 rfl ⟨_, _, rfl, by omega⟩ rfl (by omega) (by omega) (by omega)) ?_
        refine VA.take (i := 5) rfl (by kernel_rfl) (by kernel_rfl) (by kernel_rfl) rfl rfl (OpV.move (.inl rfl) rfl) ?_
        refine VA.take (i := 6) rfl (by kernel_rfl) (by kernel_rfl) (by kernel_rfl) rfl rfl (OpV.move (.inl rfl) rfl) ?_
        first
          | refine VA.take (i := 7) rfl (by kernel_rfl) (by kernel_rfl) (by kernel_rfl) rfl rfl (OpV.slice_ints (l := 0) rfl Tryd.underlying30 Tryd.sizeOf27 rfl ⟨_, _, rfl, rfl⟩ rfl (by omega) (by omega)) ?_
          | refine VA.take (i := 7) rfl (by kernel_rfl) (by kernel_rfl) (by kernel_rfl) rfl rfl (OpV.slice_strs (l := 0) rfl Tryd.underlying30 Tryd.sizeOf27 rfl ⟨_, _, rfl, rfl⟩ rfl (by omega) (by omega)) ?_
          | refine VA.take (i := 7) rfl (by kernel_rfl) (by kernel_rfl) (by kernel_rfl) rfl rfl (OpV.slice_M (l := 0) rfl Tryd.underlying30 Tryd.sizeOf27 rfl ⟨_, _, rfl, rfl⟩ rfl (by omega) (by omega)) ?_
          | refine VA.take (i := 7) rfl (by kernel_rfl) (by kernel_rfl) (by kernel_rfl) rfl rfl (OpV.slice_L (l := 0) rfl Tryd.underlying30 Tryd.sizeOf27 rfl ⟨_, _, rfl, rfl⟩ rfl (by omega) (by omega)) ?_
          | refine VA.take (i := 7) rfl (by kernel_rfl) (by kernel_rfl) (by kernel_rfl) rfl rfl (OpV.slice_im (l := 0) rfl Tryd.underlying30 Tryd.sizeOf27 rfl ⟨_, _, rfl, rfl⟩ rfl (by omega) (by omega)) ?_
          | refine VA.take (i := 7) rfl (by kernel_rfl) (by kernel_rfl) (by kernel_rfl) rfl rfl (OpV.slice_own (l := 0) rfl Tryd.underlying30 Tryd.sizeOf27 rfl ⟨_, _, rfl, rfl⟩ rfl (by omega) (by omega) (by omega)) ?_
        refine VA.all (rs := [8]) (by kernel_rfl) (by decide) ?_
        refine ⟨⟨_, rfl, .inl rfl, ?_⟩, trivial⟩
        first
          | refine OpE.copy (i := 0) rfl hB rfl Tryd.underlying30 Tryd.sizeOf27 rfl rfl (SrcP.box (i := 0) rfl rfl (by rw [listM_len]; omega)) (c := p.length) (by omega) (fun j hj => by dsimp only; rw [List.getD_eq_getElem?_getD, show 0 + 0 * 1 + j = j by omega, listM_get (by omega)]; rfl) (by first | (simp; done) | (simp; omega)) (ins_many (p := p) (by simp) (fun j hj => by dsimp only; rw [List.getD_eq_getElem?_getD, show 0 + 0 * 1 + j = j by omega, listM_get (by omega)]; rfl)) (by first | exact ⟨rfl, rfl⟩ | exact .inl ⟨rfl, rfl⟩ | exact .inr ⟨rfl, rfl⟩) ?_
          | refine OpE.copy (i := 1) rfl hB rfl Tryd.underlying30 Tryd.sizeOf27 rfl rfl (SrcP.box (i := 0) rfl rfl (by rw [listM_len]; omega)) (c := p.length) (by omega) (fun j hj => by dsimp only; rw [List.getD_eq_getElem?_getD, show 0 + 0 * 1 + j = j by omega, listM_get (by omega)]; rfl) (by first | (simp; done) | (simp; omega)) (ins_many (p := p) (by simp) (fun j hj => by dsimp only; rw [List.getD_eq_getElem?_getD, show 0 + 0 * 1 + j = j by omega, listM_get (by omega)]; rfl)) (by first | exact ⟨rfl, rfl⟩ | exact .inl ⟨rfl, rfl⟩ | exact .inr ⟨rfl, rfl⟩) ?_
        refine VA.done (by kernel_rfl) ?_
        show VC _ _ _ _ _
        refine VC.seq ?_
        refine VC.region ?_
        refine VO.val rfl rfl (OpV.move (.inl rfl) rfl) ?_
        refine VO.val rfl rfl (OpV.move (.inr rfl) rfl) ?_
        refine VO.nil ?_
        show VC _ _ _ _ _
        refine VC.le _ ((Le.erase 0).trans (Le.boxRow (i := 0) (n := p.length + 1) (sz := 1) (cap := cap3) rfl (by first | (simp [listM_len]; done) | (simp [listM_len]; omega)) hcap3 hmx3)) ?_
        refine VC.ret ?_
        exact Exists.intro _ (And.intro (RetV.one Tryd.results64 (ResV.tmp rfl)) (⟨_, rfl, rfl⟩))
      · have h2 := h2b
        try simp only [decide_eq_true_eq, decide_eq_false_iff_not, Bool.not_eq_true', Bool.not_eq_false', Int.not_lt, Int.not_le] at h2
        refine VC.le _ (Le.padBox (i := 0) 1 rfl (by rw [listM_len]; omega)) ?_
        refine VC.skip ?_
        show VC _ _ _ _ _
        refine VC.seq ?_
        refine VC.region ?_
        refine VO.val rfl rfl (OpV.move (.inl rfl) rfl) ?_
        refine VO.val rfl rfl (OpV.move (.inl rfl) rfl) ?_
        refine VO.val rfl rfl (OpV.move (.inl rfl) rfl) ?_
        refine VO.val rfl rfl (OpV.add rfl rfl rfl (by unfold fits; omega)) ?_
        first
          | refine VO.val rfl rfl (OpV.slice_ints (h := p.length + 1) rfl Tryd.underlying30 Tryd.sizeOf27 rfl rfl ⟨_, _, rfl, by omega⟩ (by omega) (by omega)) ?_
          | refine VO.val rfl rfl (OpV.slice_strs (h := p.length + 1) rfl Tryd.underlying30 Tryd.sizeOf27 rfl rfl ⟨_, _, rfl, by omega⟩ (by omega) (by omega)) ?_
          | refine VO.val rfl rfl (OpV.slice_M (h := p.length + 1) rfl Tryd.underlying30 Tryd.sizeOf27 rfl rfl ⟨_, _, rfl, by omega⟩ (by omega) (by omega)) ?_
          | refine VO.val rfl rfl (OpV.slice_L (h := p.length + 1) rfl Tryd.underlying30 Tryd.sizeOf27 rfl rfl ⟨_, _, rfl, by omega⟩ (by omega) (by omega)) ?_
          | refine VO.val rfl rfl (OpV.slice_im (h := p.length + 1) rfl Tryd.underlying30 Tryd.sizeOf27 rfl rfl ⟨_, _, rfl, by omega⟩ (by omega) (by omega)) ?_
          | refine VO.val rfl rfl (OpV.slice_own (h := p.length + 1) rfl Tryd.underlying30 Tryd.sizeOf27 rfl rfl ⟨_, _, rfl, by omega⟩ (by omega) (by omega) (by omega)) ?_
        refine VO.val rfl rfl (OpV.move (.inr rfl) rfl) ?_
        refine VO.nil ?_
        show VC _ _ _ _ _
        refine VC.seq ?_
        refine VC.seq ?_
        refine VC.region ?_
        refine VO.val rfl rfl (OpV.move (.inl rfl) rfl) ?_
        refine VO.val rfl rfl (OpV.move (.inl rfl) rfl) ?_
        refine VO.val rfl rfl (OpV.move (.inl rfl) rfl) ?_
        refine VO.val rfl rfl (OpV.move (.inl rfl) rfl) ?_
        refine VO.val rfl rfl (OpV.add rfl rfl rfl (by unfold fits; omega)) ?_
        first
          | refine VO.val rfl rfl (OpV.slice_ints (l := 1) rfl Tryd.underlying30 Tryd.sizeOf27 rfl ⟨_, _, rfl, by omega⟩ rfl (by omega) (by omega)) ?_
          | refine VO.val rfl rfl (OpV.slice_strs (l := 1) rfl Tryd.underlying30 Tryd.sizeOf27 rfl ⟨_, _, rfl, by omega⟩ rfl (by omega) (by omega)) ?_
          | refine VO.val rfl rfl (OpV.slice_M (l := 1) rfl Tryd.underlying30 Tryd.sizeOf27 rfl ⟨_, _, rfl, by omega⟩ rfl (by omega) (by omega)) ?_
          | refine VO.val rfl rfl (OpV.slice_L (l := 1) rfl Tryd.underlying30 Tryd.sizeOf27 rfl ⟨_, _, rfl, by omega⟩ rfl (by omega) (by omega)) ?_
          | refine VO.val rfl rfl (OpV.slice_im (l := 1) rfl Tryd.underlying30 Tryd.sizeOf27 rfl ⟨_, _, rfl, by omega⟩ rfl (by omega) (by omega)) ?_
          | refine VO.val rfl rfl (OpV.slice_own (l := 1) rfl Tryd.underlying30 Tryd.sizeOf27 rfl ⟨_, _, rfl, by omega⟩ rfl (by omega) (by omega) (by omega)) ?_
        refine VO.op rfl (OpE.overlaps (i := 0) rfl hB rfl (fun us w => run_callFunc_extern Tryd.func79 (by kernel_rfl) (by kernel_rfl) (by kernel_rfl) (e := Extern.SlicesOverlaps.overlaps #[30, 30] #[4]) (by kernel_rfl) us w) Tryd.underlying30 Tryd.sizeOf27 rfl (Nat.succ_pos _) rfl rfl (by show 0 < cap * 1; omega) ?_)
        refine VO.val rfl rfl (OpV.not rfl rfl) ?_
        refine VO.nil ?_
        show VC _ _ _ _ _
        refine VC.condT rfl rfl ?_
        refine VC.seq ?_
        refine VC.draw (fun j b => j = 8 ∧ b = g) hB (by kernel_rfl) ?_
        refine VA.take (i := 0) rfl (by kernel_rfl) (by kernel_rfl) (by kernel_rfl) rfl rfl (OpV.move (.inl rfl) rfl) ?_
        refine VA.take (i := 1) rfl (by kernel_rfl) (by kernel_rfl) (by kernel_rfl) rfl rfl (OpV.move (.inl rfl) rfl) ?_
        refine VA.take (i := 2) rfl (by kernel_rfl) (by kernel_rfl) (by kernel_rfl) rfl rfl (OpV.move (.inl rfl) rfl) ?_
        refine VA.take (i := 3) rfl (by kernel_rfl) (by kernel_rfl) (by kernel_rfl) rfl rfl (OpV.add rfl rfl rfl (by unfold fits; omega)) ?_
        first
          | refine VA.take (i := 4) rfl (by kernel_rfl) (by kernel_rfl) (by kernel_rfl) rfl rfl (OpV.slice_ints (l := 1) rfl Tryd.underlying30 Tryd.sizeOf27 rfl ⟨_, _, rfl, by omega⟩ rfl (by omega) (by omega)) ?_
          | refine VA.take (i := 4) rfl (by kernel_rfl) (by kernel_rfl) (by kernel_rfl) rfl rfl (OpV.slice_strs (l := 1) rfl Tryd.underlying30 Tryd.sizeOf27 rfl ⟨_, _, rfl, by omega⟩ rfl (by omega) (by omega)) ?_
          | refine VA.take (i := 4) rfl (by kernel_rfl) (by kernel_rfl) (by kernel_rfl) rfl rfl (OpV.slice_M (l := 1) rfl Tryd.underlying30 Tryd.sizeOf27 rfl ⟨_, _, rfl, by omega⟩ rfl (by omega) (by omega)) ?_
          | refine VA.take (i := 4) rfl (by kernel_rfl) (by kernel_rfl) (by kernel_rfl) rfl rfl (OpV.slice_L (l := 1) rfl Tryd.underlying30 Tryd.sizeOf27 rfl ⟨_, _, rfl, by omega⟩ rfl (by omega) (by omega)) ?_
          | refine VA.take (i := 4) rfl (by kernel_rfl) (by kernel_rfl) (by kernel_rfl) rfl rfl (OpV.slice_im (l := 1) rfl Tryd.underlying30 Tryd.sizeOf27 rfl ⟨_, _, rfl, by omega⟩ rfl (by omega) (by omega)) ?_
          | refine VA.take (i := 4) rfl (by kernel_rfl) (by kernel_rfl) (by kernel_rfl) rfl rfl (OpV.slice_own (l := 1) rfl Tryd.underlying30 Tryd.sizeOf27 rfl ⟨_, _, rfl, by omega⟩ rfl (by omega) (by omega) (by omega)) ?_
        refine VA.take (i := 5) rfl (by kernel_rfl) (by kernel_rfl) (by kernel_rfl) rfl rfl (OpV.move (.inl rfl) rfl) ?_
        refine VA.take (i := 6) rfl (by kernel_rfl) (by kernel_rfl) (by kernel_rfl) rfl rfl (OpV.move (.inl rfl) rfl) ?_
        first
          | refine VA.take (i := 7) rfl (by kernel_rfl) (by kernel_rfl) (by kernel_rfl) rfl rfl (OpV.slice_ints (l := 0) rfl Tryd.underlying30 Tryd.sizeOf27 rfl ⟨_, _, rfl, rfl⟩ rfl (by omega) (by omega)) ?_
          | refine VA.take (i := 7) rfl (by kernel_rfl) (by kernel_rfl) (by kernel_rfl) rfl rfl (OpV.slice_strs (l := 0) rfl Tryd.underlying30 Tryd.sizeOf27 rfl ⟨_, _, rfl, rfl⟩ rfl (by omega) (by omega)) ?_
          | refine VA.take (i := 7) rfl (by kernel_rfl) (by kernel_rfl) (by kernel_rfl) rfl rfl (OpV.slice_M (l := 0) rfl Tryd.underlying30 Tryd.sizeOf27 rfl ⟨_, _, rfl, rfl⟩ rfl (by omega) (by omega)) ?_
          | refine VA.take (i := 7) rfl (by kernel_rfl) (by kernel_rfl) (by kernel_rfl) rfl rfl (OpV.slice_L (l := 0) rfl Tryd.underlying30 Tryd.sizeOf27 rfl ⟨_, _, rfl, rfl⟩ rfl (by omega) (by omega)) ?_
          | refine VA.take (i := 7) rfl (by kernel_rfl) (by kernel_rfl) (by kernel_rfl) rfl rfl (OpV.slice_im (l := 0) rfl Tryd.underlying30 Tryd.sizeOf27 rfl ⟨_, _, rfl, rfl⟩ rfl (by omega) (by omega)) ?_
          | refine VA.take (i := 7) rfl (by kernel_rfl) (by kernel_rfl) (by kernel_rfl) rfl rfl (OpV.slice_own (l := 0) rfl Tryd.underlying30 Tryd.sizeOf27 rfl ⟨_, _, rfl, rfl⟩ rfl (by omega) (by omega) (by omega)) ?_
        refine VA.all (rs := [8]) (by kernel_rfl) (by decide) ?_
        refine ⟨⟨_, rfl, .inl rfl, ?_⟩, trivial⟩
        refine OpE.copy (i := 0) rfl hB rfl Tryd.underlying30 Tryd.sizeOf27 rfl rfl (SrcP.box (i := 0) rfl rfl (by simp [listM_len])) (c := p.length) (by omega) (fun j hj => by dsimp only; rw [List.getD_eq_getElem?_getD, show 0 + 0 * 1 + j = j by omega, List.getElem?_append_left (by rw [listM_len]; omega), listM_get (by omega)]; rfl) (by first | (simp [listM_len]; done) | (simp [listM_len]; omega)) (ins_many (p := p) (by simp [listM_len]) (fun j hj => by dsimp only; rw [List.getD_eq_getElem?_getD, show 0 + 0 * 1 + j = j by omega, List.getElem?_append_left (by rw [listM_len]; omega), listM_get (by omega)]; rfl)) (by first | exact ⟨rfl, rfl⟩ | exact .inl ⟨rfl, rfl⟩ | exact .inr ⟨rfl, rfl⟩) ?_
        refine VA.done (by kernel_rfl) ?_
        show VC _ _ _ _ _
        refine VC.seq ?_
        refine VC.region ?_
        refine VO.val rfl rfl (OpV.move (.inl rfl) rfl) ?_
        refine VO.val rfl rfl (OpV.move (.inl rfl) rfl) ?_
        first
          | refine VO.val rfl rfl (OpV.slice_ints (l := 0) rfl Tryd.underlying30 Tryd.sizeOf27 rfl ⟨_, _, rfl, rfl⟩ rfl (by omega) (by omega)) ?_
          | refine VO.val rfl rfl (OpV.slice_strs (l := 0) rfl Tryd.underlying30 Tryd.sizeOf27 rfl ⟨_, _, rfl, rfl⟩ rfl (by omega) (by omega)) ?_
          | refine VO.val rfl rfl (OpV.slice_M (l := 0) rfl Tryd.underlying30 Tryd.sizeOf27 rfl ⟨_, _, rfl, rfl⟩ rfl (by omega) (by omega)) ?_
          | refine VO.val rfl rfl (OpV.slice_L (l := 0) rfl Tryd.underlying30 Tryd.sizeOf27 rfl ⟨_, _, rfl, rfl⟩ rfl (by omega) (by omega)) ?_
          | refine VO.val rfl rfl (OpV.slice_im (l := 0) rfl Tryd.underlying30 Tryd.sizeOf27 rfl ⟨_, _, rfl, rfl⟩ rfl (by omega) (by omega)) ?_
          | refine VO.val rfl rfl (OpV.slice_own (l := 0) rfl Tryd.underlying30 Tryd.sizeOf27 rfl ⟨_, _, rfl, rfl⟩ rfl (by omega) (by omega) (by omega)) ?_
        refine VO.val rfl rfl (OpV.move (.inl rfl) rfl) ?_
        refine VO.op rfl (OpE.copy (i := 0) rfl hB rfl Tryd.underlying30 Tryd.sizeOf27 rfl rfl (SrcP.im rfl) (c := 1) (cs' := listM (x :: p)) (by omega) (fun _ _ => rfl) (by first | (simp [listM_len]; done) | (simp [listM_len]; omega)) (ins_last (x := x) rfl (by simp)) trivial ?_)
        refine VO.nil ?_
        show VC _ _ _ _ _
        refine VC.seq ?_
        refine VC.region ?_
        refine VO.val rfl rfl (OpV.move (.inl rfl) rfl) ?_
        refine VO.val rfl rfl (OpV.move (.inr rfl) rfl) ?_
        refine VO.nil ?_
        show VC _ _ _ _ _
        refine VC.le _ (Le.boxRow (i := 0) (n := p.length + 1) (sz := 1) (cap := cap) rfl (by first | (simp [listM_len]; done) | (simp [listM_len]; omega)) (by omega) hmx) ?_
        refine VC.ret ?_
        exact Exists.intro _ (And.intro (RetV.one Tryd.results64 (ResV.tmp rfl)) (⟨_, rfl, rfl⟩))
end Go.Proofs.YtpajnlcikmhpdaaDoor
