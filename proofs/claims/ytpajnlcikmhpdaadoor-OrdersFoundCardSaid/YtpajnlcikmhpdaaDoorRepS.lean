/- Walks: slices.Repeat of a list of one element. -/
import Derived.Test.YtpajnlcikmhpdaaDoorShelf
import Derived.Test.YtpajnlcikmhpdaaDoorCloneS
import Derived.Test.YtpajnlcikmhpdaaDoorKeys
namespace Go.Proofs.YtpajnlcikmhpdaaDoor
open Go.RowKit
set_option linter.unusedVariables false
set_option linter.unusedSimpArgs false

theorem bits_Mul_S {x y : Nat} (hx : x < 18446744073709551616) (hy : y < 18446744073709551616) (hxy : x * y < 18446744073709551616) : SpecN Tryd.prog 55 [.v (.int .u64 x), .v (.int .u64 y)] (fun z => z = .tup [.v (.int .u64 0), .v (.int .u64 ((x * y : Nat) : Int))]) := by
  intro w us ha
  rw [argsV2 ha]
  refine (Tryd.bits_Mul x y hx hy w).mono ?_
  rintro e w' ⟨rfl, rfl⟩
  rw [Nat.div_eq_of_lt hxy, Nat.mod_eq_of_lt hxy]
  refine ⟨_, _, rfl, rfl, .tup _ _ rfl fun j hj => ?_, Chg.refl _ _, trivial⟩
  match j, hj with
  | 0, _ => exact .v _
  | 1, _ => exact .v _

/-- k cells of x, then zero ones. -/
def repC (X Z : AV) (k n : Nat) : List AV := List.replicate k X ++ List.replicate (n - k) Z
theorem repC_len {X Z : AV} {k n : Nat} (h : k ≤ n) : (repC X Z k n).length = n := by simp [repC]; omega
theorem repC_get {X Z : AV} {k n j : Nat} (h : k ≤ n) (hj : j < n) : (repC X Z k n)[j]? = some (if j < k then X else Z) := by
  unfold repC
  split
  · rename_i h1; rw [List.getElem?_append_left (by simpa using h1)]; simp [h1]
  · rename_i h1
    rw [List.getElem?_append_right (by simpa using h1), List.length_replicate, List.getElem?_replicate, if_pos (by omega)]
theorem repC_step {X Z : AV} {F : Nat → AV} {k c n o q : Nat} (h : k + c ≤ n) (hF : ∀ j, j < c → F j = X) (ho : o = k) (hq : q = c) : (repC X Z k n).take o ++ tab q F ++ (repC X Z k n).drop (o + q) = repC X Z (k + c) n := by
  subst ho; subst hq
  apply List.ext_getElem?
  intro i
  by_cases hi : i < n
  · rw [repC_get h hi]
    by_cases h1 : i < o
    · rw [List.append_assoc, List.getElem?_append_left (by rw [List.length_take, repC_len (by omega)]; omega), List.getElem?_take, if_pos h1, repC_get (by omega) hi, if_pos h1, if_pos (by omega)]
    · by_cases h2 : i < o + q
      · rw [List.append_assoc, List.getElem?_append_right (by rw [List.length_take, repC_len (by omega)]; omega), List.getElem?_append_left (by rw [List.length_take, repC_len (by omega), tab_len]; omega), if_pos h2]
        rw [List.getElem?_eq_getElem (by rw [List.length_take, repC_len (by omega), tab_len]; omega), tab_get, hF _ (by rw [List.length_take, repC_len (by omega)]; omega)]
      · rw [List.getElem?_append_right (by rw [List.length_append, List.length_take, repC_len (by omega), tab_len]; omega), List.getElem?_drop, List.length_append, List.length_take, repC_len (by omega), tab_len, repC_get (by omega) (by omega), if_neg (by omega), if_neg h2]
  · have l1 : ((repC X Z o n).take o ++ tab q F ++ (repC X Z o n).drop (o + q)).length ≤ i := by
      rw [List.length_append, List.length_append, List.length_take, List.length_drop, repC_len (by omega), tab_len]; omega
    have l2 : (repC X Z (o + q) n).length ≤ i := by rw [repC_len h]; omega
    rw [List.getElem?_eq_none l1, List.getElem?_eq_none l2]
theorem repC_0 {z : Value} {n m : Nat} (hz : z.cells = #[z]) (hm : m = n) : (madeCells z.cells (m * 1)).toList.map AV.v = repC (.v z) (.v z) 0 n := by
  subst hm
  rw [hz, Nat.mul_one, toList_madeCells_one]
  simp [repC]
theorem repC_full {X Z : AV} {n : Nat} : repC X Z n n = List.replicate n X := by simp [repC]
theorem repC_zero {X Y Z : AV} {n : Nat} : repC X Z 0 n = repC Y Z 0 n := by simp [repC]
theorem repC_first {X Z : AV} {F : Nat → AV} {n c : Nat} (hc : c = min 1 n) (hF : F 0 = X) : (repC Z Z 0 n).take 0 ++ tab (c * 1) F ++ (repC Z Z 0 n).drop (0 + c * 1) = repC X Z c n := by
  rw [repC_zero (X := Z) (Y := X)]
  have h0 : 0 + c = c := Nat.zero_add c
  rw [← h0]
  rw [h0]
  conv => rhs; rw [← h0]
  exact repC_step (c := c) (by omega) (fun j hj => by rw [show j = 0 by omega]; exact hF) rfl (Nat.mul_one _)
set_option maxRecDepth 100000 in
theorem slices_Repeat_str {x : ByteArray} {n : Nat} (hn : n ≤ 100000) :
    Spec Tryd.prog 44 [avStrs [x], avI (n : Int)] (fun y => y = avStrs (List.replicate n x)) := by
  refine Spec.of_VC Tryd.func44 rfl Tryd.ntmps44 (Nat.le_of_ble_eq_true rfl) fun w A hB => ?_
  have hnew : True := trivial
  refine VC.seq ?_
  refine VC.region ?_
  refine VO.val rfl rfl (OpV.move (.inr rfl) rfl) ?_
  refine VO.nil ?_
  show VC _ _ _ _ _
  refine VC.seq ?_
  refine VC.seq ?_
  refine VC.region ?_
  refine VO.val rfl rfl (OpV.move (.inl rfl) rfl) ?_
  refine VO.val rfl rfl (OpV.lss rfl rfl rfl) ?_
  refine VO.nil ?_
  show VC _ _ _ _ _
  refine VC.cond rfl (fun aH1b => ?_) (fun aH1b => ?_)
  · have aH1 := aH1b
    try simp only [decide_eq_true_eq, decide_eq_false_iff_not, Bool.not_eq_true', Bool.not_eq_false', Int.not_lt, Int.not_le] at aH1
    exact VC.absurd (by omega)
  · have aH1 := aH1b
    try simp only [decide_eq_true_eq, decide_eq_false_iff_not, Bool.not_eq_true', Bool.not_eq_false', Int.not_lt, Int.not_le] at aH1
    refine VC.skip ?_
    show VC _ _ _ _ _
    refine VC.seq ?_
    refine VC.region ?_
    refine VO.val rfl rfl (OpV.move (.inl rfl) rfl) ?_
    first
      | refine VO.val rfl rfl (OpV.len_im rfl Tryd.underlying27 rfl) ?_
      | refine VO.val rfl rfl (OpV.len_v rfl Tryd.underlying27 rfl) ?_
    refine VO.val rfl rfl (OpV.conv rfl Tryd.underlying3 Tryd.underlying80 rfl (IntWalk.u64_in _ (by simp))) ?_
    refine VO.val rfl rfl (OpV.move (.inl rfl) rfl) ?_
    refine VO.val rfl rfl (OpV.conv rfl Tryd.underlying3 Tryd.underlying80 rfl (IntWalk.u64_in _ (by omega))) ?_
    refine VO.op rfl (OpE.call rfl hB rfl Tryd.call55 rfl (SpecN.spec (bits_Mul_S (x := 1) (y := n) (by omega) (by omega) (by omega))) ?_)
    rintro _ rfl
    refine VO.val rfl rfl (OpV.move (.inl rfl) rfl) ?_
    first
      | refine VO.val rfl rfl (OpV.extract rfl rfl rfl) ?_
      | refine VO.val rfl rfl (OpV.extract_v rfl rfl rfl) ?_
    first
      | refine VO.val rfl rfl (OpV.extract rfl rfl rfl) ?_
      | refine VO.val rfl rfl (OpV.extract_v rfl rfl rfl) ?_
    refine VO.val rfl rfl (OpV.move (.inr rfl) rfl) ?_
    refine VO.val rfl rfl (OpV.move (.inr rfl) rfl) ?_
    refine VO.nil ?_
    show VC _ _ _ _ _
    refine VC.seq ?_
    refine VC.seq ?_
    refine VC.region ?_
    refine VO.val rfl rfl (OpV.move (.inl rfl) rfl) ?_
    refine VO.val rfl rfl (OpV.gtr rfl rfl rfl) ?_
    refine VO.val rfl rfl (OpV.move (.inl rfl) rfl) ?_
    refine VO.opY rfl rfl rfl rfl rfl ?_
    refine OpE.val (W := NoB) (OpV.move (.inl rfl) rfl) rfl ?_
    refine VO.opY rfl rfl rfl rfl rfl ?_
    refine OpE.val (W := NoB) (OpV.gtr rfl rfl rfl) rfl ?_
    refine VO.val rfl rfl (OpV.pickF rfl rfl rfl rfl rfl) ?_
    refine VO.nil ?_
    show VC _ _ _ _ _
    refine VC.cond rfl (fun aH2b => ?_) (fun aH2b => ?_)
    · have aH2 := aH2b
      try simp only [decide_eq_true_eq, decide_eq_false_iff_not, Bool.not_eq_true', Bool.not_eq_false', Int.not_lt, Int.not_le] at aH2
      exact VC.absurd (by omega)
    · have aH2 := aH2b
      try simp only [decide_eq_true_eq, decide_eq_false_iff_not, Bool.not_eq_true', Bool.not_eq_false', Int.not_lt, Int.not_le] at aH2
      refine VC.skip ?_
      show VC _ _ _ _ _
      refine VC.seq ?_
      refine VC.region ?_
      refine VO.val rfl rfl (OpV.move (.inl rfl) rfl) ?_
      refine VO.val rfl rfl (OpV.conv rfl Tryd.underlying80 Tryd.underlying3 rfl (IntWalk.i64_in _ (by omega))) ?_
      refine VO.op rfl (OpE.make rfl hB rfl Tryd.underlying27 (infoOf Tryd.t9 1 (by kernel_rfl) rfl rfl) (by decide) rfl rfl (n := n) (by omega) (by omega) (by omega) (repC_0 (n := n) rfl rfl) ?_)
      intro g30
      refine VO.val rfl rfl (OpV.move (.inr rfl) rfl) ?_
      refine VO.nil ?_
      show VC _ _ _ _ _
      refine VC.seq ?_
      refine VC.region ?_
      refine VO.val rfl rfl (OpV.move (.inl rfl) rfl) ?_
      refine VO.val rfl rfl (OpV.move (.inl rfl) rfl) ?_
      refine VO.op rfl (OpE.copy (i := 0) rfl hB rfl Tryd.underlying27 Tryd.sizeOf9 rfl rfl (SrcP.im rfl) (c := min 1 n) rfl (fun _ _ => rfl) (by rw [repC_len (by omega)]; omega) (repC_first rfl rfl) trivial ?_)
      refine VO.val rfl rfl (OpV.move (.inr rfl) rfl) ?_
      refine VO.nil ?_
      show VC _ _ _ _ _
      refine VC.seq ?_
      refine VC.block ?_
      refine VC.loopK [(7, _)] ⟨rfl, trivial⟩ ({k : Nat // k ≤ n ∧ (k = 0 → n = 0)}) (fun (i : {k : Nat // k ≤ n ∧ (k = 0 → n = 0)}) => match i with | ⟨k, hk, hk0⟩ => [(8, avI (k : Int))]) (fun (i : {k : Nat // k ≤ n ∧ (k = 0 → n = 0)}) => match i with | ⟨k, hk, hk0⟩ => [.box g30 ⟨repC (avS x) (.v (.string ⟨#[]⟩)) k n, 9, (repC (.v (.string ⟨#[]⟩)) (.v (.string ⟨#[]⟩)) 0 n).length⟩]) (fun (i : {k : Nat // k ≤ n ∧ (k = 0 → n = 0)}) => match i with | ⟨k, hk, hk0⟩ => 0) (fun (i : {k : Nat // k ≤ n ∧ (k = 0 → n = 0)}) => match i with | ⟨k, hk, hk0⟩ => n - k) ⟨min 1 n, by omega, by omega⟩ (Le.mk hB [0] ⟨rfl, rfl, trivial⟩ rfl rfl (Nat.le_refl _)) ?_
      rintro ⟨k, hk, hk0⟩
      show VC _ _ _ _ ⟨[(8, avI (k : Int))] ++ [(7, _)], [.box g30 ⟨repC (avS x) (.v (.string ⟨#[]⟩)) k n, 9, (repC (.v (.string ⟨#[]⟩)) (.v (.string ⟨#[]⟩)) 0 n).length⟩], 0⟩
      refine VC.seq ?_
      refine VC.seq ?_
      refine VC.region ?_
      refine VO.val rfl rfl (OpV.move (.inl rfl) rfl) ?_
      refine VO.val rfl rfl (OpV.move (.inl rfl) rfl) ?_
      first
        | refine VO.val rfl rfl (OpV.len_im rfl Tryd.underlying27 rfl) ?_
        | refine VO.val rfl rfl (OpV.len_v rfl Tryd.underlying27 rfl) ?_
        | refine VO.val rfl rfl (OpV.len_row (i := 0) rfl Tryd.underlying27 rfl rfl) ?_
      refine VO.val rfl rfl (OpV.lss rfl rfl rfl) ?_
      refine VO.nil ?_
      show VC _ _ _ _ _
      refine VC.cond rfl (fun aH3b => ?_) (fun aH3b => ?_)
      · have aH3 := aH3b
        try simp only [decide_eq_true_eq, decide_eq_false_iff_not, Bool.not_eq_true', Bool.not_eq_false', Int.not_lt, Int.not_le] at aH3
        refine VC.skip ?_
        show VC _ _ _ _ _
        refine VC.block ?_
        refine VC.draw (fun j b => j = 7 ∧ b = g30) hB (by kernel_rfl) ?_
        refine VA.take (i := 0) rfl (by kernel_rfl) (by kernel_rfl) (by kernel_rfl) rfl rfl (OpV.move (.inl rfl) rfl) ?_
        refine VA.take (i := 1) rfl (by kernel_rfl) (by kernel_rfl) (by kernel_rfl) rfl rfl (OpV.move (.inl rfl) rfl) ?_
        refine VA.take (i := 2) rfl (by kernel_rfl) (by kernel_rfl) (by kernel_rfl) rfl rfl (OpV.move (.inl rfl) rfl) ?_
        first
          | refine VA.take (i := 3) rfl (by kernel_rfl) (by kernel_rfl) (by kernel_rfl) rfl rfl (OpV.slice_ints (l := k) rfl Tryd.underlying27 Tryd.sizeOf9 rfl ⟨_, _, rfl, rfl⟩ rfl (by omega) (by omega)) ?_
          | refine VA.take (i := 3) rfl (by kernel_rfl) (by kernel_rfl) (by kernel_rfl) rfl rfl (OpV.slice_strs (l := k) rfl Tryd.underlying27 Tryd.sizeOf9 rfl ⟨_, _, rfl, rfl⟩ rfl (by omega) (by omega)) ?_
          | refine VA.take (i := 3) rfl (by kernel_rfl) (by kernel_rfl) (by kernel_rfl) rfl rfl (OpV.slice_M (l := k) rfl Tryd.underlying27 Tryd.sizeOf9 rfl ⟨_, _, rfl, rfl⟩ rfl (by omega) (by omega)) ?_
          | refine VA.take (i := 3) rfl (by kernel_rfl) (by kernel_rfl) (by kernel_rfl) rfl rfl (OpV.slice_L (l := k) rfl Tryd.underlying27 Tryd.sizeOf9 rfl ⟨_, _, rfl, rfl⟩ rfl (by omega) (by omega)) ?_
          | refine VA.take (i := 3) rfl (by kernel_rfl) (by kernel_rfl) (by kernel_rfl) rfl rfl (OpV.slice_im (l := k) rfl Tryd.underlying27 Tryd.sizeOf9 rfl ⟨_, _, rfl, rfl⟩ rfl (by omega) (by omega)) ?_
          | refine VA.take (i := 3) rfl (by kernel_rfl) (by kernel_rfl) (by kernel_rfl) rfl rfl (OpV.slice_own (l := k) rfl Tryd.underlying27 Tryd.sizeOf9 rfl ⟨_, _, rfl, rfl⟩ rfl (by omega) (by omega) (by omega)) ?_
        refine VA.take (i := 4) rfl (by kernel_rfl) (by kernel_rfl) (by kernel_rfl) rfl rfl (OpV.move (.inl rfl) rfl) ?_
        refine VA.take (i := 5) rfl (by kernel_rfl) (by kernel_rfl) (by kernel_rfl) rfl rfl (OpV.move (.inl rfl) rfl) ?_
        first
          | refine VA.take (i := 6) rfl (by kernel_rfl) (by kernel_rfl) (by kernel_rfl) rfl rfl (OpV.slice_ints (h := k) rfl Tryd.underlying27 Tryd.sizeOf9 rfl rfl ⟨_, _, rfl, rfl⟩ (by omega) (by omega)) ?_
          | refine VA.take (i := 6) rfl (by kernel_rfl) (by kernel_rfl) (by kernel_rfl) rfl rfl (OpV.slice_strs (h := k) rfl Tryd.underlying27 Tryd.sizeOf9 rfl rfl ⟨_, _, rfl, rfl⟩ (by omega) (by omega)) ?_
          | refine VA.take (i := 6) rfl (by kernel_rfl) (by kernel_rfl) (by kernel_rfl) rfl rfl (OpV.slice_M (h := k) rfl Tryd.underlying27 Tryd.sizeOf9 rfl rfl ⟨_, _, rfl, rfl⟩ (by omega) (by omega)) ?_
          | refine VA.take (i := 6) rfl (by kernel_rfl) (by kernel_rfl) (by kernel_rfl) rfl rfl (OpV.slice_L (h := k) rfl Tryd.underlying27 Tryd.sizeOf9 rfl rfl ⟨_, _, rfl, rfl⟩ (by omega) (by omega)) ?_
          | refine VA.take (i := 6) rfl (by kernel_rfl) (by kernel_rfl) (by kernel_rfl) rfl rfl (OpV.slice_im (h := k) rfl Tryd.underlying27 Tryd.sizeOf9 rfl rfl ⟨_, _, rfl, rfl⟩ (by omega) (by omega)) ?_
          | refine VA.take (i := 6) rfl (by kernel_rfl) (by kernel_rfl) (by kernel_rfl) rfl rfl (OpV.slice_own (h := k) rfl Tryd.underlying27 Tryd.sizeOf9 rfl rfl ⟨_, _, rfl, rfl⟩ (by omega) (by omega) (by omega)) ?_
        refine VA.all (rs := [7]) (by kernel_rfl) (by decide) ?_
        refine ⟨⟨_, rfl, .inl rfl, ?_⟩, trivial⟩
        refine OpE.copy (i := 0) rfl hB rfl Tryd.underlying27 Tryd.sizeOf9 rfl rfl (SrcP.box (i := 0) rfl rfl (by show 0 + 0 * 1 + (k - 0) * 1 ≤ (repC _ _ k n).length; rw [repC_len (by omega)]; omega)) (c := min k (n - k)) (by omega) (fun j hj => by dsimp only; rw [List.getD_eq_getElem?_getD, repC_get (by omega) (by omega), if_pos (by omega)]; rfl) (by show 0 + k * 1 + _ ≤ (repC _ _ k n).length; rw [repC_len (by omega)]; omega) (repC_step (c := min k (n - k)) (by omega) (fun j hj => by dsimp only; rw [List.getD_eq_getElem?_getD, repC_get (by omega) (by omega), if_pos (by omega)]; rfl) (by omega) (by omega)) (by first | exact ⟨rfl, rfl⟩ | exact .inl ⟨rfl, rfl⟩ | exact .inr ⟨rfl, rfl⟩) ?_
        refine VA.take (i := 8) rfl (by kernel_rfl) (by kernel_rfl) (by kernel_rfl) rfl rfl (OpV.add rfl rfl rfl (by unfold fits; omega)) ?_
        refine VA.take (i := 9) rfl (by kernel_rfl) (by kernel_rfl) (by kernel_rfl) rfl rfl (OpV.move (.inr rfl) rfl) ?_
        refine VA.done (by kernel_rfl) ?_
        exact Exists.intro (⟨k + min k (n - k), by omega, by omega⟩) (And.intro (Le.mk hB [0] ⟨rfl, rfl, trivial⟩ rfl rfl (Nat.le_refl _)) (by first | omega | (show _ < _; omega) | (simp only []; omega)))
      · have aH3 := aH3b
        try simp only [decide_eq_true_eq, decide_eq_false_iff_not, Bool.not_eq_true', Bool.not_eq_false', Int.not_lt, Int.not_le] at aH3
        refine VC.exit ?_
        show VC _ _ _ _ _
        refine VC.seq ?_
        refine VC.region ?_
        refine VO.val rfl rfl (OpV.move (.inl rfl) rfl) ?_
        refine VO.val rfl rfl (OpV.move (.inr rfl) rfl) ?_
        refine VO.nil ?_
        show VC _ _ _ _ _
        obtain rfl : k = n := by omega
        refine VC.le _ (Le.box (t := 4) (i := 0) (n := k) (sz := 1) (y := avStrs (List.replicate k x)) hB hnew rfl rfl (by show 0 + k * 1 ≤ (repC _ _ k k).length; rw [repC_len (by omega)]; omega) (Nat.le_refl _) (capM (by omega)) (fun w Z u h => Rep.strs (by simp) (h.im_congr fun j hj => by rw [repC_full, strsL, List.map_replicate, Nat.zero_add]))) ?_
        refine VC.ret ?_
        exact Exists.intro _ (And.intro (RetV.one Tryd.results44 (ResV.tmp rfl)) (rfl))
end Go.Proofs.YtpajnlcikmhpdaaDoor
