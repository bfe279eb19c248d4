/- Walks: slices.Repeat of a list of one list. -/
import Derived.Test.YtpajnlcikmhpdaaDoorRepS
import Derived.Test.YtpajnlcikmhpdaaDoorSxGrow
namespace Go.Proofs.YtpajnlcikmhpdaaDoor
open Go.RowKit
set_option linter.unusedVariables false
set_option linter.unusedSimpArgs false
set_option maxRecDepth 100000 in
theorem slices_Repeat_M {x : List ByteArray} {n : Nat} (hn : n ≤ 100000) :
    Spec Tryd.prog 27 [avM [x], avI (n : Int)] (fun y => y = avM (List.replicate n x)) := by
  refine Spec.of_VC Tryd.func27 rfl Tryd.ntmps27 (Nat.le_of_ble_eq_true rfl) fun w A hB => ?_
  have hnew : True := trivial
  refine VC.seq ?_
  refine VC.region ?_
  refine VO.val rfl rfl (OpV.move (.inr rfl) rfl) ?_
  refine VO.nil ?_
  show VC _ _ _ _ _
  refine VC.seq ?_
  refine VC.seq ?_
  refine VC.region ?_
  refine VO.val rfl rfl (OpV.move (.inl rfl) rfl) ?_
  refine VO.val rfl rfl (OpV.lss rfl rfl rfl) ?_
  refine VO.nil ?_
  show VC _ _ _ _ _
  refine VC.cond rfl (fun aH1b => ?_) (fun aH1b => ?_)
  · have aH1 := aH1b
    try simp only [decide_eq_true_eq, decide_eq_false_iff_not, Bool.not_eq_true', Bool.not_eq_false', Int.not_lt, Int.not_le] at aH1
    exact VC.absurd (by omega)
  · have aH1 := aH1b
    try simp only [decide_eq_true_eq, decide_eq_false_iff_not, Bool.not_eq_true', Bool.not_eq_false', Int.not_lt, Int.not_le] at aH1
    refine VC.skip ?_
    show VC _ _ _ _ _
    refine VC.seq ?_
    refine VC.region ?_
    refine VO.val rfl rfl (OpV.move (.inl rfl) rfl) ?_
    first
      | refine VO.val rfl rfl (OpV.len_im rfl Tryd.underlying30 rfl) ?_
      | refine VO.val rfl rfl (OpV.len_v rfl Tryd.underlying30 rfl) ?_
    refine VO.val rfl rfl (OpV.conv rfl Tryd.underlying3 Tryd.underlying80 rfl (IntWalk.u64_in _ (by simp))) ?_
    refine VO.val rfl rfl (OpV.move (.inl rfl) rfl) ?_
    refine VO.val rfl rfl (OpV.conv rfl Tryd.underlying3 Tryd.underlying80 rfl (IntWalk.u64_in _ (by omega))) ?_
    refine VO.op rfl (OpE.call rfl hB rfl Tryd.call55 rfl (SpecN.spec (bits_Mul_S (x := 1) (y := n) (by omega) (by omega) (by omega))) ?_)
    rintro _ rfl
    refine VO.val rfl rfl (OpV.move (.inl rfl) rfl) ?_
    first
      | refine VO.val rfl rfl (OpV.extract rfl rfl rfl) ?_
      | refine VO.val rfl rfl (OpV.extract_v rfl rfl rfl) ?_
    first
      | refine VO.val rfl rfl (OpV.extract rfl rfl rfl) ?_
      | refine VO.val rfl rfl (OpV.extract_v rfl rfl rfl) ?_
    refine VO.val rfl rfl (OpV.move (.inr rfl) rfl) ?_
    refine VO.val rfl rfl (OpV.move (.inr rfl) rfl) ?_
    refine VO.nil ?_
    show VC _ _ _ _ _
    refine VC.seq ?_
    refine VC.seq ?_
    refine VC.region ?_
    refine VO.val rfl rfl (OpV.move (.inl rfl) rfl) ?_
    refine VO.val rfl rfl (OpV.gtr rfl rfl rfl) ?_
    refine VO.val rfl rfl (OpV.move (.inl rfl) rfl) ?_
    refine VO.opY rfl rfl rfl rfl rfl ?_
    refine OpE.val (W := NoB) (OpV.move (.inl rfl) rfl) rfl ?_
    refine VO.opY rfl rfl rfl rfl rfl ?_
    refine OpE.val (W := NoB) (OpV.gtr rfl rfl rfl) rfl ?_
    refine VO.val rfl rfl (OpV.pickF rfl rfl rfl rfl rfl) ?_
    refine VO.nil ?_
    show VC _ _ _ _ _
    refine VC.cond rfl (fun aH2b => ?_) (fun aH2b => ?_)
    · have aH2 := aH2b
      try simp only [decide_eq_true_eq, decide_eq_false_iff_not, Bool.not_eq_true', Bool.not_eq_false', Int.not_lt, Int.not_le] at aH2
      exact VC.absurd (by omega)
    · have aH2 := aH2b
      try simp only [decide_eq_true_eq, decide_eq_false_iff_not, Bool.not_eq_true', Bool.not_eq_false', Int.not_lt, Int.not_le] at aH2
      refine VC.skip ?_
      show VC _ _ _ _ _
      refine VC.seq ?_
      refine VC.region ?_
      refine VO.val rfl rfl (OpV.move (.inl rfl) rfl) ?_
      refine VO.val rfl rfl (OpV.conv rfl Tryd.underlying80 Tryd.underlying3 rfl (IntWalk.i64_in _ (by omega))) ?_
      refine VO.op rfl (OpE.make rfl hB rfl Tryd.underlying30 (infoOf Tryd.t27 1 (by kernel_rfl) rfl rfl) (by decide) rfl rfl (n := n) (by omega) (by omega) (by omega) (repC_0 (n := n) rfl rfl) ?_)
      intro g30
      refine VO.val rfl rfl (OpV.move (.inr rfl) rfl) ?_
      refine VO.nil ?_
      show VC _ _ _ _ _
      refine VC.seq ?_
      refine VC.region ?_
      refine VO.val rfl rfl (OpV.move (.inl rfl) rfl) ?_
      refine VO.val rfl rfl (OpV.move (.inl rfl) rfl) ?_
      refine VO.op rfl (OpE.copy (i := 0) rfl hB rfl Tryd.underlying30 Tryd.sizeOf27 rfl rfl (SrcP.im rfl) (c := min 1 n) rfl (fun _ _ => rfl) (by rw [repC_len (by omega)]; omega) (repC_first rfl rfl) trivial ?_)
      refine VO.val rfl rfl (OpV.move (.inr rfl) rfl) ?_
      refine VO.nil ?_
      show VC _ _ _ _ _
      refine VC.seq ?_
      refine VC.block ?_
      refine VC.loopK [(7, _)] ⟨rfl, trivial⟩ ({k : Nat // k ≤ n ∧ (k = 0 → n = 0)}) (fun (i : {k : Nat // k ≤ n ∧ (k = 0 → n = 0)}) => match i with | ⟨k, hk, hk0⟩ => [(8, avI (k : Int))]) (fun (i : {k : Nat // k ≤ n ∧ (k = 0 → n = 0)}) => match i with | ⟨k, hk, hk0⟩ => [.box g30 ⟨repC (avStrs x) (.v (.slice none 0 0)) k n, 27, (repC (.v (.slice none 0 0)) (.v (.slice none 0 0)) 0 n).length⟩]) (fun (i : {k : Nat // k ≤ n ∧ (k = 0 → n = 0)}) => match i with | ⟨k, hk, hk0⟩ => 0) (fun (i : {k : Nat // k ≤ n ∧ (k = 0 → n = 0)}) => match i with | ⟨k, hk, hk0⟩ => n - k) ⟨min 1 n, by omega, by omega⟩ (Le.mk hB [0] ⟨rfl, rfl, trivial⟩ rfl rfl (Nat.le_refl _)) ?_
      rintro ⟨k, hk, hk0⟩
      show VC _ _ _ _ ⟨[(8, avI (k : Int))] ++ [(7, _)], [.box g30 ⟨repC (avStrs x) (.v (.slice none 0 0)) k n, 27, (repC (.v (.slice none 0 0)) (.v (.slice none 0 0)) 0 n).length⟩], 0⟩
      refine VC.seq ?_
      refine VC.seq ?_
      refine VC.region ?_
      refine VO.val rfl rfl (OpV.move (.inl rfl) rfl) ?_
      refine VO.val rfl rfl (OpV.move (.inl rfl) rfl) ?_
      first
        | refine VO.val rfl rfl (OpV.len_im rfl Tryd.underlying30 rfl) ?_
        | refine VO.val rfl rfl (OpV.len_v rfl Tryd.underlying30 rfl) ?_
        | refine VO.val rfl rfl (OpV.len_row (i := 0) rfl Tryd.underlying30 rfl rfl) ?_
      refine VO.val rfl rfl (OpV.lss rfl rfl rfl) ?_
      refine VO.nil ?_
      show VC _ _ _ _ _
      refine VC.cond rfl (fun aH3b => ?_) (fun aH3b => ?_)
      · have aH3 := aH3b
        try simp only [decide_eq_true_eq, decide_eq_false_iff_not, Bool.not_eq_true', Bool.not_eq_false', Int.not_lt, Int.not_le] at aH3
        refine VC.skip ?_
        show VC _ _ _ _ _
        refine VC.block ?_
        refine VC.draw (fun j b => j = 7 ∧ b = g30) hB (by kernel_rfl) ?_
        refine VA.take (i := 0) rfl (by kernel_rfl) (by kernel_rfl) (by kernel_rfl) rfl rfl (OpV.move (.inl rfl) rfl) ?_
        refine VA.take (i := 1) rfl (by kernel_rfl) (by kernel_rfl) (by kernel_rfl) rfl rfl (OpV.move (.inl rfl) rfl) ?_
        refine VA.take (i := 2) rfl (by kernel_rfl) (by kernel_rfl) (by kernel_rfl) rfl rfl (OpV.move (.inl rfl) rfl) ?_
        first
          | refine VA.take (i := 3) rfl (by kernel_rfl) (by kernel_rfl) (by kernel_rfl) rfl rfl (OpV.slice_ints (l := k) rfl Tryd.underlying30 Tryd.sizeOf27 rfl ⟨_, _, rfl, rfl⟩ rfl (by omega) (by omega)) ?_
          | refine VA.take (i := 3) rfl (by kernel_rfl) (by kernel_rfl) (by kernel_rfl) rfl rfl (OpV.slice_strs (l := k) rfl Tryd.underlying30 Tryd.sizeOf27 rfl ⟨_, _, rfl, rfl⟩ rfl (by omega) (by omega)) ?_
          | refine VA.take (i := 3) rfl (by kernel_rfl) (by kernel_rfl) (by kernel_rfl) rfl rfl (OpV.slice_M (l := k) rfl Tryd.underlying30 Tryd.sizeOf27 rfl ⟨_, _, rfl, rfl⟩ rfl (by omega) (by omega)) ?_
          | refine VA.take (i := 3) rfl (by kernel_rfl) (by kernel_rfl) (by kernel_rfl) rfl rfl (OpV.slice_L (l := k) rfl Tryd.underlying30 Tryd.sizeOf27 rfl ⟨_, _, rfl, rfl⟩ rfl (by omega) (by omega)) ?_
          | refine VA.take (i := 3) rfl (by kernel_rfl) (by kernel_rfl) (by kernel_rfl) rfl rfl (OpV.slice_im (l := k) rfl Tryd.underlying30 Tryd.sizeOf27 rfl ⟨_, _, rfl, rfl⟩ rfl (by omega) (by omega)) ?_
          | refine VA.take (i := 3) rfl (by kernel_rfl) (by kernel_rfl) (by kernel_rfl) rfl rfl (OpV.slice_own (l := k) rfl Tryd.underlying30 Tryd.sizeOf27 rfl ⟨_, _, rfl, rfl⟩ rfl (by omega) (by omega) (by omega)) ?_
        refine VA.take (i := 4) rfl (by kernel_rfl) (by kernel_rfl) (by kernel_rfl) rfl rfl (OpV.move (.inl rfl) rfl) ?_
        refine VA.take (i := 5) rfl (by kernel_rfl) (by kernel_rfl) (by kernel_rfl) rfl rfl (OpV.move (.inl rfl) rfl) ?_
        first
          | refine VA.take (i := 6) rfl (by kernel_rfl) (by kernel_rfl) (by kernel_rfl) rfl rfl (OpV.slice_ints (h := k) rfl Tryd.underlying30 Tryd.sizeOf27 rfl rfl ⟨_, _, rfl, rfl⟩ (by omega) (by omega)) ?_
          | refine VA.take (i := 6) rfl (by kernel_rfl) (by kernel_rfl) (by kernel_rfl) rfl rfl (OpV.slice_strs (h := k) rfl Tryd.underlying30 Tryd.sizeOf27 rfl rfl ⟨_, _, rfl, rfl⟩ (by omega) (by omega)) ?_
          | refine VA.take (i := 6) rfl (by kernel_rfl) (by kernel_rfl) (by kernel_rfl) rfl rfl (OpV.slice_M (h := k) rfl Tryd.underlying30 Tryd.sizeOf27 rfl rfl ⟨_, _, rfl, rfl⟩ (by omega) (by omega)) ?_
          | refine VA.take (i := 6) rfl (by kernel_rfl) (by kernel_rfl) (by kernel_rfl) rfl rfl (OpV.slice_L (h := k) rfl Tryd.underlying30 Tryd.sizeOf27 rfl rfl ⟨_, _, rfl, rfl⟩ (by omega) (by omega)) ?_
          | refine VA.take (i := 6) rfl (by kernel_rfl) (by kernel_rfl) (by kernel_rfl) rfl rfl (OpV.slice_im (h := k) rfl Tryd.underlying30 Tryd.sizeOf27 rfl rfl ⟨_, _, rfl, rfl⟩ (by omega) (by omega)) ?_
          | refine VA.take (i := 6) rfl (by kernel_rfl) (by kernel_rfl) (by kernel_rfl) rfl rfl (OpV.slice_own (h := k) rfl Tryd.underlying30 Tryd.sizeOf27 rfl rfl ⟨_, _, rfl, rfl⟩ (by omega) (by omega) (by omega)) ?_
        refine VA.all (rs := [7]) (by kernel_rfl) (by decide) ?_
        refine ⟨⟨_, rfl, .inl rfl, ?_⟩, trivial⟩
        refine OpE.copy (i := 0) rfl hB rfl Tryd.underlying30 Tryd.sizeOf27 rfl rfl (SrcP.box (i := 0) rfl rfl (by show 0 + 0 * 1 + (k - 0) * 1 ≤ (repC _ _ k n).length; rw [repC_len (by omega)]; omega)) (c := min k (n - k)) (by omega) (fun j hj => by dsimp only; rw [List.getD_eq_getElem?_getD, repC_get (by omega) (by omega), if_pos (by omega)]; rfl) (by show 0 + k * 1 + _ ≤ (repC _ _ k n).length; rw [repC_len (by omega)]; omega) (repC_step (c := min k (n - k)) (by omega) (fun j hj => by dsimp only; rw [List.getD_eq_getElem?_getD, repC_get (by omega) (by omega), if_pos (by omega)]; rfl) (by omega) (by omega)) (by first | exact ⟨rfl, rfl⟩ | exact .inl ⟨rfl, rfl⟩ | exact .inr ⟨rfl, rfl⟩) ?_
        refine VA.take (i := 8) rfl (by kernel_rfl) (by kernel_rfl) (by kernel_rfl) rfl rfl (OpV.add rfl rfl rfl (by unfold fits; omega)) ?_
        refine VA.take (i := 9) rfl (by kernel_rfl) (by kernel_rfl) (by kernel_rfl) rfl rfl (OpV.move (.inr rfl) rfl) ?_
        refine VA.done (by kernel_rfl) ?_
        exact Exists.intro (⟨k + min k (n - k), by omega, by omega⟩) (And.intro (Le.mk hB [0] ⟨rfl, rfl, trivial⟩ rfl rfl (Nat.le_refl _)) (by first | omega | (show _ < _; omega) | (simp only []; omega)))
      · have aH3 := aH3b
        try simp only [decide_eq_true_eq, decide_eq_false_iff_not, Bool.not_eq_true', Bool.not_eq_false', Int.not_lt, Int.not_le] at aH3
        refine VC.exit ?_
        show VC _ _ _ _ _
        refine VC.seq ?_
        refine VC.region ?_
        refine VO.val rfl rfl (OpV.move (.inl rfl) rfl) ?_
        refine VO.val rfl rfl (OpV.move (.inr rfl) rfl) ?_
        refine VO.nil ?_
        show VC _ _ _ _ _
        obtain rfl : k = n := by omega
        refine VC.le _ (Le.box (t := 4) (i := 0) (n := k) (sz := 1) (y := avM (List.replicate k x)) hB hnew rfl rfl (by show 0 + k * 1 ≤ (repC _ _ k k).length; rw [repC_len (by omega)]; omega) (Nat.le_refl _) (capM (by omega)) (fun w Z u h => Rep.listM (by simp) (h.im_congr fun j hj => by rw [repC_full, listM, List.map_replicate, Nat.zero_add]; rfl))) ?_
        refine VC.ret ?_
        exact Exists.intro _ (And.intro (RetV.one Tryd.results27 (ResV.tmp rfl)) (rfl))
end Go.Proofs.YtpajnlcikmhpdaaDoor
