/- Walks: slices.IndexFunc and slices.DeleteFunc over one's own list of strings, with a function that reads one's own things. -/
import Derived.Test.YtpajnlcikmhpdaaDoorSlicesS
import Derived.Test.YtpajnlcikmhpdaaDoorCloneS
namespace Go.Proofs.YtpajnlcikmhpdaaDoor
open Go.RowKit
set_option linter.unusedVariables false
set_option linter.unusedSimpArgs false

abbrev pt (g : Nat) : AV := .v (.pointer (some ⟨g, 0, none⟩))
abbrev ptv (g : Nat) : Value := .pointer (some ⟨g, 0, none⟩)
set_option maxRecDepth 100000 in
theorem slices_IndexFuncO_str {xs : List ByteArray} {u : Value} {ty : TypeId} {F : FuncId} {caps : Array Value} {hpC : List Ent} {p : ByteArray → Bool} (hl : xs.length ≤ 1000000000) (hcall : ∀ us w, (callFunc F us).run Tryd.prog w = .ok (.enter F us) w) (hF : ∀ x, SpecH Tryd.prog F ([avS x] ++ caps.toList.map .v) hpC (fun y hp' => y = avB (p x) ∧ hp' = hpC)) :
    SpecH Tryd.prog 70 [.v u, .v (.func (.func F) #[] caps)] (.row u xs.length 1 (strsL xs) ty :: hpC) (fun y hp' => y = avI (fidx p xs) ∧ hp' = .row u xs.length 1 (strsL xs) ty :: hpC) := by
  refine SpecH.of_VC Tryd.func70 rfl Tryd.ntmps70 (Nat.le_of_ble_eq_true rfl) fun w A hB => ?_
  have hnew : True := trivial
  refine VC.seq ?_
  refine VC.region ?_
  refine VO.val rfl rfl (OpV.move (.inr rfl) rfl) ?_
  refine VO.nil ?_
  show VC _ _ _ _ _
  refine VC.seq ?_
  refine VC.seq ?_
  refine VC.region ?_
  refine VO.val rfl rfl (OpV.move (.inl rfl) rfl) ?_
  first
    | refine VO.val rfl rfl (OpV.len_im rfl Tryd.underlying27 rfl) ?_
    | refine VO.val rfl rfl (OpV.len_v rfl Tryd.underlying27 rfl) ?_
    | refine VO.val rfl rfl (OpV.len_row (i := 0) rfl Tryd.underlying27 rfl rfl) ?_
  refine VO.val rfl rfl (OpV.move (.inl rfl) rfl) ?_
  refine VO.nil ?_
  show VC _ _ _ _ _
  refine VC.block ?_
  refine VC.loopK [(0, _), (1, _), (7, _)] ⟨rfl, rfl, rfl, trivial⟩ ({q : Nat // q ≤ xs.length ∧ ∀ j, j < q → p (xs.getD j ByteArray.empty) = false}) (fun (i : {q : Nat // q ≤ xs.length ∧ ∀ j, j < q → p (xs.getD j ByteArray.empty) = false}) => match i with | ⟨q, hq, hn⟩ => [(8, avI (q : Int))]) (fun (i : {q : Nat // q ≤ xs.length ∧ ∀ j, j < q → p (xs.getD j ByteArray.empty) = false}) => match i with | ⟨q, hq, hn⟩ => (.row u xs.length 1 (strsL xs) ty :: hpC)) (fun (i : {q : Nat // q ≤ xs.length ∧ ∀ j, j < q → p (xs.getD j ByteArray.empty) = false}) => match i with | ⟨q, hq, hn⟩ => 0) (fun (i : {q : Nat // q ≤ xs.length ∧ ∀ j, j < q → p (xs.getD j ByteArray.empty) = false}) => match i with | ⟨q, hq, hn⟩ => xs.length - q) ⟨0, Nat.zero_le _, fun j hj => absurd hj (Nat.not_lt_zero j)⟩ (Le.mkP hB ⟨rfl, rfl, rfl, rfl, trivial⟩ (List.Sublist.refl _) (List.Perm.refl _) (Nat.le_refl _)) ?_
  rintro ⟨q, hq, hn⟩
  show VC _ _ _ _ ⟨[(8, avI (q : Int))] ++ [(0, _), (1, _), (7, _)], (.row u xs.length 1 (strsL xs) ty :: hpC), 0⟩
  refine VC.seq ?_
  refine VC.region ?_
  refine VO.val rfl rfl (OpV.lss rfl rfl rfl) ?_
  refine VO.nil ?_
  show VC _ _ _ _ _
  refine VC.seq ?_
  refine VC.cond rfl (fun aH1b => ?_) (fun aH1b => ?_)
  · have aH1 := aH1b
    try simp only [decide_eq_true_eq, decide_eq_false_iff_not, Bool.not_eq_true', Bool.not_eq_false', Int.not_lt, Int.not_le] at aH1
    refine VC.skip ?_
    show VC _ _ _ _ _
    refine VC.seq ?_
    refine VC.block ?_
    refine VC.seq ?_
    refine VC.asBox (i := 0) rfl (by omega) (fun g cap hu hcap hmx => ?_)
    subst hu
    refine VC.region ?_
    refine VO.val rfl rfl (OpV.move (.inl rfl) rfl) ?_
    refine VO.val rfl rfl (OpV.move (.inr rfl) rfl) ?_
    refine VO.nil ?_
    show VC _ _ _ _ _
    refine VC.seq ?_
    refine VC.region ?_
    refine VO.val rfl rfl (OpV.move (.inl rfl) rfl) ?_
    refine VO.val rfl rfl (OpV.move (.inl rfl) rfl) ?_
    refine VO.val rfl rfl (OpV.move (.inl rfl) rfl) ?_
    first
      | refine VO.val rfl rfl (OpV.indexAddr_1 rfl Tryd.underlying27 Tryd.sizeOf9 rfl rfl rfl (by omega)) ?_
      | refine VO.val rfl rfl (OpV.indexAddr_1 rfl Tryd.underlying27 Tryd.sizeOf9 rfl rfl (Int.toNat_of_nonneg (by omega)).symm (by omega)) ?_
      | refine VO.val rfl rfl (OpV.indexAddr_o rfl Tryd.underlying27 Tryd.sizeOf9 rfl rfl rfl (by omega)) ?_
      | refine VO.val rfl rfl (OpV.indexAddr_o rfl Tryd.underlying27 Tryd.sizeOf9 rfl rfl (Int.toNat_of_nonneg (by omega)).symm (by omega)) ?_
      | refine VO.val rfl rfl (OpV.indexAddr_q rfl Tryd.underlying27 Tryd.sizeOf9 rfl rfl rfl (by omega)) ?_
      | refine VO.val rfl rfl (OpV.indexAddr_q rfl Tryd.underlying27 Tryd.sizeOf9 rfl rfl (Int.toNat_of_nonneg (by omega)).symm (by omega)) ?_
      | refine VO.val rfl rfl (OpV.indexAddr_im rfl Tryd.underlying27 Tryd.sizeOf9 rfl rfl (by omega) (by omega)) ?_
    first
      | refine VO.val rfl rfl (OpV.load_at rfl hB OutW.no Tryd.isAgg9 rfl rfl) ?_
      | refine VO.val rfl rfl (OpV.load_own (i := 0) rfl hB Tryd.isAgg9 rfl rfl (strsL_get (by omega)) (fun h => h)) ?_
    refine VO.op rfl (OpE.callH (rest := [_]) rfl hB rfl hcall rfl rfl (hF _) (List.perm_append_comm (l₁ := [_])) (fun _ _ => trivial) ?_)
    rintro _ _ ⟨rfl, rfl⟩
    refine VO.le _ (Le.front rfl) ?_
    refine VO.nil ?_
    show VC _ _ _ _ _
    refine VC.cond rfl (fun h1b => ?_) (fun h1b => ?_)
    · have h1 := h1b
      try simp only [decide_eq_true_eq, decide_eq_false_iff_not, Bool.not_eq_true', Bool.not_eq_false', Int.not_lt, Int.not_le] at h1
      refine VC.le _ (Le.boxRow (i := 0) (n := xs.length) rfl (by rw [strsL_len]; omega) hcap hmx) ?_
      refine VC.seq ?_
      refine VC.region ?_
      refine VO.val rfl rfl (OpV.move (.inl rfl) rfl) ?_
      refine VO.val rfl rfl (OpV.move (.inr rfl) rfl) ?_
      refine VO.nil ?_
      show VC _ _ _ _ _
      refine VC.ret ?_
      exact Exists.intro _ (And.intro (RetV.one Tryd.results70 (ResV.tmp rfl)) (⟨by first | (rw [fidx_found (d := ByteArray.empty) (q := q) (by omega) hn (by assumption)]) | (rw [fidx_none (d := ByteArray.empty) (fun j hj => hn j (by omega))]), rfl⟩))
    · have h1 := h1b
      try simp only [decide_eq_true_eq, decide_eq_false_iff_not, Bool.not_eq_true', Bool.not_eq_false', Int.not_lt, Int.not_le] at h1
      refine VC.le _ (Le.boxRow (i := 0) (n := xs.length) rfl (by rw [strsL_len]; omega) hcap hmx) ?_
      refine VC.skip ?_
      show VC _ _ _ _ _
      refine VC.region ?_
      refine VO.val rfl rfl (OpV.add rfl rfl rfl (by unfold fits; omega)) ?_
      refine VO.val rfl rfl (OpV.move (.inl rfl) rfl) ?_
      refine VO.nil ?_
      exact Exists.intro (⟨q + 1, by omega, lt_succ_cases hn (by assumption)⟩) (And.intro (Le.mkP hB ⟨rfl, rfl, rfl, rfl, trivial⟩ (List.Sublist.refl _) (List.Perm.refl _) (Nat.le_refl _)) (by first | omega | (show _ < _; omega) | (simp only []; omega)))
  · have aH1 := aH1b
    try simp only [decide_eq_true_eq, decide_eq_false_iff_not, Bool.not_eq_true', Bool.not_eq_false', Int.not_lt, Int.not_le] at aH1
    refine VC.exit ?_
    show VC _ _ _ _ _
    refine VC.seq ?_
    refine VC.region ?_
    refine VO.val rfl rfl (OpV.move (.inr rfl) rfl) ?_
    refine VO.nil ?_
    show VC _ _ _ _ _
    refine VC.ret ?_
    exact Exists.intro _ (And.intro (RetV.one Tryd.results70 (ResV.tmp rfl)) (⟨by first | (rw [fidx_found (d := ByteArray.empty) (q := q) (by omega) hn (by assumption)]) | (rw [fidx_none (d := ByteArray.empty) (fun j hj => hn j (by omega))]), rfl⟩))
theorem filt_all {α : Type} {p : α → Bool} {d : α} {xs : List α} (h : fidx p xs = -1) : xs.filter (fun x => !p x) = xs := by
  apply List.filter_eq_self.2
  intro x hx
  have := fidx_any p xs
  rw [h] at this
  have h2 : xs.any p = false := this.symm.trans (by decide)
  rw [List.any_eq_false] at h2
  simpa using h2 x hx
theorem take_succ_getD {α : Type} {xs : List α} {q : Nat} {d : α} (h : q < xs.length) : xs.take (q + 1) = xs.take q ++ [xs.getD q d] := by
  rw [List.take_succ_eq_append_getElem h]
  simp [h]
theorem filt_start {α : Type} {p : α → Bool} {d : α} {xs : List α} (h : 0 ≤ fidx p xs) : (xs.take ((fidx p xs).toNat + 1)).filter (fun x => !p x) = xs.take (fidx p xs).toNat := by
  obtain ⟨h1, h2, h3⟩ := fidx_at (d := d) h
  rw [take_succ_getD (d := d) h1, List.filter_append, List.filter_cons, h2]
  simp only [Bool.not_true, Bool.false_eq_true, if_false, List.filter_nil, List.append_nil]
  apply List.filter_eq_self.2
  intro x hx
  obtain ⟨j, hj, rfl⟩ := List.mem_iff_getElem.1 hx
  have hj' : j < (fidx p xs).toNat ∧ j < xs.length := by simp at hj; omega
  have := h3 j hj'.1
  rw [List.getD_eq_getElem?_getD, List.getElem?_eq_getElem hj'.2] at this
  simpa using this
theorem filt_yes {α : Type} {p : α → Bool} {d : α} {xs : List α} {q : Nat} (hq : q < xs.length) (h : p (xs.getD q d) = false) : (xs.take (q + 1)).filter (fun x => !p x) = (xs.take q).filter (fun x => !p x) ++ [xs.getD q d] := by
  rw [take_succ_getD (d := d) hq, List.filter_append, List.filter_cons, h]
  rfl
theorem filt_no {α : Type} {p : α → Bool} {d : α} {xs : List α} {q : Nat} (hq : q < xs.length) (h : p (xs.getD q d) = true) : (xs.take (q + 1)).filter (fun x => !p x) = (xs.take q).filter (fun x => !p x) := by
  rw [take_succ_getD (d := d) hq, List.filter_append, List.filter_cons, h]
  simp
theorem take_set_snoc {α : Type} {b : List α} {i : Nat} {x : α} (h : i < b.length) : (b.set i x).take (i + 1) = b.take i ++ [x] := by
  rw [List.take_succ_eq_append_getElem (by rw [List.length_set]; exact h), List.take_set_of_le (Nat.le_refl _)]
  simp
theorem getD_set_ne {α : Type} {b : List α} {i k : Nat} {x d : α} (h : i ≠ k) : (b.set i x).getD k d = b.getD k d := by
  simp only [List.getD_eq_getElem?_getD, List.getElem?_set, if_neg h]
set_option maxRecDepth 100000 in
theorem slices_DeleteFunc_str {xs : List ByteArray} {u : Value} {ty : TypeId} {F : FuncId} {caps : Array Value} {hpC : List Ent} {p : ByteArray → Bool} (hl : xs.length ≤ 1000000000) (hcall : ∀ us w, (callFunc F us).run Tryd.prog w = .ok (.enter F us) w) (hF : ∀ x, SpecH Tryd.prog F ([avS x] ++ caps.toList.map .v) hpC (fun y hp' => y = avB (p x) ∧ hp' = hpC)) :
    SpecH Tryd.prog 51 [.v u, .v (.func (.func F) #[] caps)] (.row u xs.length 1 (strsL xs) ty :: hpC) (fun y hp' => ∃ u', y = .v u' ∧ hp' = .row u' (xs.filter fun x => !p x).length 1 (strsL (xs.filter fun x => !p x)) ty :: hpC) := by
  refine SpecH.of_VC Tryd.func51 rfl Tryd.ntmps51 (Nat.le_of_ble_eq_true rfl) fun w A hB => ?_
  have hnew : True := trivial
  refine VC.seq ?_
  refine VC.region ?_
  refine VO.val rfl rfl (OpV.move (.inr rfl) rfl) ?_
  refine VO.nil ?_
  show VC _ _ _ _ _
  refine VC.seq ?_
  refine VC.region ?_
  refine VO.val rfl rfl (OpV.move (.inl rfl) rfl) ?_
  refine VO.val rfl rfl (OpV.move (.inl rfl) rfl) ?_
  refine VO.op rfl (OpE.callH0 rfl hB rfl Tryd.call70 rfl rfl (slices_IndexFuncO_str hl hcall hF) (List.Perm.refl _) (fun _ _ => trivial) ?_)
  rintro _ _ ⟨rfl, rfl⟩
  refine VO.val rfl rfl (OpV.move (.inr rfl) rfl) ?_
  refine VO.nil ?_
  show VC _ _ _ _ _
  refine VC.seq ?_
  refine VC.seq ?_
  refine VC.region ?_
  refine VO.val rfl rfl (OpV.move (.inl rfl) rfl) ?_
  refine VO.val rfl rfl (OpV.eql rfl rfl rfl) ?_
  refine VO.nil ?_
  show VC _ _ _ _ _
  refine VC.cond rfl (fun h0b => ?_) (fun h0b => ?_)
  · have h0 := h0b
    try simp only [decide_eq_true_eq, decide_eq_false_iff_not, Bool.not_eq_true', Bool.not_eq_false', Int.not_lt, Int.not_le] at h0
    refine VC.seq ?_
    refine VC.region ?_
    refine VO.val rfl rfl (OpV.move (.inl rfl) rfl) ?_
    refine VO.val rfl rfl (OpV.move (.inr rfl) rfl) ?_
    refine VO.nil ?_
    show VC _ _ _ _ _
    refine VC.ret ?_
    exact Exists.intro _ (And.intro (RetV.one Tryd.results51 (ResV.tmp rfl)) (⟨_, rfl, by rw [filt_all (d := ByteArray.empty) h0]; rfl⟩))
  · have h0 := h0b
    try simp only [decide_eq_true_eq, decide_eq_false_iff_not, Bool.not_eq_true', Bool.not_eq_false', Int.not_lt, Int.not_le] at h0
    have hge := fidx_ge p xs
    obtain ⟨k1, k2, k3⟩ := fidx_at (d := ByteArray.empty) (p := p) (xs := xs) (by omega)
    obtain ⟨i0, hi0⟩ : ∃ i0 : Nat, fidx p xs = i0 := ⟨(fidx p xs).toNat, by omega⟩
    have hst := filt_start (d := ByteArray.empty) (p := p) (xs := xs) (by omega)
    rw [hi0] at k1 k2 k3 hst ⊢
    simp only [Int.toNat_natCast] at k1 k2 k3 hst
    refine VC.asBox (i := 0) rfl (by omega) (fun g cap hu hcap hmx => ?_)
    subst hu
    refine VC.skip ?_
    show VC _ _ _ _ _
    refine VC.seq ?_
    refine VC.seq ?_
    refine VC.region ?_
    refine VO.val rfl rfl (OpV.move (.inl rfl) rfl) ?_
    refine VO.val rfl rfl (OpV.add rfl rfl rfl (by unfold fits; omega)) ?_
    refine VO.val rfl rfl (OpV.move (.inr rfl) rfl) ?_
    refine VO.nil ?_
    show VC _ _ _ _ _
    refine VC.block ?_
    refine VC.loopK [(0, _), (1, _)] ⟨rfl, rfl, trivial⟩ ({t : Nat × Nat × List ByteArray // t.2.1 ≤ xs.length ∧ t.1 < t.2.1 ∧ t.2.2.length = xs.length ∧ t.2.2.take t.1 = (xs.take t.2.1).filter (fun x => !p x) ∧ ∀ k, t.2.1 ≤ k → t.2.2.getD k ByteArray.empty = xs.getD k ByteArray.empty}) (fun (i : {t : Nat × Nat × List ByteArray // t.2.1 ≤ xs.length ∧ t.1 < t.2.1 ∧ t.2.2.length = xs.length ∧ t.2.2.take t.1 = (xs.take t.2.1).filter (fun x => !p x) ∧ ∀ k, t.2.1 ≤ k → t.2.2.getD k ByteArray.empty = xs.getD k ByteArray.empty}) => match i with | ⟨⟨i, j, b⟩, hj, hij, hbl, hbt, hbr⟩ => [(5, avI (i : Int)), (6, avI (j : Int))]) (fun (i : {t : Nat × Nat × List ByteArray // t.2.1 ≤ xs.length ∧ t.1 < t.2.1 ∧ t.2.2.length = xs.length ∧ t.2.2.take t.1 = (xs.take t.2.1).filter (fun x => !p x) ∧ ∀ k, t.2.1 ≤ k → t.2.2.getD k ByteArray.empty = xs.getD k ByteArray.empty}) => match i with | ⟨⟨i, j, b⟩, hj, hij, hbl, hbt, hbr⟩ => (.box g ⟨strsL b, ty, cap * 1⟩ :: hpC)) (fun (i : {t : Nat × Nat × List ByteArray // t.2.1 ≤ xs.length ∧ t.1 < t.2.1 ∧ t.2.2.length = xs.length ∧ t.2.2.take t.1 = (xs.take t.2.1).filter (fun x => !p x) ∧ ∀ k, t.2.1 ≤ k → t.2.2.getD k ByteArray.empty = xs.getD k ByteArray.empty}) => match i with | ⟨⟨i, j, b⟩, hj, hij, hbl, hbt, hbr⟩ => 0) (fun (i : {t : Nat × Nat × List ByteArray // t.2.1 ≤ xs.length ∧ t.1 < t.2.1 ∧ t.2.2.length = xs.length ∧ t.2.2.take t.1 = (xs.take t.2.1).filter (fun x => !p x) ∧ ∀ k, t.2.1 ≤ k → t.2.2.getD k ByteArray.empty = xs.getD k ByteArray.empty}) => match i with | ⟨⟨i, j, b⟩, hj, hij, hbl, hbt, hbr⟩ => xs.length - j) ⟨(i0, i0 + 1, xs), k1, by show i0 < i0 + 1; omega, rfl, hst.symm, fun k _ => rfl⟩ (Le.mkP hB ⟨rfl, rfl, rfl, rfl, trivial⟩ (List.Sublist.refl _) (List.Perm.refl _) (Nat.le_refl _)) ?_
    rintro ⟨⟨i, j, b⟩, hj, hij, hbl, hbt, hbr⟩
    show VC _ _ _ _ ⟨[(5, avI (i : Int)), (6, avI (j : Int))] ++ [(0, _), (1, _)], (.box g ⟨strsL b, ty, cap * 1⟩ :: hpC), 0⟩
    simp only at hj hij hbl hbt hbr
    refine VC.seq ?_
    refine VC.seq ?_
    refine VC.region ?_
    refine VO.val rfl rfl (OpV.move (.inl rfl) rfl) ?_
    refine VO.val rfl rfl (OpV.move (.inl rfl) rfl) ?_
    first
      | refine VO.val rfl rfl (OpV.len_im rfl Tryd.underlying27 rfl) ?_
      | refine VO.val rfl rfl (OpV.len_v rfl Tryd.underlying27 rfl) ?_
      | refine VO.val rfl rfl (OpV.len_row (i := 0) rfl Tryd.underlying27 rfl rfl) ?_
    refine VO.val rfl rfl (OpV.lss rfl rfl rfl) ?_
    refine VO.nil ?_
    show VC _ _ _ _ _
    refine VC.cond rfl (fun aH1b => ?_) (fun aH1b => ?_)
    · have aH1 := aH1b
      try simp only [decide_eq_true_eq, decide_eq_false_iff_not, Bool.not_eq_true', Bool.not_eq_false', Int.not_lt, Int.not_le] at aH1
      refine VC.skip ?_
      show VC _ _ _ _ _
      refine VC.seq ?_
      refine VC.block ?_
      refine VC.seq ?_
      refine VC.region ?_
      refine VO.val rfl rfl (OpV.move (.inl rfl) rfl) ?_
      refine VO.val rfl rfl (OpV.move (.inl rfl) rfl) ?_
      first
        | refine VO.val rfl rfl (OpV.indexAddr_1 rfl Tryd.underlying27 Tryd.sizeOf9 rfl rfl rfl (by omega)) ?_
        | refine VO.val rfl rfl (OpV.indexAddr_1 rfl Tryd.underlying27 Tryd.sizeOf9 rfl rfl (Int.toNat_of_nonneg (by omega)).symm (by omega)) ?_
        | refine VO.val rfl rfl (OpV.indexAddr_o rfl Tryd.underlying27 Tryd.sizeOf9 rfl rfl rfl (by omega)) ?_
        | refine VO.val rfl rfl (OpV.indexAddr_o rfl Tryd.underlying27 Tryd.sizeOf9 rfl rfl (Int.toNat_of_nonneg (by omega)).symm (by omega)) ?_
        | refine VO.val rfl rfl (OpV.indexAddr_q rfl Tryd.underlying27 Tryd.sizeOf9 rfl rfl rfl (by omega)) ?_
        | refine VO.val rfl rfl (OpV.indexAddr_q rfl Tryd.underlying27 Tryd.sizeOf9 rfl rfl (Int.toNat_of_nonneg (by omega)).symm (by omega)) ?_
        | refine VO.val rfl rfl (OpV.indexAddr_im rfl Tryd.underlying27 Tryd.sizeOf9 rfl rfl (by omega) (by omega)) ?_
      first
        | refine VO.val rfl rfl (OpV.load_at rfl hB OutW.no Tryd.isAgg9 rfl rfl) ?_
        | refine VO.val rfl rfl (OpV.load_own (i := 0) rfl hB Tryd.isAgg9 rfl rfl (strsL_get (by omega)) (fun h => h)) ?_
      refine VO.val rfl rfl (OpV.move (.inr rfl) rfl) ?_
      refine VO.nil ?_
      show VC _ _ _ _ _
      refine VC.seq ?_
      refine VC.region ?_
      refine VO.val rfl rfl (OpV.move (.inl rfl) rfl) ?_
      refine VO.val rfl rfl (OpV.move (.inl rfl) rfl) ?_
      refine VO.op rfl (OpE.callH (rest := [_]) rfl hB rfl hcall rfl rfl (hF _) (List.perm_append_comm (l₁ := [_])) (fun _ _ => trivial) ?_)
      rintro _ _ ⟨rfl, rfl⟩
      refine VO.le _ (Le.front rfl) ?_
      refine VO.val rfl rfl (OpV.not rfl rfl) ?_
      refine VO.nil ?_
      show VC _ _ _ _ _
      refine VC.cond rfl (fun h2b => ?_) (fun h2b => ?_)
      · have h2 := h2b
        try simp only [decide_eq_true_eq, decide_eq_false_iff_not, Bool.not_eq_true', Bool.not_eq_false', Int.not_lt, Int.not_le] at h2
        refine VC.seq ?_
        refine VC.region ?_
        refine VO.val rfl rfl (OpV.move (.inl rfl) rfl) ?_
        refine VO.val rfl rfl (OpV.move (.inl rfl) rfl) ?_
        refine VO.val rfl rfl (OpV.move (.inl rfl) rfl) ?_
        first
          | refine VO.val rfl rfl (OpV.indexAddr_1 rfl Tryd.underlying27 Tryd.sizeOf9 rfl rfl rfl (by omega)) ?_
          | refine VO.val rfl rfl (OpV.indexAddr_1 rfl Tryd.underlying27 Tryd.sizeOf9 rfl rfl (Int.toNat_of_nonneg (by omega)).symm (by omega)) ?_
          | refine VO.val rfl rfl (OpV.indexAddr_o rfl Tryd.underlying27 Tryd.sizeOf9 rfl rfl rfl (by omega)) ?_
          | refine VO.val rfl rfl (OpV.indexAddr_o rfl Tryd.underlying27 Tryd.sizeOf9 rfl rfl (Int.toNat_of_nonneg (by omega)).symm (by omega)) ?_
          | refine VO.val rfl rfl (OpV.indexAddr_q rfl Tryd.underlying27 Tryd.sizeOf9 rfl rfl rfl (by omega)) ?_
          | refine VO.val rfl rfl (OpV.indexAddr_q rfl Tryd.underlying27 Tryd.sizeOf9 rfl rfl (Int.toNat_of_nonneg (by omega)).symm (by omega)) ?_
          | refine VO.val rfl rfl (OpV.indexAddr_im rfl Tryd.underlying27 Tryd.sizeOf9 rfl rfl (by omega) (by omega)) ?_
        refine VO.op rfl (OpE.store1 (i := 0) rfl hB rfl Tryd.sizeOf9 rfl rfl rfl rfl rfl rfl (by rw [strsL_len]; omega) (strsL_set _ _ _) trivial ?_)
        refine VO.nil ?_
        show VC _ _ _ _ _
        refine VC.region ?_
        refine VO.val rfl rfl (OpV.move (.inl rfl) rfl) ?_
        refine VO.val rfl rfl (OpV.add rfl rfl rfl (by unfold fits; omega)) ?_
        refine VO.val rfl rfl (OpV.move (.inr rfl) rfl) ?_
        refine VO.nil ?_
        show VC _ _ _ _ _
        refine VC.region ?_
        refine VO.val rfl rfl (OpV.move (.inl rfl) rfl) ?_
        refine VO.val rfl rfl (OpV.add rfl rfl rfl (by unfold fits; omega)) ?_
        refine VO.val rfl rfl (OpV.move (.inr rfl) rfl) ?_
        refine VO.nil ?_
        first
          | exact Exists.intro (⟨(i + 1, j + 1, b.set i (b.getD j ByteArray.empty)), by show j + 1 ≤ _; omega, by show i + 1 < j + 1; omega, by show (b.set _ _).length = _; rw [List.length_set]; exact hbl, by show (b.set i _).take (i + 1) = _; rw [take_set_snoc (by omega), hbt, hbr j (Nat.le_refl _)]; exact (filt_yes (by omega) (by rw [← hbr j (Nat.le_refl _)]; first | assumption | simpa using h2)).symm, fun k hk => by show (b.set i _).getD k _ = _; rw [getD_set_ne (by have : j + 1 ≤ k := hk; omega)]; exact hbr k (by have : j + 1 ≤ k := hk; omega)⟩) (And.intro (Le.mkP hB ⟨rfl, rfl, rfl, rfl, trivial⟩ (List.Sublist.refl _) (List.Perm.refl _) (Nat.le_refl _)) (by first | omega | (show _ < _; omega) | (simp only []; omega)))
          | exact Exists.intro (⟨(i, j + 1, b), by show j + 1 ≤ _; omega, by show i < j + 1; omega, hbl, by show b.take i = _; rw [hbt]; exact (filt_no (by omega) (by rw [← hbr j (Nat.le_refl _)]; first | assumption | simpa using h2)).symm, fun k hk => hbr k (by have : j + 1 ≤ k := hk; omega)⟩) (And.intro (Le.mkP hB ⟨rfl, rfl, rfl, rfl, trivial⟩ (List.Sublist.refl _) (List.Perm.refl _) (Nat.le_refl _)) (by first | omega | (show _ < _; omega) | (simp only []; omega)))
      · have h2 := h2b
        try simp only [decide_eq_true_eq, decide_eq_false_iff_not, Bool.not_eq_true', Bool.not_eq_false', Int.not_lt, Int.not_le] at h2
        refine VC.skip ?_
        show VC _ _ _ _ _
        refine VC.region ?_
        refine VO.val rfl rfl (OpV.move (.inl rfl) rfl) ?_
        refine VO.val rfl rfl (OpV.add rfl rfl rfl (by unfold fits; omega)) ?_
        refine VO.val rfl rfl (OpV.move (.inr rfl) rfl) ?_
        refine VO.nil ?_
        first
          | exact Exists.intro (⟨(i + 1, j + 1, b.set i (b.getD j ByteArray.empty)), by show j + 1 ≤ _; omega, by show i + 1 < j + 1; omega, by show (b.set _ _).length = _; rw [List.length_set]; exact hbl, by show (b.set i _).take (i + 1) = _; rw [take_set_snoc (by omega), hbt, hbr j (Nat.le_refl _)]; exact (filt_yes (by omega) (by rw [← hbr j (Nat.le_refl _)]; first | assumption | simpa using h2)).symm, fun k hk => by show (b.set i _).getD k _ = _; rw [getD_set_ne (by have : j + 1 ≤ k := hk; omega)]; exact hbr k (by have : j + 1 ≤ k := hk; omega)⟩) (And.intro (Le.mkP hB ⟨rfl, rfl, rfl, rfl, trivial⟩ (List.Sublist.refl _) (List.Perm.refl _) (Nat.le_refl _)) (by first | omega | (show _ < _; omega) | (simp only []; omega)))
          | exact Exists.intro (⟨(i, j + 1, b), by show j + 1 ≤ _; omega, by show i < j + 1; omega, hbl, by show b.take i = _; rw [hbt]; exact (filt_no (by omega) (by rw [← hbr j (Nat.le_refl _)]; first | assumption | simpa using h2)).symm, fun k hk => hbr k (by have : j + 1 ≤ k := hk; omega)⟩) (And.intro (Le.mkP hB ⟨rfl, rfl, rfl, rfl, trivial⟩ (List.Sublist.refl _) (List.Perm.refl _) (Nat.le_refl _)) (by first | omega | (show _ < _; omega) | (simp only []; omega)))
    · have aH1 := aH1b
      try simp only [decide_eq_true_eq, decide_eq_false_iff_not, Bool.not_eq_true', Bool.not_eq_false', Int.not_lt, Int.not_le] at aH1
      refine VC.exit ?_
      show VC _ _ _ _ _
      refine VC.seq ?_
      refine VC.region ?_
      refine VO.val rfl rfl (OpV.move (.inl rfl) rfl) ?_
      refine VO.val rfl rfl (OpV.move (.inl rfl) rfl) ?_
      first
        | refine VO.val rfl rfl (OpV.slice_ints rfl Tryd.underlying27 Tryd.sizeOf9 rfl ⟨_, _, rfl, rfl⟩ rfl (by omega) (by omega)) ?_
        | refine VO.val rfl rfl (OpV.slice_strs rfl Tryd.underlying27 Tryd.sizeOf9 rfl ⟨_, _, rfl, rfl⟩ rfl (by omega) (by omega)) ?_
        | refine VO.val rfl rfl (OpV.slice_M rfl Tryd.underlying27 Tryd.sizeOf9 rfl ⟨_, _, rfl, rfl⟩ rfl (by omega) (by omega)) ?_
        | refine VO.val rfl rfl (OpV.slice_L rfl Tryd.underlying27 Tryd.sizeOf9 rfl ⟨_, _, rfl, rfl⟩ rfl (by omega) (by omega)) ?_
        | refine VO.val rfl rfl (OpV.slice_im rfl Tryd.underlying27 Tryd.sizeOf9 rfl ⟨_, _, rfl, rfl⟩ rfl (by omega) (by omega)) ?_
        | refine VO.val rfl rfl (OpV.slice_own rfl Tryd.underlying27 Tryd.sizeOf9 rfl ⟨_, _, rfl, rfl⟩ rfl (by omega) (by omega) (by omega)) ?_
      refine VO.op rfl (OpE.clear (i := 0) rfl hB rfl Tryd.underlying27 Tryd.zeroValue9 rfl (by decide) rfl rfl (by show 0 + i * 1 + (xs.length - i) * 1 ≤ (strsL b).length; rw [strsL_len]; omega) trivial ?_)
      refine VO.nil ?_
      show VC _ _ _ _ _
      refine VC.seq ?_
      refine VC.region ?_
      refine VO.val rfl rfl (OpV.move (.inl rfl) rfl) ?_
      refine VO.val rfl rfl (OpV.move (.inl rfl) rfl) ?_
      first
        | refine VO.val rfl rfl (OpV.slice_ints rfl Tryd.underlying27 Tryd.sizeOf9 rfl rfl ⟨_, _, rfl, rfl⟩ (by omega) (by omega)) ?_
        | refine VO.val rfl rfl (OpV.slice_strs rfl Tryd.underlying27 Tryd.sizeOf9 rfl rfl ⟨_, _, rfl, rfl⟩ (by omega) (by omega)) ?_
        | refine VO.val rfl rfl (OpV.slice_M rfl Tryd.underlying27 Tryd.sizeOf9 rfl rfl ⟨_, _, rfl, rfl⟩ (by omega) (by omega)) ?_
        | refine VO.val rfl rfl (OpV.slice_L rfl Tryd.underlying27 Tryd.sizeOf9 rfl rfl ⟨_, _, rfl, rfl⟩ (by omega) (by omega)) ?_
        | refine VO.val rfl rfl (OpV.slice_im rfl Tryd.underlying27 Tryd.sizeOf9 rfl rfl ⟨_, _, rfl, rfl⟩ (by omega) (by omega)) ?_
        | refine VO.val rfl rfl (OpV.slice_own rfl Tryd.underlying27 Tryd.sizeOf9 rfl rfl ⟨_, _, rfl, rfl⟩ (by omega) (by omega) (by omega)) ?_
      refine VO.val rfl rfl (OpV.move (.inr rfl) rfl) ?_
      refine VO.nil ?_
      show VC _ _ _ _ _
      have e1 : (strsL b).take (0 + i * 1) = strsL ((xs.filter fun x => !p x)) := by
        rw [show 0 + i * 1 = i by omega, strsL, ← List.map_take, hbt, List.take_of_length_le (by omega)]; rfl
      have e2 : i = (xs.filter fun x => !p x).length := by
        have := congrArg List.length hbt
        rw [List.take_of_length_le (l := xs) (by omega), List.length_take] at this
        omega
      refine VC.le _ (Le.boxRow (i := 0) (n := i) (sz := 1) (cap := cap) rfl (by simp [strsL_len]; omega) (by omega) hmx) ?_
      refine VC.ret ?_
      exact Exists.intro _ (And.intro (RetV.one Tryd.results51 (ResV.tmp rfl)) (⟨_, rfl, by show [_] ++ _ = [_] ++ _; congr 2; first | (rw [e1, ← e2]; rfl) | skip⟩))
end Go.Proofs.YtpajnlcikmhpdaaDoor
