/- Part 1 of a proof: the walks and laws that it needs. -/
import Derived.Test.YtplphabekhaoaaaGreatDoorZC4
namespace Go.Proofs.YtplphabekhaoaaaGreatDoor
set_option linter.unusedVariables false
set_option linter.unusedSimpArgs false

def sumL : List Int → Int
 | [] => 0
 | x :: l => x + sumL l
theorem sumL_append (a b : List Int) : sumL (a ++ b) = sumL a + sumL b := by
 induction a with
 | nil => simp [sumL]
 | cons x l ih => simp [sumL, ih]; omega

def srch (st : List Int → List Int → List Int) (m : Nat) : Nat → List Int → List Int → List Int
 | 0, p, be => st be p
 | r + 1, p, be => (List.range (m + 1)).foldl (fun be (x : Nat) => srch st m r (p ++ [(x : Int)]) be) be

def stpP (E : List Int → Bool) (be p : List Int) : List Int := if ¬ (sumL be ≤ sumL p) ∧ E p = true then p else be
theorem srch_prune (E : List Int → Bool) (m : Nat) : ∀ r p be, sumL be ≤ sumL p → srch (stpP E) m r p be = be := by
 intro r
 induction r with
 | zero => intro p be h; simp [srch, stpP, h]
 | succ r ih =>
  intro p be h
  have : ∀ j, (List.range j).foldl (fun be (x : Nat) => srch (stpP E) m r (p ++ [(x : Int)]) be) be = be := by
   intro j
   induction j with
   | zero => rfl
   | succ j ihj =>
    rw [List.range_succ, List.foldl_append, ihj]
    exact ih _ _ (by rw [sumL_append]; simp [sumL]; omega)
  exact this _

theorem sumL_le (m : Int) : ∀ p : List Int, (∀ x ∈ p, x ≤ m) → sumL p ≤ p.length * m := by
 intro p
 induction p with
 | nil => simp [sumL]
 | cons x l ih =>
  intro h
  have h1 := ih fun y hy => h y (by simp [hy])
  have h2 := h x (by simp)
  simp only [sumL, List.length_cons]
  have : ((l.length + 1 : Nat) : Int) * m = l.length * m + m := by rw [Int.natCast_add, Int.add_mul]; simp
  omega
theorem sumL_rep (m : Int) (k : Nat) : sumL (List.replicate k m) = k * m := by
 induction k with
 | zero => simp [sumL]
 | succ k ih =>
  rw [List.replicate_succ, sumL, ih, Int.natCast_add, Int.add_mul]; simp; omega
end Go.Proofs.YtplphabekhaoaaaGreatDoor
namespace Go.Proofs.YtplphabekhaoaaaGreatDoor
set_option linter.unusedVariables false
set_option linter.unusedSimpArgs false

theorem foldl_keep {α β : Type} (P : β → Prop) (f : β → α → β) (h : ∀ b a, P b → P (f b a)) : ∀ (l : List α) (b : β), P b → P (l.foldl f b) := by
 intro l
 induction l with
 | nil => intro b hb; exact hb
 | cons a l ih => intro b hb; exact ih _ (h b a hb)

theorem srch_E (E : List Int → Bool) (m : Nat) : ∀ r p be, E be = true → E (srch (stpP E) m r p be) = true := by
 intro r
 induction r with
 | zero =>
  intro p be h
  simp only [srch, stpP]
  split
  ·rename_i h2; exact h2.2
  ·exact h
 | succ r ih =>
  intro p be h
  simp only [srch]
  exact foldl_keep (fun b => E b = true) _ (fun b a hb => ih _ _ hb) _ _ h

theorem srch_le (E : List Int → Bool) (m : Nat) : ∀ r p be, sumL (srch (stpP E) m r p be) ≤ sumL be := by
 intro r
 induction r with
 | zero =>
  intro p be
  simp only [srch, stpP]
  split
  ·rename_i h2; omega
  ·omega
 | succ r ih =>
  intro p be
  simp only [srch]
  exact foldl_keep (fun b => sumL b ≤ sumL be) _ (fun b a hb => Int.le_trans (ih _ _) hb) _ _ (Int.le_refl _)

theorem foldl_hit {α β : Type} (P : β → Prop) (f : β → α → β) (h : ∀ b a, P b → P (f b a)) (x : α) (hx : ∀ b, P (f b x)) : ∀ (l : List α) (b : β), x ∈ l → P (l.foldl f b) := by
 intro l
 induction l with
 | nil => intro b hb; simp at hb
 | cons a l ih =>
  intro b hb
  rcases List.mem_cons.1 hb with rfl | hb
  ·exact foldl_keep P f h l _ (hx b)
  ·exact ih _ hb

theorem srch_least (E : List Int → Bool) (m : Nat) : ∀ r p be q, q.length = r → (∀ x ∈ q, 0 ≤ x ∧ x ≤ (m : Int)) → E (p ++ q) = true → sumL (srch (stpP E) m r p be) ≤ sumL (p ++ q) := by
 intro r
 induction r with
 | zero =>
  intro p be q hq hx hE
  obtain rfl : q = [] := List.eq_nil_of_length_eq_zero hq
  simp only [List.append_nil] at hE ⊢
  simp only [srch, stpP]
  split
  ·omega
  ·rename_i h2
   simp only [hE, and_true] at h2
   omega
 | succ r ih =>
  intro p be q hq hx hE
  obtain ⟨y, t, rfl⟩ : ∃ y t, q = y :: t := by
   cases q with
   | nil => simp at hq
   | cons y t => exact ⟨y, t, rfl⟩
  have hy := hx y (by simp)
  obtain ⟨j, rfl⟩ : ∃ j : Nat, y = j := ⟨y.toNat, by omega⟩
  simp only [srch]
  refine foldl_hit (fun b => sumL b ≤ sumL (p ++ (j : Int) :: t)) _ (fun b a hb => Int.le_trans (srch_le E m r _ _) hb) j (fun b => ?_) _ _ (by simp; omega)
  have := ih (p ++ [(j : Int)]) b t (by simpa using hq) (fun x h => hx x (by simp [h])) (by simpa using hE)
  simpa using this

theorem sumL_set (l : List Int) (i : Nat) (hi : i < l.length) (x : Int) : sumL (l.set i x) = sumL l - l[i] + x := by
 induction l generalizing i with
 | nil => simp at hi
 | cons y l ih =>
  cases i with
  | zero => simp [sumL]; omega
  | succ i =>
   have := ih i (by simpa using hi)
   simp only [List.set_cons_succ, sumL, List.getElem_cons_succ]
   omega

theorem srch_tight (E : List Int → Bool) (m k : Nat) (full : List Int) (b : List Int) (hb : b = srch (stpP E) m k [] full) (hl : b.length = k) (hx : ∀ x ∈ b, 0 ≤ x ∧ x ≤ (m : Int)) (i : Nat) (hi : i < b.length) (hp : 0 < b[i]) :
  E (b.set i (b[i] - 1)) = false := by
 cases hE : E (b.set i (b[i] - 1)) with
 | false => rfl
 | true =>
  have h := srch_least E m k [] full (b.set i (b[i] - 1)) (by simpa using hl) (fun x h => by
   rcases List.mem_or_eq_of_mem_set h with h | h
   ·exact hx x h
   ·have := hx b[i] (List.getElem_mem _); omega) (by simpa using hE)
  rw [← hb, List.nil_append, sumL_set b i hi] at h
  omega
end Go.Proofs.YtplphabekhaoaaaGreatDoor
namespace Go.Proofs.YtplphabekhaoaaaGreatDoor
open Go.RowKit
set_option linter.unusedVariables false
set_option linter.unusedSimpArgs false

theorem sumL_bd (m : Int) (hm : 0 ≤ m) : ∀ p : List Int, (∀ x ∈ p, 0 ≤ x ∧ x ≤ m) → 0 ≤ sumL p ∧ sumL p ≤ p.length * m := by
 intro p h
 refine ⟨?_, sumL_le m p fun x hx => (h x hx).2⟩
 induction p with
 | nil => simp [sumL]
 | cons x l ih =>
  have h1 := ih fun y hy => h y (by simp [hy])
  have h2 := h x (by simp)
  simp only [sumL]; omega

theorem right_small {c bf : List Int} {b0 : List Int} {n : Int} (h : flowF c b0 n = 0) (hl : bf.length = b0.length) (hb : ∀ x ∈ bf, 0 ≤ x) : RightLine c bf := by
 obtain ⟨hr, _⟩ := flowF_right h
 refine ⟨hr.len, hr.pos, hr.c1, fun k => ?_, by rw [hl]; exact hr.bl⟩
 unfold at'
 by_cases hk : k < bf.length
 ·rw [List.getD_eq_getElem?_getD, List.getElem?_eq_getElem hk]; exact hb _ (List.getElem_mem hk)
 ·rw [List.getD_eq_getElem?_getD, List.getElem?_eq_none (by omega)]; simp

def enoughF (c : List Int) (n most : Int) : Int :=
 if cycF c ≠ 0 then cycF c else if outB 1 2000 n || outB 0 3 most then 1 else 0

def enoughL (c : List Int) (n : Nat) (m : Nat) : List Int :=
 srch (stpP fun l => endT c l n == endT c (List.replicate (c.length - 1) (m : Int)) n) m (c.length - 1) [] (List.replicate (c.length - 1) (m : Int))

def Good (n m : Nat) (l : List Int) : Prop := l.length = n ∧ ∀ x ∈ l, 0 ≤ x ∧ x ≤ (m : Int)

theorem srch_good {st : List Int → List Int → List Int} (hst : ∀ be p, st be p = be ∨ st be p = p) (n m : Nat) : ∀ r p be, p.length + r = n → (∀ x ∈ p, 0 ≤ x ∧ x ≤ (m : Int)) → Good n m be → Good n m (srch st m r p be) := by
 intro r
 induction r with
 | zero =>
  intro p be hp hm hb
  rcases hst be p with h | h
  ·simp only [srch]; rw [h]; exact hb
  ·simp only [srch]; rw [h]; exact ⟨by omega, hm⟩
 | succ r ih =>
  intro p be hp hm hb
  have : ∀ j, j ≤ m + 1 → Good n m ((List.range j).foldl (fun be (x : Nat) => srch st m r (p ++ [(x : Int)]) be) be) := by
   intro j
   induction j with
   | zero => intro _; exact hb
   | succ j ihj =>
    intro hj
    rw [List.range_succ, List.foldl_append]
    exact ih _ _ (by simp; omega) (fun x hx => by rcases List.mem_append.1 hx with h | h; exact hm x h; simp at h; omega) (ihj (by omega))
  exact this _ (Nat.le_refl _)
theorem stpP_or (E : List Int → Bool) (be p : List Int) : stpP E be p = be ∨ stpP E be p = p := by unfold stpP; split <;> simp
def srchTo (st : List Int → List Int → List Int) (m r : Nat) (p be : List Int) (j : Nat) : List Int := (List.range j).foldl (fun be (x : Nat) => srch st m r (p ++ [(x : Int)]) be) be
theorem srchTo_succ (st : List Int → List Int → List Int) (m r : Nat) (p be : List Int) (j : Nat) : srchTo st m r p be (j + 1) = srch st m r (p ++ [(j : Int)]) (srchTo st m r p be j) := by
 simp [srchTo, List.range_succ]

theorem srchTo_good {st : List Int → List Int → List Int} (hst : ∀ be p, st be p = be ∨ st be p = p) (n m r : Nat) (p be : List Int) (hp : p.length + (r + 1) = n) (hm : ∀ x ∈ p, 0 ≤ x ∧ x ≤ (m : Int)) (hb : Good n m be) :
  ∀ j, j ≤ m + 1 → Good n m (srchTo st m r p be j) := by
 intro j
 induction j with
 | zero => intro _; exact hb
 | succ j ihj =>
  intro hj
  rw [srchTo_succ]
  exact srch_good hst n m r _ _ (by simp; omega) (fun x hx => by rcases List.mem_append.1 hx with h | h; exact hm x h; simp at h; omega) (ihj (by omega))

def enoughR (c : List Int) (n most : Int) : List Int := if enoughF c n most = 0 then enoughL c n.toNat most.toNat else []

theorem cyc0_len {c : List Int} (h : cycF c = 0) : 0 < c.length ∧ c.length ≤ 6 := by
 unfold cycF at h
 split at h
 ·omega
 ·split at h
  ·omega
  ·omega

theorem flow_of {c : List Int} {n : Int} (h : cycF c = 0) (hn : outB 1 2000 n = false) : flowF c (List.replicate (c.length - 1) 0) n = 0 := by
 have := cyc0_len h
 unfold flowF
 rw [if_neg (by simp [h]), if_neg (by simp; omega), if_neg]
 unfold outB at hn ⊢
 simp at hn ⊢
 omega

end Go.Proofs.YtplphabekhaoaaaGreatDoor
namespace Go.Proofs.YtplphabekhaoaaaGreatDoor
open Go.RowKit
set_option linter.unusedVariables false
set_option linter.unusedSimpArgs false

abbrev enFn (gS gBf gC gBo gE gBe gM gT : Nat) : Value := .func (.func 138) #[] #[ptv gS, ptv gBf, ptv gC, ptv gBo, ptv gE, ptv gBe, ptv gM, ptv gT]
abbrev enH (gS gBf g gC gBo gE gBe gM gT : Nat) (c : List Int) (n m nb tot : Nat) (goal : Int) (b be : List Int) (ub : Value) : List Ent :=
  [.box gS ⟨[avI (sumL be)], 3, 1⟩, .box gBf ⟨[.v (.slice (some ⟨g, 0, none⟩) n n)], 22, 1⟩, .box g ⟨intsL b, 3, tot⟩, .box gC ⟨[avInts c], 22, 1⟩, .box gBo ⟨[avI nb], 3, 1⟩,
   .box gE ⟨[avI goal], 3, 1⟩, .box gBe ⟨[.v ub], 22, 1⟩, .row ub be.length 1 (intsL be) 3, .box gM ⟨[avI m], 3, 1⟩, .box gT ⟨[.v (enFn gS gBf gC gBo gE gBe gM gT)], 178, 1⟩]
abbrev enE (c : List Int) (nb : Nat) (goal : Int) (l : List Int) : Bool := endT c l nb == goal
abbrev enArgs (gS gBf gC gBo gE gBe gM gT : Nat) : List AV := [pt gS, pt gBf, pt gC, pt gBo, pt gE, pt gBe, pt gM, pt gT]
abbrev enG (gS gBf g gC gBo gE gBe gM gT : Nat) (c : List Int) (n m nb tot : Nat) (goal : Int) (b : List Int) (i : Nat) (be2 : List Int) (y : AV) (hp' : List Ent) : Prop :=
 y = .tup [] ∧ ∃ b' ub', Good n m b' ∧ b'.take i = b.take i ∧ hp' = enH gS gBf g gC gBo gE gBe gM gT c n m nb tot goal b' be2 ub'
theorem Good.set {n m i : Nat} {b : List Int} {x : Int} (h : Good n m b) (hx : 0 ≤ x ∧ x ≤ (m : Int)) : Good n m (b.set i x) :=
 ⟨by rw [List.length_set]; exact h.1, fun y hy => by rcases List.mem_or_eq_of_mem_set hy with h' | rfl; exact h.2 y h'; exact hx⟩
theorem Good.sum {n m : Nat} {b : List Int} (h : Good n m b) (i : Nat) : 0 ≤ sumL (b.take i) ∧ sumL (b.take i) ≤ n * m := by
 have hb := sumL_bd (m : Int) (by omega) (b.take i) (fun x hx => h.2 x (List.mem_of_mem_take hx))
 refine ⟨hb.1, Int.le_trans hb.2 ?_⟩
 have : (b.take i).length ≤ n := by rw [← h.1]; simp; omega
 exact Int.mul_le_mul_of_nonneg_right (by omega) (by omega)
theorem take_set_succ {b : List Int} {i : Nat} {x : Int} (h : i < b.length) : (b.set i x).take (i + 1) = b.take i ++ [x] := by
 rw [List.take_succ_eq_append_getElem (by rw [List.length_set]; exact h), List.getElem_set_self, List.take_set_of_le (Nat.le_refl _)]
set_option maxRecDepth 100000 in
theorem enTry {gS gBf g gC gBo gE gBe gM gT : Nat} {c b0 : List Int} {n m nb tot : Nat} {goal : Int} {i r : Nat} {b be : List Int} {ub : Value} {iv uv : Int} (hf : flowF c b0 nb = 0) (hb0 : b0.length = n) (hi : i + r = n) (hb : Good n m b) (hbe : Good n m be) (hn6 : n ≤ 6) (hm3 : m ≤ 3) (hiv : iv = i) (huv : uv = sumL (b.take i)) (hnb : 1 ≤ nb ∧ nb ≤ 2000) (ih : ∀ r', r = r' + 1 → ∀ b' be' ub' iv' uv', Good n m b' → Good n m be' → iv' = ((i + 1 : Nat) : Int) → uv' = sumL (b'.take (i + 1)) → SpecH Tryz.prog 138 ([avI iv', avI uv'] ++ enArgs gS gBf gC gBo gE gBe gM gT) (enH gS gBf g gC gBo gE gBe gM gT c n m nb tot goal b' be' ub') (enG gS gBf g gC gBo gE gBe gM gT c n m nb tot goal b' (i + 1) (srch (stpP (enE c nb goal)) m r' (b'.take (i + 1)) be'))) :
  SpecH Tryz.prog 138 [avI iv, avI uv, pt gS, pt gBf, pt gC, pt gBo, pt gE, pt gBe, pt gM, pt gT] (enH gS gBf g gC gBo gE gBe gM gT c n m nb tot goal b be ub) (enG gS gBf g gC gBo gE gBe gM gT c n m nb tot goal b i (srch (stpP (enE c nb goal)) m r (b.take i) be)) := by
 have hS := hb.sum i
 have hnm : ((n * m : Nat) : Int) ≤ 18 := by have := Nat.mul_le_mul hn6 hm3; omega
 have hS2 : sumL (b.take i) ≤ 18 := by have := hS.2; push_cast at hnm; omega
 have hbl := hb.1
 subst hiv
 subst huv
 refine SpecH.of_VC Tryz.func138 rfl Tryz.ntmps138 (Nle rfl) fun w A hB => ?_
 have hnew : True := trivial
 refine VC.seq ?_
 refine VC.sr ?_
 refine VO.mv rfl rfl rfl rfl ?_
 refine VO.val rfl rfl (OpV.load_own (i := 0) rfl hB Tryz.isAgg3 rfl rfl rfl (fun h => h)) ?_
 refine VO.val rfl rfl (OpV.geq rfl rfl rfl) ?_
 refine VO.nil ?_
 refine VC.cond rfl (fun h0b => ?_) (fun h0b => ?_)
 ·have h0 := h0b
  try simp only [qqT, qqF, qqN, qqM, qqL, qqE] at h0
  refine VC.ret ?_
  exact Exists.intro _ (And.intro (RetV.none Tryz.results138) (⟨rfl, b, ub, hb, rfl, by rw [srch_prune _ _ _ _ _ (by omega)]; rfl⟩))
 ·have h0 := h0b
  try simp only [qqT, qqF, qqN, qqM, qqL, qqE] at h0
  refine VC.skip ?_
  refine VC.seq ?_
  refine VC.sr ?_
  refine VO.mv rfl rfl rfl rfl ?_
  refine VO.val rfl rfl (OpV.load_own (i := 1) rfl hB Tryz.isAgg22 rfl rfl rfl (fun h => h)) ?_
  refine VO.val rfl rfl (OpV.len_v rfl Tryz.underlying22 rfl) ?_
  refine VO.val rfl rfl (OpV.eql rfl rfl rfl) ?_
  refine VO.nil ?_
  refine VC.cond rfl (fun h1b => ?_) (fun h1b => ?_)
  ·have h1 := h1b
   try simp only [qqT, qqF, qqN, qqM, qqL, qqE] at h1
   obtain rfl : i = n := by omega
   obtain rfl : r = 0 := by omega
   have hbt : b.take i = b := List.take_of_length_le (by omega)
   rw [hbt] at h0
   rw [hbt]
   refine VC.seq ?_
   refine VC.seq ?_
   refine VC.draw (fun _ => NoB) hB (by kernel_rfl) ?_
   refine VA.take (i := 0) rfl (by kernel_rfl) (by kernel_rfl) (by kernel_rfl) rfl rfl (OpV.load_own (i := 3) rfl hB Tryz.isAgg22 rfl rfl rfl Wi.not0) ?_
   refine VA.take (i := 1) rfl (by kernel_rfl) (by kernel_rfl) (by kernel_rfl) rfl rfl (OpV.load_own (i := 1) rfl hB Tryz.isAgg22 rfl rfl rfl Wi.not0) ?_
   refine VA.take (i := 2) rfl (by kernel_rfl) (by kernel_rfl) (by kernel_rfl) rfl rfl (OpV.load_own (i := 4) rfl hB Tryz.isAgg3 rfl rfl rfl Wi.not0) ?_
   refine VA.take (i := 4) rfl (by kernel_rfl) (by kernel_rfl) (by kernel_rfl) rfl rfl (OpV.load_own (i := 5) rfl hB Tryz.isAgg3 rfl rfl rfl Wi.not0) ?_
   refine VA.all (rs := [3]) (by kernel_rfl) (by decide) ?_
   refine ⟨⟨_, rfl, .inl rfl, ?_⟩, trivial⟩
   refine OpE.callL rfl hB rfl Tryz.call137 (line_end_S (right_small hf (by rw [hb0, hbl]) (fun x hx => (hb.2 x hx).1)) hnb.1 hnb.2) (ArgsP.cons (ArgP.ev rfl) (ArgsP.cons (ArgP.boxI (i := 2) rfl rfl (by rw [hbl]) (Nat.le_refl _) (capM (by omega))) (ArgsP.cons (ArgP.ev rfl) (ArgsP.nil)))) ?_
   rintro _ rfl
   refine VA.take (i := 5) rfl (by kernel_rfl) (by kernel_rfl) (by kernel_rfl) rfl rfl (OpV.eql rfl rfl rfl) ?_
   refine VA.done (by kernel_rfl) ?_
   refine VC.cond rfl (fun h2b => ?_) (fun h2b => ?_)
   ·have h2 := h2b
    try simp only [qqT, qqF, qqN, qqM, qqL, qqE] at h2
    refine VC.region ?_
    refine VO.val rfl rfl (OpV.load_own (i := 1) rfl hB Tryz.isAgg22 rfl rfl rfl (fun h => h)) ?_
    refine VO.op rfl (OpE.callR rfl hB rfl Tryz.call53 (slices_Clone_R (by omega)) (ArgsP.cons (ArgP.boxI (i := 2) rfl rfl (by rw [hbl]) (Nat.le_refl _) (capM (by omega))) (ArgsP.nil)) ?_)
    intro u3
    refine VO.rowIs (i := 10) rfl (fun b27 c27 hu27 => ?_)
    subst hu27
    refine VO.mv rfl rfl rfl rfl ?_
    refine VO.op rfl (OpE.store (i := 6) rfl hB rfl Tryz.sizeOf22 rfl rfl rfl rfl rfl rfl (Nle rfl) trivial ?_)
    refine VO.op rfl (OpE.store (i := 0) rfl hB rfl Tryz.sizeOf3 rfl rfl rfl rfl rfl rfl (Nle rfl) trivial ?_)
    refine VO.nil ?_
    refine VC.le ⟨[], enH gS gBf g gC gBo gE gBe gM gT c _ m nb tot goal b b (.slice b27 b.length c27), 0⟩ (Le.pick hB [0, 1, 2, 3, 4, 5, 6, 10, 8, 9] trivial rfl (by rfl) (Nat.le_refl _)) ?_
    refine VC.ret ?_
    exact Exists.intro _ (And.intro (RetV.none Tryz.results138) (⟨rfl, b, .slice b27 b.length c27, hb, rfl, by rw [srch, stpP, if_pos (by simp [enE, h2]; try omega)]⟩))
   ·have h2 := h2b
    try simp only [qqT, qqF, qqN, qqM, qqL, qqE] at h2
    refine VC.skip ?_
    refine VC.ret ?_
    exact Exists.intro _ (And.intro (RetV.none Tryz.results138) (⟨rfl, b, ub, hb, rfl, by rw [srch, stpP, if_neg (by simp [enE, h2])]; rfl⟩))
  ·have h1 := h1b
   try simp only [qqT, qqF, qqN, qqM, qqL, qqE] at h1
   obtain ⟨r', rfl⟩ : ∃ r', r = r' + 1 := ⟨r - 1, by omega⟩
   refine VC.skip ?_
   refine VC.sr ?_
   refine VO.val rfl rfl (OpV.load_own (i := 8) rfl hB Tryz.isAgg3 rfl rfl rfl (fun h => h)) ?_
   refine VO.val rfl rfl (OpV.add rfl rfl rfl (by unfold fits; omega)) ?_
   refine VO.mv rfl rfl rfl rfl ?_
   refine VO.nil ?_
   refine VC.block ?_
   refine VC.loopK [(0, _), (1, _), (3, _), (9, _), (30, _)] ⟨rfl, rfl, rfl, rfl, rfl, trivial⟩ ({t : Nat × List Int × Value // t.1 ≤ m + 1 ∧ Good n m t.2.1 ∧ t.2.1.take i = b.take i}) (fun (iZ : {t : Nat × List Int × Value // t.1 ≤ m + 1 ∧ Good n m t.2.1 ∧ t.2.1.take i = b.take i}) => match iZ with | ⟨⟨x, b', ub'⟩, hx, hb', hbt'⟩ => [(31, avI (x : Int))]) (fun (iZ : {t : Nat × List Int × Value // t.1 ≤ m + 1 ∧ Good n m t.2.1 ∧ t.2.1.take i = b.take i}) => match iZ with | ⟨⟨x, b', ub'⟩, hx, hb', hbt'⟩ => (enH gS gBf g gC gBo gE gBe gM gT c n m nb tot goal b' (srchTo (stpP (enE c nb goal)) m r' (b.take i) be x) ub')) (fun (iZ : {t : Nat × List Int × Value // t.1 ≤ m + 1 ∧ Good n m t.2.1 ∧ t.2.1.take i = b.take i}) => match iZ with | ⟨⟨x, b', ub'⟩, hx, hb', hbt'⟩ => 0) (fun (iZ : {t : Nat × List Int × Value // t.1 ≤ m + 1 ∧ Good n m t.2.1 ∧ t.2.1.take i = b.take i}) => match iZ with | ⟨⟨x, b', ub'⟩, hx, hb', hbt'⟩ => m + 1 - x) ⟨(0, b, ub), Nat.zero_le _, hb, rfl⟩ (Le.mkP hB ⟨rfl, rfl, rfl, rfl, rfl, rfl, trivial⟩ (List.Sublist.refl _) (List.Perm.refl _) (Nat.le_refl _)) ?_
   rintro ⟨⟨x, b', ub'⟩, hx, hb', hbt'⟩
   show VC _ _ _ _ ⟨[(31, avI (x : Int))] ++ [(0, _), (1, _), (3, _), (9, _), (30, _)], (enH gS gBf g gC gBo gE gBe gM gT c n m nb tot goal b' (srchTo (stpP (enE c nb goal)) m r' (b.take i) be x) ub'), 0⟩
   simp only at hx hb' hbt'
   have hbl' := hb'.1
   refine VC.sr ?_
   refine VO.val rfl rfl (OpV.lss rfl rfl rfl) ?_
   refine VO.nil ?_
   refine VC.seq ?_
   refine VC.cond rfl (fun aH1b => ?_) (fun aH1b => ?_)
   ·have aH1 := aH1b
    try simp only [qqT, qqF, qqN, qqM, qqL, qqE] at aH1
    refine VC.skip ?_
    refine VC.seq ?_
    refine VC.block ?_
    refine VC.sr ?_
    refine VO.mv rfl rfl rfl rfl ?_
    refine VO.ma rfl rfl rfl rfl ?_
    refine VO.nil ?_
    refine VC.sr ?_
    refine VO.val rfl rfl (OpV.load_own (i := 1) rfl hB Tryz.isAgg22 rfl rfl rfl (fun h => h)) ?_
    refine VO.mv rfl rfl rfl rfl ?_
    refine VO.mv rfl rfl rfl rfl ?_
    refine VO.val rfl rfl (OpV.indexAddr_o rfl Tryz.underlying22 Tryz.sizeOf3 rfl rfl rfl (by omega)) ?_
    refine VO.op rfl (OpE.store1 (i := 2) rfl hB rfl Tryz.sizeOf3 rfl rfl rfl rfl rfl rfl (by rw [intsL_len]; omega) (intsL_set _ _ _) trivial ?_)
    refine VO.nil ?_
    refine VC.region ?_
    refine VO.val rfl rfl (OpV.load_own (i := 9) rfl hB Tryz.isAgg178 rfl rfl rfl (fun h => h)) ?_
    refine VO.mv rfl rfl rfl rfl ?_
    refine VO.val rfl rfl (OpV.add rfl rfl rfl (by unfold fits; omega)) ?_
    refine VO.mv rfl rfl rfl rfl ?_
    refine VO.mv rfl rfl rfl rfl ?_
    refine VO.val rfl rfl (OpV.add rfl rfl rfl (by unfold fits; omega)) ?_
    refine VO.op rfl (OpE.callH (rest := []) rfl hB rfl Tryz.call138 rfl rfl (ih r' rfl (b'.set i (x : Int)) _ ub' _ _ (hb'.set ⟨by omega, by omega⟩) (srchTo_good (stpP_or _) n m r' (b.take i) be (by simp; omega) (fun y hy => hb.2 y (List.mem_of_mem_take hy)) hbe x (by omega)) (by push_cast; rfl) (by rw [take_set_succ (by rw [hb'.1]; omega), hbt', sumL_append]; simp [sumL])) (List.Perm.refl _) (fun _ _ => trivial) ?_)
    rintro _ _ ⟨rfl, b2, ub2, hb2, hbt2, rfl⟩
    refine VO.nil ?_
    refine VC.region ?_
    refine VO.val rfl rfl (OpV.add rfl rfl rfl (by unfold fits; omega)) ?_
    refine VO.mv rfl rfl rfl rfl ?_
    refine VO.nil ?_
    exact Exists.intro (⟨(x + 1, b2, ub2), by show _ ≤ _; omega, hb2, by show b2.take i = b.take i; have h := congrArg (List.take i) hbt2; rw [List.take_take, List.take_take, Nat.min_eq_left (by omega)] at h; rw [h, List.take_set_of_le (Nat.le_refl _)]; exact hbt'⟩) (And.intro (Le.mkP hB ⟨rfl, rfl, rfl, rfl, rfl, rfl, trivial⟩ (List.Sublist.refl _) (by first | exact List.Perm.refl _ | (dsimp only; rw [srchTo_succ, take_set_succ (by rw [hb'.1]; omega), hbt']; exact List.Perm.refl _)) (Nat.le_refl _)) (by first | omega | (show _ < _; omega) | (simp only []; omega)))
   ·have aH1 := aH1b
    try simp only [qqT, qqF, qqN, qqM, qqL, qqE] at aH1
    refine VC.exit ?_
    exact Exists.intro _ (And.intro (RetV.none Tryz.results138) (⟨rfl, b', ub', hb', hbt', by obtain rfl : x = m + 1 := (by omega); rfl⟩))
theorem enTry_all {gS gBf g gC gBo gE gBe gM gT : Nat} {c b0 : List Int} {n m nb tot : Nat} {goal : Int} (hf : flowF c b0 nb = 0) (hb0 : b0.length = n) (hn6 : n ≤ 6) (hm3 : m ≤ 3) (hnb : 1 ≤ nb ∧ nb ≤ 2000) :
  ∀ (r i : Nat) (b be : List Int) (ub : Value) (iv uv : Int), i + r = n → Good n m b → Good n m be → iv = i → uv = sumL (b.take i) →
  SpecH Tryz.prog 138 ([avI iv, avI uv] ++ enArgs gS gBf gC gBo gE gBe gM gT) (enH gS gBf g gC gBo gE gBe gM gT c n m nb tot goal b be ub) (enG gS gBf g gC gBo gE gBe gM gT c n m nb tot goal b i (srch (stpP (enE c nb goal)) m r (b.take i) be)) := by
 intro r
 induction r with
 | zero => intro i b be ub iv uv h1 h2 h3 h4 h5; exact enTry hf hb0 h1 h2 h3 hn6 hm3 h4 h5 hnb (fun r' h => by omega)
 | succ r ih =>
  intro i b be ub iv uv h1 h2 h3 h4 h5
  refine enTry hf hb0 h1 h2 h3 hn6 hm3 h4 h5 hnb (fun r' h b' be' ub' iv' uv' k1 k2 k3 k4 => ?_)
  obtain rfl : r' = r := by omega
  exact ih (i + 1) b' be' ub' iv' uv' (by omega) k1 k2 k3 k4
theorem good_rep (n m : Nat) : Good n m (List.replicate n (m : Int)) := ⟨by simp, fun x hx => by rw [List.eq_of_mem_replicate hx]; omega⟩
theorem enoughF_1 {c : List Int} {n m : Int} (h : cycF c ≠ 0) : enoughF c n m = cycF c := by rw [enoughF, if_pos h]
theorem enoughF_2 {c : List Int} {n m : Int} (h : cycF c = 0) (h2 : (outB 1 2000 n || outB 0 3 m) = true) : enoughF c n m = 1 := by rw [enoughF, if_neg (by omega), if_pos h2]
theorem enoughF_0 {c : List Int} {n m : Int} (h : cycF c = 0) (h2 : (outB 1 2000 n || outB 0 3 m) = false) : enoughF c n m = 0 := by rw [enoughF, if_neg (by omega), if_neg (by rw [h2]; simp)]
def repL (n : Nat) (m : Int) (q : Nat) : List Int := List.replicate q m ++ List.replicate (n - q) 0
theorem repL_len {n q : Nat} {m : Int} (h : q ≤ n) : (repL n m q).length = n := by simp [repL]; omega
theorem repL_0 (n : Nat) (m : Int) : repL n m 0 = List.replicate n 0 := by simp [repL]
theorem repL_all (n : Nat) (m : Int) : repL n m n = List.replicate n m := by simp [repL]
theorem repL_set {n q : Nat} {m : Int} (h : q < n) : (repL n m q).set q m = repL n m (q + 1) := by
 unfold repL
 rw [List.set_append_right _ _ (by simp), List.length_replicate, Nat.sub_self]
 have e : n - q = (n - (q + 1)) + 1 := by omega
 rw [e, List.replicate_succ, List.set_cons_zero]
 rw [List.replicate_succ', List.append_assoc]; rfl
theorem OpV.makeFunc8 {P : Program} {B : Bs} {W : Nat → Prop} {s : St'} {o : Oper} {fn : Fn} {c1 c2 c3 c4 c5 c6 c7 c8 : Operand} {u1 u2 u3 u4 u5 u6 u7 u8 : Value} (ho : o.op = .makeFunc fn #[] #[c1, c2, c3, c4, c5, c6, c7, c8]) (h1 : evO s c1 = some (.v u1)) (h2 : evO s c2 = some (.v u2)) (h3 : evO s c3 = some (.v u3)) (h4 : evO s c4 = some (.v u4)) (h5 : evO s c5 = some (.v u5)) (h6 : evO s c6 = some (.v u6)) (h7 : evO s c7 = some (.v u7)) (h8 : evO s c8 = some (.v u8)) : OpV P B W s o (.v (.func fn #[] #[u1, u2, u3, u4, u5, u6, u7, u8])) :=
 OpV.makeFunc ho fun a w hr => by simp [hr.evv h1, hr.evv h2, hr.evv h3, hr.evv h4, hr.evv h5, hr.evv h6, hr.evv h7, hr.evv h8]
end Go.Proofs.YtplphabekhaoaaaGreatDoor
namespace Go.Proofs.YtplphabekhaoaaaGreatDoor
open Go.RowKit
set_option linter.unusedVariables false
set_option linter.unusedSimpArgs false
set_option maxRecDepth 100000 in
set_option maxHeartbeats 4000000 in
theorem line_Enough {c : List Int} {nb m : Int} (hc : c.length ≤ 1000000) :
  SpecH Tryz.prog 64 [avInts c, avI nb, avI m] [] (fun y hp' => ∃ u, y = .tup [.v u, avI (enoughF c nb m)] ∧ hp' = [.row u ((enoughR c nb m).length) (1) (intsL (enoughR c nb m)) (3)]) := by
 refine SpecH.of_VC Tryz.func64 rfl Tryz.ntmps64 (Nle rfl) fun w A hB => ?_
 have hnew : True := trivial
 refine VC.sr ?_
 refine VO.op rfl (OpE.box rfl hB rfl rfl rfl ?_)
 intro gC
 refine VO.op rfl (OpE.box rfl hB rfl rfl rfl ?_)
 intro gBo
 refine VO.op rfl (OpE.box rfl hB rfl rfl rfl ?_)
 intro gM
 refine VO.ma rfl rfl rfl rfl ?_
 refine VO.ma rfl rfl rfl rfl ?_
 refine VO.nil ?_
 refine VC.seq ?_
 refine VC.sr ?_
 refine VO.val rfl rfl (OpV.load_own (i := 0) rfl hB Tryz.isAgg22 rfl rfl rfl (fun h => h)) ?_
 refine VO.op rfl (OpE.call rfl hB rfl Tryz.call136 rfl (SpecN.spec (line_cyclesFault_S)) ?_)
 rintro _ rfl
 refine VO.ma rfl rfl rfl rfl ?_
 refine VO.nil ?_
 refine VC.sr ?_
 refine VO.mv rfl rfl rfl rfl ?_
 refine VO.val rfl rfl (OpV.neq rfl rfl rfl) ?_
 refine VO.nil ?_
 refine VC.cond rfl (fun h0b => ?_) (fun h0b => ?_)
 ·have h0 := h0b
  try simp only [qqT, qqF, qqN, qqM, qqL, qqE] at h0
  have hE : enoughF c nb m = cycF c := enoughF_1 h0
  rw [enoughR, if_neg (by rw [hE]; exact h0), hE]
  refine VC.sr ?_
  refine VO.mv rfl rfl rfl rfl ?_
  refine VO.ma rfl rfl rfl rfl ?_
  refine VO.ma rfl rfl rfl rfl ?_
  refine VO.nil ?_
  refine VC.le _ (Le.nilRow 1 3) ?_
  refine VC.le ⟨[(6, _), (7, _)], [_], 0⟩ (Le.pick hB [3] ⟨rfl, rfl, trivial⟩ rfl rfl (Nat.le_refl _)) ?_
  refine VC.ret ?_
  exact Exists.intro _ (And.intro (RetV.two Tryz.results64 (ResV.tmp rfl) (ResV.tmp rfl)) (⟨_, rfl, rfl⟩))
 ·have h0 := h0b
  try simp only [qqT, qqF, qqN, qqM, qqL, qqE] at h0
  refine VC.skip ?_
  refine VC.seq ?_
  refine VC.sr ?_
  refine VO.val rfl rfl (OpV.load_own (i := 1) rfl hB Tryz.isAgg3 rfl rfl rfl (fun h => h)) ?_
  refine VO.op rfl (OpE.call rfl hB rfl Tryz.call101 rfl (SpecN.spec (kit_Outside)) ?_)
  rintro _ rfl
  refine VO.mv rfl rfl rfl rfl ?_
  refine VO.opG rfl rfl rfl rfl (fun aK1b => ?_) (fun aK1b => ?_)
  ·replace aK1b : _ = false := aK1b
   have aK1 := aK1b
   try simp only [qqT, qqF, qqN, qqM, qqL, qqE] at aK1
   refine OpE.val (W := NoB) (OpV.load_own (i := 2) rfl hB Tryz.isAgg3 rfl rfl rfl (fun h => h)) rfl ?_
   refine VO.opY rfl rfl rfl rfl aK1b ?_
   refine OpE.call rfl hB rfl Tryz.call101 rfl (SpecN.spec (kit_Outside)) ?_
   rintro _ rfl
   refine VO.val rfl rfl (OpV.pickF rfl rfl rfl rfl aK1b) ?_
   refine VO.nil ?_
   refine VC.cond rfl (fun h1b => ?_) (fun h1b => ?_)
   ·have h1 := h1b
    try simp only [qqT, qqF, qqN, qqM, qqL, qqE] at h1
    refine VC.seq ?_
    have hE : enoughF c nb m = 1 := enoughF_2 (by omega) (by first | (unfold outB; simp_all; done) | (unfold outB; simp_all; omega))
    rw [enoughR, if_neg (by rw [hE]; decide), hE]
    refine VC.region ?_
    refine VO.ma rfl rfl rfl rfl ?_
    refine VO.ma rfl rfl rfl rfl ?_
    refine VO.nil ?_
    refine VC.le _ (Le.nilRow 1 3) ?_
    refine VC.le ⟨[(6, _), (7, _)], [_], 0⟩ (Le.pick hB [3] ⟨rfl, rfl, trivial⟩ rfl rfl (Nat.le_refl _)) ?_
    refine VC.ret ?_
    exact Exists.intro _ (And.intro (RetV.two Tryz.results64 (ResV.tmp rfl) (ResV.tmp rfl)) (⟨_, rfl, rfl⟩))
   ·have h1 := h1b
    try simp only [qqT, qqF, qqN, qqM, qqL, qqE] at h1
    refine VC.skip ?_
    refine VC.seq ?_
    have hcy : cycF c = 0 := by omega
    have hrng : (outB 1 2000 nb || outB 0 3 m) = false := by first | (unfold outB; simp_all; done) | (unfold outB; simp_all; omega)
    have hrng' : (1 ≤ nb ∧ nb ≤ 2000) ∧ 0 ≤ m ∧ m ≤ 3 := by
     unfold outB at hrng
     simp at hrng
     omega
    have hE : enoughF c nb m = 0 := enoughF_0 hcy hrng
    rw [enoughR, if_pos hE, hE]
    have hcl := cyc0_len hcy
    obtain ⟨N, rfl⟩ : ∃ N : Nat, nb = N := ⟨nb.toNat, by omega⟩
    obtain ⟨M, rfl⟩ : ∃ M : Nat, m = M := ⟨m.toNat, by omega⟩
    have hff := flow_of hcy (by unfold outB at hrng ⊢; simp at hrng ⊢; omega : outB 1 2000 (N : Int) = false)
    obtain ⟨n, hn⟩ : ∃ n, c.length = n + 1 := ⟨c.length - 1, by omega⟩
    have hnc : c.length - 1 = n := by omega
    rw [enoughL, hnc, Int.toNat_natCast, Int.toNat_natCast]
    refine VC.region ?_
    refine VO.val rfl rfl (OpV.load_own (i := 0) rfl hB Tryz.isAgg22 rfl rfl rfl (fun h => h)) ?_
    refine VO.val rfl rfl (OpV.len_im rfl Tryz.underlying22 rfl) ?_
    refine VO.val rfl rfl (OpV.sub rfl rfl rfl (by unfold fits; omega)) ?_
    refine VO.op rfl (OpE.make rfl hB rfl Tryz.underlying22 (infoOf Tryz.t3 1 (by kernel_rfl) rfl rfl) (by decide) rfl rfl (n := n) (by omega) (by omega) (by omega) (made_ints n) ?_)
    intro gb
    rw [intsL_len, List.length_replicate, ← repL_0 n (M : Int)]
    refine VO.op rfl (OpE.alloc rfl hB rfl Tryz.zeroValue22 rfl ?_)
    intro gBf
    refine VO.op rfl (OpE.store (i := 4) rfl hB rfl Tryz.sizeOf22 rfl rfl rfl rfl rfl rfl (Nle rfl) trivial ?_)
    refine VO.nil ?_
    refine VC.seq ?_
    refine VC.sr ?_
    refine VO.val rfl rfl (OpV.load_own (i := 4) rfl hB Tryz.isAgg22 rfl rfl rfl (fun h => h)) ?_
    refine VO.val rfl rfl (OpV.len_v rfl Tryz.underlying22 rfl) ?_
    refine VO.mv rfl rfl rfl rfl ?_
    refine VO.nil ?_
    refine VC.block ?_
    refine VC.loopK [(3, _), (4, _), (5, _), (9, _), (31, _)] ⟨rfl, rfl, rfl, rfl, rfl, trivial⟩ ({q : Nat // q ≤ n}) (fun (iZ : {q : Nat // q ≤ n}) => match iZ with | ⟨q, hq⟩ => [(32, avI (q : Int))]) (fun (iZ : {q : Nat // q ≤ n}) => match iZ with | ⟨q, hq⟩ => [.box gC ⟨[avInts c], 22, 1⟩, .box gBo ⟨[avI (N : Int)], 3, 1⟩, .box gM ⟨[avI (M : Int)], 3, 1⟩, .box gb ⟨intsL (repL n M q), 3, n⟩, .box gBf ⟨[.v (.slice (some ⟨gb, 0, none⟩) n n)], 22, 1⟩]) (fun (iZ : {q : Nat // q ≤ n}) => match iZ with | ⟨q, hq⟩ => 0) (fun (iZ : {q : Nat // q ≤ n}) => match iZ with | ⟨q, hq⟩ => n - q) ⟨0, Nat.zero_le _⟩ (Le.mk hB [0, 1, 2, 3, 4] ⟨rfl, rfl, rfl, rfl, rfl, rfl, trivial⟩ rfl rfl (Nat.le_refl _)) ?_
    rintro ⟨q, hq⟩
    show VC _ _ _ _ ⟨[(32, avI (q : Int))] ++ [(3, _), (4, _), (5, _), (9, _), (31, _)], [.box gC ⟨[avInts c], 22, 1⟩, .box gBo ⟨[avI (N : Int)], 3, 1⟩, .box gM ⟨[avI (M : Int)], 3, 1⟩, .box gb ⟨intsL (repL n M q), 3, n⟩, .box gBf ⟨[.v (.slice (some ⟨gb, 0, none⟩) n n)], 22, 1⟩], 0⟩
    refine VC.sr ?_
    refine VO.val rfl rfl (OpV.lss rfl rfl rfl) ?_
    refine VO.nil ?_
    refine VC.seq ?_
    refine VC.cond rfl (fun aH2b => ?_) (fun aH2b => ?_)
    ·have aH2 := aH2b
     try simp only [qqT, qqF, qqN, qqM, qqL, qqE] at aH2
     refine VC.skip ?_
     refine VC.seq ?_
     refine VC.block ?_
     refine VC.sr ?_
     refine VO.mv rfl rfl rfl rfl ?_
     refine VO.ma rfl rfl rfl rfl ?_
     refine VO.nil ?_
     refine VC.region ?_
     refine VO.val rfl rfl (OpV.load_own (i := 4) rfl hB Tryz.isAgg22 rfl rfl rfl (fun h => h)) ?_
     refine VO.mv rfl rfl rfl rfl ?_
     refine VO.val rfl rfl (OpV.load_own (i := 2) rfl hB Tryz.isAgg3 rfl rfl rfl (fun h => h)) ?_
     refine VO.val rfl rfl (OpV.indexAddr_o rfl Tryz.underlying22 Tryz.sizeOf3 rfl rfl rfl (by omega)) ?_
     refine VO.op rfl (OpE.store1 (i := 3) rfl hB rfl Tryz.sizeOf3 rfl rfl rfl rfl rfl rfl (by rw [intsL_len, repL_len (by omega)]; omega) ((intsL_set _ _ _).trans (congrArg intsL (repL_set (by omega)))) trivial ?_)
     refine VO.nil ?_
     refine VC.region ?_
     refine VO.val rfl rfl (OpV.add rfl rfl rfl (by unfold fits; omega)) ?_
     refine VO.mv rfl rfl rfl rfl ?_
     refine VO.nil ?_
     exact Exists.intro (⟨q + 1, by omega⟩) (And.intro (Le.mk hB [0, 1, 2, 3, 4] ⟨rfl, rfl, rfl, rfl, rfl, rfl, trivial⟩ rfl rfl (Nat.le_refl _)) (by first | omega | (show _ < _; omega) | (simp only []; omega)))
    ·have aH2 := aH2b
     try simp only [qqT, qqF, qqN, qqM, qqL, qqE] at aH2
     obtain rfl : n = q := by omega
     rw [repL_all]
     have hmn : 0 ≤ (M : Int) * (n : Int) ∧ (M : Int) * (n : Int) ≤ 3 * 6 := ⟨Int.mul_nonneg (by omega) (by omega), Int.mul_le_mul (by omega) (by omega) (by omega) (by omega)⟩
     refine VC.exit ?_
     refine VC.sr ?_
     refine VO.val rfl rfl (OpV.load_own (i := 0) rfl hB Tryz.isAgg22 rfl rfl rfl (fun h => h)) ?_
     refine VO.val rfl rfl (OpV.load_own (i := 4) rfl hB Tryz.isAgg22 rfl rfl rfl (fun h => h)) ?_
     refine VO.val rfl rfl (OpV.load_own (i := 1) rfl hB Tryz.isAgg3 rfl rfl rfl (fun h => h)) ?_
     refine VO.op rfl (OpE.callL rfl hB rfl Tryz.call137 (line_end_S (right_small hff (by simp; omega) (fun x hx => by rw [List.eq_of_mem_replicate hx]; omega)) (by omega) (by omega)) (ArgsP.cons (ArgP.ev rfl) (ArgsP.cons (ArgP.boxI (i := 3) rfl rfl (by simp) (Nat.le_refl _) (capM (by omega))) (ArgsP.cons (ArgP.ev rfl) (ArgsP.nil)))) ?_)
     rintro _ rfl
     refine VO.op rfl (OpE.alloc rfl hB rfl Tryz.zeroValue3 rfl ?_)
     intro gE
     refine VO.op rfl (OpE.store (i := 5) rfl hB rfl Tryz.sizeOf3 rfl rfl rfl rfl rfl rfl (Nle rfl) trivial ?_)
     refine VO.nil ?_
     refine VC.sr ?_
     refine VO.val rfl rfl (OpV.load_own (i := 4) rfl hB Tryz.isAgg22 rfl rfl rfl (fun h => h)) ?_
     refine VO.op rfl (OpE.callR rfl hB rfl Tryz.call53 (slices_Clone_R (by simp; omega)) (ArgsP.cons (ArgP.boxI (i := 3) rfl rfl (by simp) (Nat.le_refl _) (capM (by omega))) (ArgsP.nil)) ?_)
     intro u45
     refine VO.rowIs (i := 6) rfl (fun b45 c45 hu45 => ?_)
     subst hu45
     refine VO.op rfl (OpE.alloc rfl hB rfl Tryz.zeroValue22 rfl ?_)
     intro gBe
     refine VO.op rfl (OpE.store (i := 7) rfl hB rfl Tryz.sizeOf22 rfl rfl rfl rfl rfl rfl (Nle rfl) trivial ?_)
     refine VO.nil ?_
     refine VC.sr ?_
     refine VO.val rfl rfl (OpV.load_own (i := 2) rfl hB Tryz.isAgg3 rfl rfl rfl (fun h => h)) ?_
     refine VO.val rfl rfl (OpV.load_own (i := 4) rfl hB Tryz.isAgg22 rfl rfl rfl (fun h => h)) ?_
     refine VO.val rfl rfl (OpV.len_v rfl Tryz.underlying22 rfl) ?_
     refine VO.val rfl rfl (OpV.mul rfl rfl rfl (by unfold fits; omega)) ?_
     refine VO.le _ (Le.recast (t := 49) (y := avI (sumL (List.replicate n (M : Int)))) rfl (fun w Z u h => by rw [sumL_rep, Int.mul_comm]; exact h)) ?_
     refine VO.op rfl (OpE.alloc rfl hB rfl Tryz.zeroValue3 rfl ?_)
     intro gS
     refine VO.op rfl (OpE.store (i := 8) rfl hB rfl Tryz.sizeOf3 rfl rfl rfl rfl rfl rfl (Nle rfl) trivial ?_)
     refine VO.nil ?_
     refine VC.sr ?_
     refine VO.op rfl (OpE.alloc rfl hB rfl Tryz.zeroValue178 rfl ?_)
     intro gT
     refine VO.nil ?_
     refine VC.sr ?_
     refine VO.val rfl rfl (OpV.makeFunc8 rfl rfl rfl rfl rfl rfl rfl rfl rfl) ?_
     refine VO.op rfl (OpE.store (i := 9) rfl hB rfl Tryz.sizeOf178 rfl rfl rfl rfl rfl rfl (Nle rfl) trivial ?_)
     refine VO.nil ?_
     refine VC.seq ?_
     refine VC.le _ (Le.pickH [8, 4, 3, 0, 1, 5, 7, 6, 2, 9] rfl rfl) ?_
     refine VC.region ?_
     refine VO.val rfl rfl (OpV.load_own (i := 9) rfl hB Tryz.isAgg178 rfl rfl rfl (fun h => h)) ?_
     refine VO.op rfl (OpE.callH0 rfl hB rfl Tryz.call138 rfl rfl (enTry_all (b0 := List.replicate (c.length - 1) 0) (n := n) (m := M) (nb := N) hff (by simp; omega) (by omega) (by omega) (by omega) n 0 (List.replicate n (M : Int)) (List.replicate n (M : Int)) _ 0 0 (by omega) (good_rep n M) (good_rep n M) rfl rfl) (List.Perm.refl _) (fun _ _ => trivial) ?_)
     rintro _ _ ⟨rfl, b', ub', hb', hbt', rfl⟩
     refine VO.nil ?_
     refine VC.sr ?_
     refine VO.val rfl rfl (OpV.load_own (i := 6) rfl hB Tryz.isAgg22 rfl rfl rfl (fun h => h)) ?_
     refine VO.ma rfl rfl rfl rfl ?_
     refine VO.ma rfl rfl rfl rfl ?_
     refine VO.nil ?_
     refine VC.le ⟨[(6, _), (7, _)], [_], 0⟩ (Le.pick hB [7] ⟨rfl, rfl, trivial⟩ rfl rfl (Nat.le_refl _)) ?_
     refine VC.ret ?_
     exact Exists.intro _ (And.intro (RetV.two Tryz.results64 (ResV.tmp rfl) (ResV.tmp rfl)) (⟨ub', rfl, rfl⟩))
  ·replace aK1b : _ = true := aK1b
   have aK1 := aK1b
   try simp only [qqT, qqF, qqN, qqM, qqL, qqE] at aK1
   refine VO.opX rfl rfl rfl rfl aK1b ?_
   refine VO.val rfl rfl (OpV.pickT rfl rfl rfl rfl aK1b) ?_
   refine VO.nil ?_
   refine VC.condT rfl rfl ?_
   refine VC.seq ?_
   have hE : enoughF c nb m = 1 := enoughF_2 (by omega) (by first | (unfold outB; simp_all; done) | (unfold outB; simp_all; omega))
   rw [enoughR, if_neg (by rw [hE]; decide), hE]
   refine VC.region ?_
   refine VO.ma rfl rfl rfl rfl ?_
   refine VO.ma rfl rfl rfl rfl ?_
   refine VO.nil ?_
   refine VC.le _ (Le.nilRow 1 3) ?_
   refine VC.le ⟨[(6, _), (7, _)], [_], 0⟩ (Le.pick hB [3] ⟨rfl, rfl, trivial⟩ rfl rfl (Nat.le_refl _)) ?_
   refine VC.ret ?_
   exact Exists.intro _ (And.intro (RetV.two Tryz.results64 (ResV.tmp rfl) (ResV.tmp rfl)) (⟨_, rfl, rfl⟩))
end Go.Proofs.YtplphabekhaoaaaGreatDoor
namespace Go.Proofs.YtplphabekhaoaaaGreatDoor
open Go.RowKit
set_option linter.unusedVariables false
set_option linter.unusedSimpArgs false
set_option maxRecDepth 100000 in
theorem slices_Repeat_int {x : Int} {n : Nat} (hn : n ≤ 100000) :
  Spec Tryz.prog 65 [avInts [x], avI (n : Int)] (fun y => y = avInts (List.replicate n x)) := by
 refine Spec.of_VC Tryz.func65 rfl Tryz.ntmps65 (Nle rfl) fun w A hB => ?_
 have hnew : True := trivial
 refine VC.sr ?_
 refine VO.ma rfl rfl rfl rfl ?_
 refine VO.nil ?_
 refine VC.seq ?_
 refine VC.sr ?_
 refine VO.mv rfl rfl rfl rfl ?_
 refine VO.val rfl rfl (OpV.lss rfl rfl rfl) ?_
 refine VO.nil ?_
 refine VC.cond rfl (fun aH1b => ?_) (fun aH1b => ?_)
 ·have aH1 := aH1b
  try simp only [qqT, qqF, qqN, qqM, qqL, qqE] at aH1
  exact VC.absurd (by omega)
 ·have aH1 := aH1b
  try simp only [qqT, qqF, qqN, qqM, qqL, qqE] at aH1
  refine VC.skip ?_
  refine VC.sr ?_
  refine VO.mv rfl rfl rfl rfl ?_
  refine VO.val rfl rfl (OpV.len_im rfl Tryz.underlying22 rfl) ?_
  refine VO.val rfl rfl (OpV.conv rfl Tryz.underlying3 Tryz.underlying179 rfl (IntWalk.u64_in _ (by simp))) ?_
  refine VO.mv rfl rfl rfl rfl ?_
  refine VO.val rfl rfl (OpV.conv rfl Tryz.underlying3 Tryz.underlying179 rfl (IntWalk.u64_in _ (by omega))) ?_
  refine VO.op rfl (OpE.call rfl hB rfl Tryz.call139 rfl (SpecN.spec (bits_Mul_S (x := 1) (y := n) (by omega) (by omega) (by omega))) ?_)
  rintro _ rfl
  refine VO.mv rfl rfl rfl rfl ?_
  refine VO.val rfl rfl (OpV.extract rfl rfl rfl) ?_
  refine VO.val rfl rfl (OpV.extract rfl rfl rfl) ?_
  refine VO.ma rfl rfl rfl rfl ?_
  refine VO.ma rfl rfl rfl rfl ?_
  refine VO.nil ?_
  refine VC.seq ?_
  refine VC.sr ?_
  refine VO.mv rfl rfl rfl rfl ?_
  refine VO.val rfl rfl (OpV.gtr rfl rfl rfl) ?_
  refine VO.mv rfl rfl rfl rfl ?_
  refine VO.opY rfl rfl rfl rfl rfl ?_
  refine OpE.val (W := NoB) (OpV.move (.inl rfl) rfl) rfl ?_
  refine VO.opY rfl rfl rfl rfl rfl ?_
  refine OpE.val (W := NoB) (OpV.gtr rfl rfl rfl) rfl ?_
  refine VO.val rfl rfl (OpV.pickF rfl rfl rfl rfl rfl) ?_
  refine VO.nil ?_
  refine VC.cond rfl (fun aH2b => ?_) (fun aH2b => ?_)
  ·have aH2 := aH2b
   try simp only [qqT, qqF, qqN, qqM, qqL, qqE] at aH2
   exact VC.absurd (by omega)
  ·have aH2 := aH2b
   try simp only [qqT, qqF, qqN, qqM, qqL, qqE] at aH2
   refine VC.skip ?_
   refine VC.sr ?_
   refine VO.mv rfl rfl rfl rfl ?_
   refine VO.val rfl rfl (OpV.conv rfl Tryz.underlying179 Tryz.underlying3 rfl (IntWalk.i64_in _ (by omega))) ?_
   refine VO.op rfl (OpE.make rfl hB rfl Tryz.underlying22 (infoOf Tryz.t3 1 (by kernel_rfl) rfl rfl) (by decide) rfl rfl (n := n) (by omega) (by omega) (by omega) (repC_0 (n := n) rfl rfl) ?_)
   intro g30
   refine VO.ma rfl rfl rfl rfl ?_
   refine VO.nil ?_
   refine VC.sr ?_
   refine VO.mv rfl rfl rfl rfl ?_
   refine VO.mv rfl rfl rfl rfl ?_
   refine VO.op rfl (OpE.copy (i := 0) rfl hB rfl Tryz.underlying22 Tryz.sizeOf3 rfl rfl (SrcP.im rfl) (c := min 1 n) rfl (fun _ _ => rfl) (by rw [repC_len (by omega)]; omega) (repC_first rfl rfl) trivial ?_)
   refine VO.ma rfl rfl rfl rfl ?_
   refine VO.nil ?_
   refine VC.seq ?_
   refine VC.block ?_
   refine VC.loopK [(7, _)] ⟨rfl, trivial⟩ ({k : Nat // k ≤ n ∧ (k = 0 → n = 0)}) (fun (iZ : {k : Nat // k ≤ n ∧ (k = 0 → n = 0)}) => match iZ with | ⟨k, hk, hk0⟩ => [(8, avI (k : Int))]) (fun (iZ : {k : Nat // k ≤ n ∧ (k = 0 → n = 0)}) => match iZ with | ⟨k, hk, hk0⟩ => [.box g30 ⟨repC (avI x) (.v (.int .i64 0)) k n, 3, (repC (.v (.int .i64 0)) (.v (.int .i64 0)) 0 n).length⟩]) (fun (iZ : {k : Nat // k ≤ n ∧ (k = 0 → n = 0)}) => match iZ with | ⟨k, hk, hk0⟩ => 0) (fun (iZ : {k : Nat // k ≤ n ∧ (k = 0 → n = 0)}) => match iZ with | ⟨k, hk, hk0⟩ => n - k) ⟨min 1 n, by omega, by omega⟩ (Le.mk hB [0] ⟨rfl, rfl, trivial⟩ rfl rfl (Nat.le_refl _)) ?_
   rintro ⟨k, hk, hk0⟩
   show VC _ _ _ _ ⟨[(8, avI (k : Int))] ++ [(7, _)], [.box g30 ⟨repC (avI x) (.v (.int .i64 0)) k n, 3, (repC (.v (.int .i64 0)) (.v (.int .i64 0)) 0 n).length⟩], 0⟩
   refine VC.seq ?_
   refine VC.sr ?_
   refine VO.mv rfl rfl rfl rfl ?_
   refine VO.mv rfl rfl rfl rfl ?_
   refine VO.val rfl rfl (OpV.len_v rfl Tryz.underlying22 rfl) ?_
   refine VO.val rfl rfl (OpV.lss rfl rfl rfl) ?_
   refine VO.nil ?_
   refine VC.cond rfl (fun aH3b => ?_) (fun aH3b => ?_)
   ·have aH3 := aH3b
    try simp only [qqT, qqF, qqN, qqM, qqL, qqE] at aH3
    refine VC.skip ?_
    refine VC.block ?_
    refine VC.draw (fun j b => j = 7 ∧ b = g30) hB (by kernel_rfl) ?_
    refine VA.take (i := 0) rfl (by kernel_rfl) (by kernel_rfl) (by kernel_rfl) rfl rfl (OpV.move (.inl rfl) rfl) ?_
    refine VA.take (i := 1) rfl (by kernel_rfl) (by kernel_rfl) (by kernel_rfl) rfl rfl (OpV.move (.inl rfl) rfl) ?_
    refine VA.take (i := 2) rfl (by kernel_rfl) (by kernel_rfl) (by kernel_rfl) rfl rfl (OpV.move (.inl rfl) rfl) ?_
    refine VA.take (i := 3) rfl (by kernel_rfl) (by kernel_rfl) (by kernel_rfl) rfl rfl (OpV.slice_own (l := k) rfl Tryz.underlying22 Tryz.sizeOf3 rfl ⟨_, _, rfl, rfl⟩ rfl (by omega) (by omega) (by omega)) ?_
    refine VA.take (i := 4) rfl (by kernel_rfl) (by kernel_rfl) (by kernel_rfl) rfl rfl (OpV.move (.inl rfl) rfl) ?_
    refine VA.take (i := 5) rfl (by kernel_rfl) (by kernel_rfl) (by kernel_rfl) rfl rfl (OpV.move (.inl rfl) rfl) ?_
    refine VA.take (i := 6) rfl (by kernel_rfl) (by kernel_rfl) (by kernel_rfl) rfl rfl (OpV.slice_own (h := k) rfl Tryz.underlying22 Tryz.sizeOf3 rfl rfl ⟨_, _, rfl, rfl⟩ (by omega) (by omega) (by omega)) ?_
    refine VA.all (rs := [7]) (by kernel_rfl) (by decide) ?_
    refine ⟨⟨_, rfl, .inl rfl, ?_⟩, trivial⟩
    refine OpE.copy (i := 0) rfl hB rfl Tryz.underlying22 Tryz.sizeOf3 rfl rfl (SrcP.box (i := 0) rfl rfl (by show 0 + 0 * 1 + (k - 0) * 1 ≤ (repC _ _ k n).length; rw [repC_len (by omega)]; omega)) (c := min k (n - k)) (by omega) (fun j hj => by dsimp only; rw [List.getD_eq_getElem?_getD, repC_get (by omega) (by omega), if_pos (by omega)]; rfl) (by show 0 + k * 1 + _ ≤ (repC _ _ k n).length; rw [repC_len (by omega)]; omega) (repC_step (c := min k (n - k)) (by omega) (fun j hj => by dsimp only; rw [List.getD_eq_getElem?_getD, repC_get (by omega) (by omega), if_pos (by omega)]; rfl) (by omega) (by omega)) (by first | exact ⟨rfl, rfl⟩ | exact .inl ⟨rfl, rfl⟩ | exact .inr ⟨rfl, rfl⟩ | exact ⟨rfl, trivial⟩ | exact .inl ⟨rfl, trivial⟩ | exact .inr ⟨rfl, trivial⟩ | exact ⟨by decide, rfl⟩) ?_
    refine VA.take (i := 8) rfl (by kernel_rfl) (by kernel_rfl) (by kernel_rfl) rfl rfl (OpV.add rfl rfl rfl (by unfold fits; omega)) ?_
    refine VA.take (i := 9) rfl (by kernel_rfl) (by kernel_rfl) (by kernel_rfl) rfl rfl (OpV.move (.inr rfl) rfl) ?_
    refine VA.done (by kernel_rfl) ?_
    exact Exists.intro (⟨k + min k (n - k), by omega, by omega⟩) (And.intro (Le.mk hB [0] ⟨rfl, rfl, trivial⟩ rfl rfl (Nat.le_refl _)) (by first | omega | (show _ < _; omega) | (simp only []; omega)))
   ·have aH3 := aH3b
    try simp only [qqT, qqF, qqN, qqM, qqL, qqE] at aH3
    refine VC.exit ?_
    refine VC.sr ?_
    refine VO.mv rfl rfl rfl rfl ?_
    refine VO.ma rfl rfl rfl rfl ?_
    refine VO.nil ?_
    obtain rfl : k = n := by omega
    refine VC.le _ (Le.box (t := 4) (i := 0) (n := k) (sz := 1) (y := avInts (List.replicate k x)) hB hnew rfl rfl (by show 0 + k * 1 ≤ (repC _ _ k k).length; rw [repC_len (by omega)]; omega) (Nat.le_refl _) (capM (by omega)) (fun w Z u h => Rep.ints (by simp) (h.im_congr fun j hj => by rw [repC_full, intsL, List.map_replicate, Nat.zero_add]))) ?_
    refine VC.ret ?_
    exact Exists.intro _ (And.intro (RetV.one Tryz.results65 (ResV.tmp rfl)) (rfl))
end Go.Proofs.YtplphabekhaoaaaGreatDoor
namespace Go.Proofs.YtplphabekhaoaaaGreatDoor
open Go.RowKit
set_option linter.unusedVariables false
set_option linter.unusedSimpArgs false
theorem lv_end {c b : List Int} {n : Nat} (h : 0 < n) : (leaves c b n).getD (n - 1) 0 = endT c b n := by rw [lv_get (by omega)]; rfl
theorem enL_good (c : List Int) (n m : Nat) : Good (c.length - 1) m (enoughL c n m) := srch_good (stpP_or _) _ _ _ _ _ (by simp) (fun x hx => by simp at hx) (good_rep _ _)
theorem enL_end (c : List Int) (n m : Nat) : endT c (enoughL c n m) n = endT c (List.replicate (c.length - 1) (m : Int)) n := by
 have := srch_E (fun l => endT c l n == endT c (List.replicate (c.length - 1) (m : Int)) n) m (c.length - 1) [] (List.replicate (c.length - 1) (m : Int)) (by simp)
 simp only [beq_iff_eq] at this
 exact this
theorem enL_tight {c : List Int} {n m i : Nat} (hi : i < (enoughL c n m).length) (h0 : 0 < (enoughL c n m).getD i 0) : endT c ((enoughL c n m).set i ((enoughL c n m).getD i 0 - 1)) n ≠ endT c (List.replicate (c.length - 1) (m : Int)) n := by
 have hg := enL_good c n m
 have e : (enoughL c n m).getD i 0 = (enoughL c n m)[i] := by simp [hi]
 rw [e] at h0 ⊢
 have := srch_tight (fun l => endT c l n == endT c (List.replicate (c.length - 1) (m : Int)) n) m (c.length - 1) (List.replicate (c.length - 1) (m : Int)) (enoughL c n m) rfl hg.1 hg.2 i hi h0
 simpa using this
theorem endT_more {c b1 b2 : List Int} (h1 : RightLine c b1) (h2 : RightLine c b2) (hb : ∀ k, at' b1 k ≤ at' b2 k) (n : Nat) : endT c b2 n ≤ endT c b1 n := by
 have hp := h1.pos
 exact pas_le h1 h2 hb (n - 1) (c.length - 1) (by omega)
theorem en_fault {c : List Int} {n m : Int} (hn : 1 ≤ n ∧ n ≤ 2000) (hm : 0 ≤ m ∧ m ≤ 3) : enoughF c n m = flowF c (List.replicate (max 0 ((c.length : Int) - 1)).toNat 0) n := by
 unfold enoughF flowF
 by_cases h : cycF c ≠ 0
 ·rw [if_pos h, if_pos h]
 ·have h0 : cycF c = 0 := by omega
  have hl := cyc0_len h0
  rw [if_neg h, if_neg h, if_neg (by unfold outB; simp; omega), if_neg (by simp; omega), if_neg]
  unfold outB
  simp
  omega
theorem en_flow {c l : List Int} {n m : Nat} (hE : enoughF c n m = 0) (hg : Good (c.length - 1) 3 l) : flowF c l n = 0 := by
 unfold enoughF at hE
 split at hE
 ·contradiction
 ·rename_i h1
  split at hE
  ·cases hE
  ·rename_i h2
   have h0 : cycF c = 0 := by omega
   have hl := cyc0_len h0
   unfold flowF
   rw [if_neg h1, if_neg (by rw [hg.1]; simp; omega), if_neg]
   simp only [Bool.or_eq_true, not_or] at h2 ⊢
   refine ⟨?_, h2.1⟩
   intro hc
   obtain ⟨x, hx, ho⟩ := List.any_eq_true.1 hc
   have := hg.2 x hx
   unfold outB at ho
   simp at ho
   omega
theorem at_dec {b : List Int} {i : Nat} (hi : i < b.length) : ∀ k, at' (b.set i (b.getD i 0 - 1)) k ≤ at' b k := fun k => by
 unfold at'
 simp only [List.getD_eq_getElem?_getD, List.getElem?_set]
 split
 ·rename_i e; subst e; simp only [Option.getD_some]; omega
 ·omega
set_option maxRecDepth 100000 in
set_option maxHeartbeats 40000000 in
theorem enoughIsEnough_any (a0 : Option Addr) (cap0 : Nat) (L : List Int) (w : World) (hin : Inp w a0 L) :
  Calls Tryz.prog 8 #[.slice a0 L.length cap0] w fun e w' => e = .returned (.bool true) ∧ Chg NoB w w' := by
 refine law_calls Tryz.func8 rfl Tryz.ntmps8 (Nle rfl) Tryz.results8 ?_
 have hB := B0.ok w (fun _ => True) 154
 have hnew : True := trivial
 refine VC.sr ?_
 refine VO.ma rfl rfl rfl rfl ?_
 refine VO.nil ?_
 refine VC.sr ?_
 refine VO.mv rfl rfl rfl rfl ?_
 refine VO.val rfl rfl (OpV.build (pls := #[(0, 1), (1, 1)]) rfl Tryz.zeroValue25 Tryz.underlying25 (fun w => by kernel_rfl) rfl rfl) ?_
 refine VO.op rfl (OpE.box rfl hB rfl rfl rfl ?_)
 intro g
 refine VO.ma rfl rfl rfl rfl ?_
 refine VO.nil ?_
 refine VC.stream (i := 0) (sl := [(3, sp g)]) (by exact rfl) (by exact rfl) hin (by exact ⟨rfl, trivial⟩) (fun p hp => by simp at hp; subst hp; exact ⟨_, rfl⟩) (fun w1 hge hB => ?_)
 refine VC.sr ?_
 refine VO.mv rfl rfl rfl rfl ?_
 refine VO.op rfl (OpE.callT' (0) rfl rfl hB rfl Tryz.call48 rfl (line_T) (by omega) ?_)
 rintro _ ⟨c, b0, hcb, rfl⟩
 refine VO.mv rfl rfl rfl rfl ?_
 refine VO.val rfl rfl (OpV.extract rfl rfl rfl) ?_
 refine VO.val rfl rfl (OpV.extract rfl rfl rfl) ?_
 refine VO.ma rfl rfl rfl rfl ?_
 refine VO.ma rfl rfl rfl rfl ?_
 refine VO.nil ?_
 refine VC.sr ?_
 refine VO.mv rfl rfl rfl rfl ?_
 refine VO.op rfl (OpE.callT' (0 + 100020) rfl rfl hB rfl Tryz.call49 rfl ((range_T (by omega) (by omega) (by omega))) (by omega) ?_)
 rintro _ ⟨r28, hr28, rfl⟩
 obtain ⟨n, rfl⟩ : ∃ n : Nat, r28 = n := ⟨r28.toNat, by omega⟩
 refine VO.mv rfl rfl rfl rfl ?_
 refine VO.op rfl (OpE.callT' (0 + 100020 + 1) rfl rfl hB rfl Tryz.call49 rfl ((range_T (by omega) (by omega) (by omega))) (by omega) ?_)
 rintro _ ⟨r30, hr30, rfl⟩
 obtain ⟨m, rfl⟩ : ∃ m : Nat, r30 = m := ⟨r30.toNat, by omega⟩
 refine VO.ma rfl rfl rfl rfl ?_
 refine VO.ma rfl rfl rfl rfl ?_
 refine VO.nil ?_
 refine VC.seq ?_
 have hcl := hcb.1.1
 have hen := en_fault (c := c) (n := n) (m := m) (by omega) (by omega)
 obtain ⟨E, hE⟩ : ∃ E, enoughF c n m = E := ⟨_, rfl⟩
 have hEn := line_Enough (c := c) (nb := n) (m := m) (by omega)
 have hbl : (enoughR c n m).length ≤ 100 := by
  unfold enoughR
  split
  ·rw [Int.toNat_natCast, Int.toNat_natCast, (enL_good c n m).1]; omega
  ·simp
 refine VC.region ?_
 refine VO.mv rfl rfl rfl rfl ?_
 refine VO.mv rfl rfl rfl rfl ?_
 refine VO.mv rfl rfl rfl rfl ?_
 refine VO.op rfl (OpE.callH (hp := []) (rest := _) rfl hB rfl Tryz.call64 rfl rfl (hEn) (List.Perm.refl _) (fun _ h => by obtain ⟨e, he, _⟩ := h; cases he) ?_)
 rintro _ _ ⟨u35, rfl, rfl⟩
 refine VO.mv rfl rfl rfl rfl ?_
 refine VO.val rfl rfl (OpV.extract rfl rfl rfl) ?_
 refine VO.le _ (Le.rowI (t := 36) (i := 0) hB hnew rfl rfl (by first | rfl | simp)) ?_
 refine VO.val rfl rfl (OpV.extract rfl rfl rfl) ?_
 refine VO.ma rfl rfl rfl rfl ?_
 refine VO.ma rfl rfl rfl rfl ?_
 refine VO.nil ?_
 refine VC.seq ?_
 refine VC.sr ?_
 refine VO.mv rfl rfl rfl rfl ?_
 refine VO.val rfl rfl (OpV.neq rfl rfl rfl) ?_
 refine VO.nil ?_
 refine VC.cond rfl (fun h0b => ?_) (fun h0b => ?_)
 ·have h0 := h0b
  try simp only [qqT, qqF, qqN, qqM, qqL, qqE] at h0
  refine VC.sr ?_
  refine VO.mv rfl rfl rfl rfl ?_
  refine VO.mv rfl rfl rfl rfl ?_
  refine VO.val rfl rfl (OpV.len_im rfl Tryz.underlying22 rfl) ?_
  refine VO.val rfl rfl (OpV.sub rfl rfl rfl (by unfold fits; omega)) ?_
  refine VO.val rfl rfl (OpV.max2 rfl rfl rfl) ?_
  refine VO.op rfl (OpE.make rfl hB rfl Tryz.underlying22 (infoOf Tryz.t3 1 (by kernel_rfl) rfl rfl) (by decide) rfl rfl (n := (max 0 ((c.length : Int) - 1)).toNat) (by omega) (by omega) (by omega) (made_ints _) ?_)
  intro g45
  refine VO.mv rfl rfl rfl rfl ?_
  refine VO.op rfl (OpE.callL rfl hB rfl Tryz.call50 (rf_BoardsFault_S (b := List.replicate (max 0 ((c.length : Int) - 1)).toNat 0)) (ArgsP.cons (ArgP.ev rfl) (ArgsP.cons (ArgP.boxI (i := 0) rfl rfl (by simp) (Nat.le_refl _) (capM (by omega))) (ArgsP.cons (ArgP.ev rfl) (ArgsP.nil)))) ?_)
  rintro _ rfl
  refine VO.mv rfl rfl rfl rfl ?_
  refine VO.val rfl rfl (OpV.eql rfl rfl rfl) ?_
  refine VO.le _ (Le.boolT (t := 49) rfl (decide_eq_true hen.symm)) ?_
  refine VO.mv rfl rfl rfl rfl ?_
  refine VO.opY rfl rfl rfl rfl rfl ?_
  refine OpE.call rfl hB rfl Tryz.call51 rfl (SpecN.spec (rk_ready)) ?_
  rintro _ rfl
  refine VO.val rfl rfl (OpV.pickT rfl rfl rfl rfl rfl) ?_
  refine VO.ma rfl rfl rfl rfl ?_
  refine VO.nil ?_
  refine VC.ret ?_
  exact And.intro rfl rfl
 ·have h0 := h0b
  try simp only [qqT, qqF, qqN, qqM, qqL, qqE] at h0
  refine VC.skip ?_
  refine VC.seq ?_
  refine VC.seq ?_
  have hE0 : enoughF c n m = 0 := by omega
  have hgd := enL_good c n m
  have hgr : Good (c.length - 1) 3 (List.replicate (c.length - 1) (m : Int)) := ⟨by simp, fun x hx => by rw [List.eq_of_mem_replicate hx]; omega⟩
  have hg3 : Good (c.length - 1) 3 (enoughL c n m) := ⟨hgd.1, fun x hx => by have := hgd.2 x hx; omega⟩
  have hfb := en_flow hE0 hg3
  have hfr := en_flow hE0 hgr
  have hend := enL_end c n m
  have htight : ∀ i, i < (enoughL c n m).length → 0 < (enoughL c n m).getD i 0 → endT c ((enoughL c n m).set i ((enoughL c n m).getD i 0 - 1)) n ≠ endT c (List.replicate (c.length - 1) (m : Int)) n := fun i hi h0 => enL_tight hi h0
  have hR : enoughR c n m = enoughL c n m := by rw [enoughR, if_pos hE0, Int.toNat_natCast, Int.toNat_natCast]
  refine VC.le _ (Le.recast (t := 8) (y := avInts (enoughL c n m)) rfl (fun w Z u h => by rw [← hR]; exact h)) ?_
  have hbnd : ∀ q, 0 ≤ (enoughL c n m).getD q 0 ∧ (enoughL c n m).getD q 0 ≤ 3 := fun q => by
   rw [List.getD_eq_getElem?_getD]
   cases hx : (enoughL c n m)[q]? with
   | none => simp
   | some x => have := hgd.2 x (List.mem_of_getElem? hx); simp only [Option.getD_some]; omega
  generalize enoughL c n m = b at *
  obtain ⟨hrb, hn1, hn2⟩ := flowF_right hfb
  obtain ⟨hrr, _, _⟩ := flowF_right hfr
  have hlb : b.length = c.length - 1 := hgd.1
  have hcp := hrb.pos
  have hLb := line_Leave_S (c := c) (b := b) (n := n)
  rw [leavesF, if_pos hfb, hfb, Int.toNat_natCast] at hLb
  have hLr := line_Leave_S (c := c) (b := List.replicate (c.length - 1) (m : Int)) (n := n)
  rw [leavesF, if_pos hfr, hfr, Int.toNat_natCast] at hLr
  have hx1 := lv_len c b n
  have hx2 := lv_len c (List.replicate (c.length - 1) (m : Int)) n
  have he1 := lv_end (c := c) (b := b) (n := n) (by omega)
  have he2 := lv_end (c := c) (b := List.replicate (c.length - 1) (m : Int)) (n := n) (by omega)
  refine VC.le ⟨[(4, _), (6, _), (7, _), (8, _), (9, _)], [], 0 + 100020 + 1 + 1⟩ (Le.mk hB [] ⟨rfl, rfl, rfl, rfl, rfl, trivial⟩ rfl rfl (Nat.le_refl _)) ?_
  refine VC.region ?_
  refine VO.mv rfl rfl rfl rfl ?_
  refine VO.val rfl rfl (OpV.len_im rfl Tryz.underlying22 rfl) ?_
  refine VO.mv rfl rfl rfl rfl ?_
  refine VO.val rfl rfl (OpV.len_im rfl Tryz.underlying22 rfl) ?_
  refine VO.val rfl rfl (OpV.sub rfl rfl rfl (by unfold fits; omega)) ?_
  refine VO.val rfl rfl (OpV.neq rfl rfl rfl) ?_
  refine VO.le _ (Le.boolF (t := 58) rfl (decide_eq_false (by omega))) ?_
  refine VO.nil ?_
  refine VC.condF rfl rfl ?_
  refine VC.skip ?_
  refine VC.sr ?_
  refine VO.mv rfl rfl rfl rfl ?_
  refine VO.mv rfl rfl rfl rfl ?_
  refine VO.mv rfl rfl rfl rfl ?_
  refine VO.op rfl (OpE.call rfl hB rfl Tryz.call52 rfl (SpecN.spec (hLb)) ?_)
  rintro _ rfl
  refine VO.mv rfl rfl rfl rfl ?_
  refine VO.val rfl rfl (OpV.extract rfl rfl rfl) ?_
  refine VO.val rfl rfl (OpV.extract rfl rfl rfl) ?_
  refine VO.ma rfl rfl rfl rfl ?_
  refine VO.ma rfl rfl rfl rfl ?_
  refine VO.nil ?_
  refine VC.sr ?_
  refine VO.mv rfl rfl rfl rfl ?_
  refine VO.mv rfl rfl rfl rfl ?_
  refine VO.op rfl (OpE.buildSlice (zc := #[.int .i64 0]) rfl hB rfl Tryz.underlying22 Tryz.sizeOf3 Tryz.zeroValue3 (by decide) (by decide) (by kernel_rfl) rfl rfl ?_)
  refine VO.le _ (Le.lits (t := 69) (xs := [(m : Int)]) rfl rfl) ?_
  refine VO.mv rfl rfl rfl rfl ?_
  refine VO.val rfl rfl (OpV.len_im rfl Tryz.underlying22 rfl) ?_
  refine VO.le _ (Le.recast (t := 71) (y := avI ((c.length - 1 : Nat) : Int)) rfl (fun w Z u h => by rw [← hlb]; exact h)) ?_
  refine VO.op rfl (OpE.call rfl hB rfl Tryz.call65 rfl (slices_Repeat_int (x := (m : Int)) (n := c.length - 1) (by omega)) ?_)
  rintro _ rfl
  refine VO.mv rfl rfl rfl rfl ?_
  refine VO.op rfl (OpE.call rfl hB rfl Tryz.call52 rfl (SpecN.spec (hLr)) ?_)
  rintro _ rfl
  refine VO.mv rfl rfl rfl rfl ?_
  refine VO.val rfl rfl (OpV.extract rfl rfl rfl) ?_
  refine VO.val rfl rfl (OpV.extract rfl rfl rfl) ?_
  refine VO.ma rfl rfl rfl rfl ?_
  refine VO.ma rfl rfl rfl rfl ?_
  refine VO.nil ?_
  refine VC.seq ?_
  refine VC.seq ?_
  refine VC.le ⟨[(4, _), (6, _), (8, _), (10, _), (11, _), (12, _), (13, _)], [], 0 + 100020 + 1 + 1⟩ (Le.mk hB [] ⟨rfl, rfl, rfl, rfl, rfl, rfl, rfl, trivial⟩ rfl rfl (Nat.le_refl _)) ?_
  refine VC.draw (fun _ => NoB) hB (by kernel_rfl) ?_
  refine VA.take (i := 0) rfl (by kernel_rfl) (by kernel_rfl) (by kernel_rfl) rfl rfl (OpV.move (.inl rfl) rfl) ?_
  refine VA.take (i := 1) rfl (by kernel_rfl) (by kernel_rfl) (by kernel_rfl) rfl rfl (OpV.move (.inl rfl) rfl) ?_
  refine VA.all (rs := [2]) (by kernel_rfl) (by decide) ?_
  refine ⟨⟨_, rfl, .inl rfl, ?_⟩, trivial⟩
  refine OpE.buildSlice (zc := #[.int .i64 0, .int .i64 0]) rfl hB rfl Tryz.underlying130 Tryz.sizeOf38 Tryz.zeroValue38 (by decide) (by decide) (by kernel_rfl) rfl rfl ?_
  refine VA.le _ (Le.lits (t := 79) (xs := [0, 0]) rfl rfl) ?_
  refine VA.all (rs := [3]) (by kernel_rfl) (by decide) ?_
  refine ⟨⟨_, rfl, .inl rfl, ?_⟩, trivial⟩
  refine OpE.call rfl hB rfl Tryz.call56 rfl (SpecN.spec (rk_errs (by simp))) ?_
  rintro _ rfl
  refine VA.take (i := 4) rfl (by kernel_rfl) (by kernel_rfl) (by kernel_rfl) rfl rfl (OpV.neq rfl rfl rfl) ?_
  refine VA.le _ (Le.boolF (t := 81) rfl rfl) ?_
  refine VA.take (i := 5) rfl (by kernel_rfl) (by kernel_rfl) (by kernel_rfl) rfl rfl (OpV.move (.inl rfl) rfl) ?_
  refine VA.takeY (i := 6) rfl (by kernel_rfl) (by kernel_rfl) (by kernel_rfl) rfl rfl rfl rfl rfl (OpV.move (.inl rfl) rfl) ?_
  refine VA.takeY (i := 7) rfl (by kernel_rfl) (by kernel_rfl) (by kernel_rfl) rfl rfl rfl rfl rfl (OpV.len_im rfl Tryz.underlying22 rfl) ?_
  refine VA.takeY (i := 8) rfl (by kernel_rfl) (by kernel_rfl) (by kernel_rfl) rfl rfl rfl rfl rfl (OpV.move (.inl rfl) rfl) ?_
  refine VA.takeY (i := 9) rfl (by kernel_rfl) (by kernel_rfl) (by kernel_rfl) rfl rfl rfl rfl rfl (OpV.neq rfl rfl rfl) ?_
  refine VA.le _ (Le.boolF (t := 86) rfl (decide_eq_false (by omega))) ?_
  refine VA.take (i := 10) rfl (by kernel_rfl) (by kernel_rfl) (by kernel_rfl) rfl rfl (OpV.pickF rfl rfl rfl rfl rfl) ?_
  refine VA.take (i := 11) rfl (by kernel_rfl) (by kernel_rfl) (by kernel_rfl) rfl rfl (OpV.move (.inl rfl) rfl) ?_
  refine VA.takeY (i := 12) rfl (by kernel_rfl) (by kernel_rfl) (by kernel_rfl) rfl rfl rfl rfl rfl (OpV.move (.inl rfl) rfl) ?_
  refine VA.takeY (i := 13) rfl (by kernel_rfl) (by kernel_rfl) (by kernel_rfl) rfl rfl rfl rfl rfl (OpV.len_im rfl Tryz.underlying22 rfl) ?_
  refine VA.takeY (i := 14) rfl (by kernel_rfl) (by kernel_rfl) (by kernel_rfl) rfl rfl rfl rfl rfl (OpV.move (.inl rfl) rfl) ?_
  refine VA.takeY (i := 15) rfl (by kernel_rfl) (by kernel_rfl) (by kernel_rfl) rfl rfl rfl rfl rfl (OpV.neq rfl rfl rfl) ?_
  refine VA.le _ (Le.boolF (t := 92) rfl (decide_eq_false (by omega))) ?_
  refine VA.take (i := 16) rfl (by kernel_rfl) (by kernel_rfl) (by kernel_rfl) rfl rfl (OpV.pickF rfl rfl rfl rfl rfl) ?_
  refine VA.take (i := 17) rfl (by kernel_rfl) (by kernel_rfl) (by kernel_rfl) rfl rfl (OpV.move (.inl rfl) rfl) ?_
  refine VA.takeY (i := 18) rfl (by kernel_rfl) (by kernel_rfl) (by kernel_rfl) rfl rfl rfl rfl rfl (OpV.move (.inl rfl) rfl) ?_
  refine VA.takeY (i := 19) rfl (by kernel_rfl) (by kernel_rfl) (by kernel_rfl) rfl rfl rfl rfl rfl (OpV.move (.inl rfl) rfl) ?_
  refine VA.takeY (i := 20) rfl (by kernel_rfl) (by kernel_rfl) (by kernel_rfl) rfl rfl rfl rfl rfl (OpV.sub rfl rfl rfl (by unfold fits; omega)) ?_
  refine VA.takeY (i := 21) rfl (by kernel_rfl) (by kernel_rfl) (by kernel_rfl) rfl rfl rfl rfl rfl (OpV.indexAddr_1 rfl Tryz.underlying22 Tryz.sizeOf3 rfl rfl (show (n : Int) - 1 = ((n - 1 : Nat) : Int) by omega) (by omega)) ?_
  refine VA.takeY (i := 22) rfl (by kernel_rfl) (by kernel_rfl) (by kernel_rfl) rfl rfl rfl rfl rfl (OpV.load_at rfl hB OutW.wi0 Tryz.isAgg3 rfl rfl) ?_
  refine VA.takeY (i := 23) rfl (by kernel_rfl) (by kernel_rfl) (by kernel_rfl) rfl rfl rfl rfl rfl (OpV.move (.inl rfl) rfl) ?_
  refine VA.takeY (i := 24) rfl (by kernel_rfl) (by kernel_rfl) (by kernel_rfl) rfl rfl rfl rfl rfl (OpV.move (.inl rfl) rfl) ?_
  refine VA.takeY (i := 25) rfl (by kernel_rfl) (by kernel_rfl) (by kernel_rfl) rfl rfl rfl rfl rfl (OpV.sub rfl rfl rfl (by unfold fits; omega)) ?_
  refine VA.takeY (i := 26) rfl (by kernel_rfl) (by kernel_rfl) (by kernel_rfl) rfl rfl rfl rfl rfl (OpV.indexAddr_1 rfl Tryz.underlying22 Tryz.sizeOf3 rfl rfl (show (n : Int) - 1 = ((n - 1 : Nat) : Int) by omega) (by omega)) ?_
  refine VA.takeY (i := 27) rfl (by kernel_rfl) (by kernel_rfl) (by kernel_rfl) rfl rfl rfl rfl rfl (OpV.load_at rfl hB OutW.wi0 Tryz.isAgg3 rfl rfl) ?_
  refine VA.takeY (i := 28) rfl (by kernel_rfl) (by kernel_rfl) (by kernel_rfl) rfl rfl rfl rfl rfl (OpV.neq rfl rfl rfl) ?_
  refine VA.le _ (Le.boolF (t := 105) rfl (decide_eq_false (by omega))) ?_
  refine VA.take (i := 29) rfl (by kernel_rfl) (by kernel_rfl) (by kernel_rfl) rfl rfl (OpV.pickF rfl rfl rfl rfl rfl) ?_
  refine VA.done (by kernel_rfl) ?_
  refine VC.condF rfl rfl ?_
  refine VC.skip ?_
  refine VC.seq ?_
  refine VC.sr ?_
  refine VO.mv rfl rfl rfl rfl ?_
  refine VO.val rfl rfl (OpV.len_im rfl Tryz.underlying22 rfl) ?_
  refine VO.mv rfl rfl rfl rfl ?_
  refine VO.nil ?_
  refine VC.block ?_
  refine VC.loopK [(4, _), (6, _), (8, _), (12, _), (107, _), (108, _)] ⟨rfl, rfl, rfl, rfl, rfl, rfl, trivial⟩ ({q : Nat // q ≤ b.length}) (fun (iZ : {q : Nat // q ≤ b.length}) => match iZ with | ⟨q, hq⟩ => [(109, avI (q : Int))]) (fun (iZ : {q : Nat // q ≤ b.length}) => match iZ with | ⟨q, hq⟩ => []) (fun (iZ : {q : Nat // q ≤ b.length}) => match iZ with | ⟨q, hq⟩ => 200000) (fun (iZ : {q : Nat // q ≤ b.length}) => match iZ with | ⟨q, hq⟩ => b.length - q) ⟨0, Nat.zero_le _⟩ (Le.mk hB [] ⟨rfl, rfl, rfl, rfl, rfl, rfl, rfl, trivial⟩ rfl rfl (Nle rfl)) ?_
  rintro ⟨q, hq⟩
  show VC _ _ _ _ ⟨[(109, avI (q : Int))] ++ [(4, _), (6, _), (8, _), (12, _), (107, _), (108, _)], [], 200000⟩
  refine VC.sr ?_
  refine VO.val rfl rfl (OpV.lss rfl rfl rfl) ?_
  refine VO.nil ?_
  refine VC.seq ?_
  refine VC.cond rfl (fun aH1b => ?_) (fun aH1b => ?_)
  ·have aH1 := aH1b
   try simp only [qqT, qqF, qqN, qqM, qqL, qqE] at aH1
   refine VC.skip ?_
   refine VC.seq ?_
   refine VC.block ?_
   refine VC.sr ?_
   refine VO.mv rfl rfl rfl rfl ?_
   refine VO.val rfl rfl (OpV.indexAddr_1 rfl Tryz.underlying22 Tryz.sizeOf3 rfl rfl rfl (by omega)) ?_
   refine VO.val rfl rfl (OpV.load_at rfl hB OutW.no Tryz.isAgg3 rfl rfl) ?_
   refine VO.ma rfl rfl rfl rfl ?_
   refine VO.ma rfl rfl rfl rfl ?_
   refine VO.nil ?_
   refine VC.seq ?_
   refine VC.seq ?_
   have hbq := hbnd q
   refine VC.region ?_
   refine VO.mv rfl rfl rfl rfl ?_
   refine VO.val rfl rfl (OpV.eql rfl rfl rfl) ?_
   refine VO.nil ?_
   refine VC.cond rfl (fun h4b => ?_) (fun h4b => ?_)
   ·have h4 := h4b
    try simp only [qqT, qqF, qqN, qqM, qqL, qqE] at h4
    refine VC.exit ?_
    refine VC.region ?_
    refine VO.val rfl rfl (OpV.add rfl rfl rfl (by unfold fits; omega)) ?_
    refine VO.mv rfl rfl rfl rfl ?_
    refine VO.nil ?_
    exact Exists.intro (⟨q + 1, by omega⟩) (And.intro (Le.mk hB [] ⟨rfl, rfl, rfl, rfl, rfl, rfl, rfl, trivial⟩ rfl rfl (Nle rfl)) (by first | omega | (show _ < _; omega) | (simp only []; omega)))
   ·have h4 := h4b
    try simp only [qqT, qqF, qqN, qqM, qqL, qqE] at h4
    refine VC.skip ?_
    refine VC.seq ?_
    have hlt := htight q (by omega) (by omega)
    have hgl : Good (c.length - 1) 3 (b.set q (b.getD q 0 - 1)) := hg3.set (by omega)
    have hfl := en_flow hE0 hgl
    obtain ⟨hrl, _, _⟩ := flowF_right hfl
    have hLl := line_Leave_S (c := c) (b := b.set q (b.getD q 0 - 1)) (n := n)
    rw [leavesF, if_pos hfl, hfl, Int.toNat_natCast] at hLl
    have hx3 := lv_len c (b.set q (b.getD q 0 - 1)) n
    have he3 := lv_end (c := c) (b := b.set q (b.getD q 0 - 1)) (n := n) (by omega)
    have hle := endT_more hrl hrb (at_dec (by omega)) n
    refine VC.region ?_
    refine VO.mv rfl rfl rfl rfl ?_
    refine VO.op rfl (OpE.callR rfl hB rfl Tryz.call53 (slices_Clone_R (by omega)) (ArgsP.cons (ArgP.ev rfl) (ArgsP.nil)) ?_)
    intro u
    refine VO.ma rfl rfl rfl rfl ?_
    refine VO.nil ?_
    refine VC.seq ?_
    refine VC.asBox (i := 0) rfl (by omega) (fun gb cap hu hcap hmx => ?_)
    subst hu
    refine VC.region ?_
    refine VO.mv rfl rfl rfl rfl ?_
    refine VO.mv rfl rfl rfl rfl ?_
    refine VO.val rfl rfl (OpV.indexAddr_o rfl Tryz.underlying22 Tryz.sizeOf3 rfl rfl rfl (by omega)) ?_
    refine VO.val rfl rfl (OpV.load_own (i := 0) rfl hB Tryz.isAgg3 rfl rfl (intsL_get (by omega)) (fun h => h)) ?_
    refine VO.val rfl rfl (OpV.sub rfl rfl rfl (by unfold fits; omega)) ?_
    refine VO.val rfl rfl (OpV.indexAddr_o rfl Tryz.underlying22 Tryz.sizeOf3 rfl rfl rfl (by omega)) ?_
    refine VO.op rfl (OpE.store1 (i := 0) rfl hB rfl Tryz.sizeOf3 rfl rfl rfl rfl rfl rfl (by rw [intsL_len]; omega) (intsL_set _ _ _) trivial ?_)
    refine VO.nil ?_
    refine VC.sr ?_
    refine VO.mv rfl rfl rfl rfl ?_
    refine VO.mv rfl rfl rfl rfl ?_
    refine VO.mv rfl rfl rfl rfl ?_
    refine VO.op rfl (OpE.callL rfl hB rfl Tryz.call52 (hLl) (ArgsP.cons (ArgP.ev rfl) (ArgsP.cons (ArgP.boxI (i := 0) (n := b.length) rfl rfl (by simp) hcap hmx) (ArgsP.cons (ArgP.ev rfl) (ArgsP.nil)))) ?_)
    rintro _ rfl
    refine VO.mv rfl rfl rfl rfl ?_
    refine VO.val rfl rfl (OpV.extract rfl rfl rfl) ?_
    refine VO.val rfl rfl (OpV.extract rfl rfl rfl) ?_
    refine VO.ma rfl rfl rfl rfl ?_
    refine VO.ma rfl rfl rfl rfl ?_
    refine VO.nil ?_
    refine VC.seq ?_
    refine VC.draw (fun _ => NoB) hB (by kernel_rfl) ?_
    refine VA.take (i := 0) rfl (by kernel_rfl) (by kernel_rfl) (by kernel_rfl) rfl rfl (OpV.move (.inl rfl) rfl) ?_
    refine VA.take (i := 1) rfl (by kernel_rfl) (by kernel_rfl) (by kernel_rfl) rfl rfl (OpV.neq rfl rfl rfl) ?_
    refine VA.le _ (Le.boolF (t := 132) rfl rfl) ?_
    refine VA.take (i := 2) rfl (by kernel_rfl) (by kernel_rfl) (by kernel_rfl) rfl rfl (OpV.move (.inl rfl) rfl) ?_
    refine VA.takeY (i := 3) rfl (by kernel_rfl) (by kernel_rfl) (by kernel_rfl) rfl rfl rfl rfl rfl (OpV.move (.inl rfl) rfl) ?_
    refine VA.takeY (i := 4) rfl (by kernel_rfl) (by kernel_rfl) (by kernel_rfl) rfl rfl rfl rfl rfl (OpV.len_im rfl Tryz.underlying22 rfl) ?_
    refine VA.takeY (i := 5) rfl (by kernel_rfl) (by kernel_rfl) (by kernel_rfl) rfl rfl rfl rfl rfl (OpV.move (.inl rfl) rfl) ?_
    refine VA.takeY (i := 6) rfl (by kernel_rfl) (by kernel_rfl) (by kernel_rfl) rfl rfl rfl rfl rfl (OpV.neq rfl rfl rfl) ?_
    refine VA.le _ (Le.boolF (t := 137) rfl (decide_eq_false (by omega))) ?_
    refine VA.take (i := 7) rfl (by kernel_rfl) (by kernel_rfl) (by kernel_rfl) rfl rfl (OpV.pickF rfl rfl rfl rfl rfl) ?_
    refine VA.take (i := 8) rfl (by kernel_rfl) (by kernel_rfl) (by kernel_rfl) rfl rfl (OpV.move (.inl rfl) rfl) ?_
    refine VA.takeY (i := 9) rfl (by kernel_rfl) (by kernel_rfl) (by kernel_rfl) rfl rfl rfl rfl rfl (OpV.move (.inl rfl) rfl) ?_
    refine VA.takeY (i := 10) rfl (by kernel_rfl) (by kernel_rfl) (by kernel_rfl) rfl rfl rfl rfl rfl (OpV.move (.inl rfl) rfl) ?_
    refine VA.takeY (i := 11) rfl (by kernel_rfl) (by kernel_rfl) (by kernel_rfl) rfl rfl rfl rfl rfl (OpV.sub rfl rfl rfl (by unfold fits; omega)) ?_
    refine VA.takeY (i := 12) rfl (by kernel_rfl) (by kernel_rfl) (by kernel_rfl) rfl rfl rfl rfl rfl (OpV.indexAddr_1 rfl Tryz.underlying22 Tryz.sizeOf3 rfl rfl (show (n : Int) - 1 = ((n - 1 : Nat) : Int) by omega) (by omega)) ?_
    refine VA.takeY (i := 13) rfl (by kernel_rfl) (by kernel_rfl) (by kernel_rfl) rfl rfl rfl rfl rfl (OpV.load_at rfl hB OutW.wi0 Tryz.isAgg3 rfl rfl) ?_
    refine VA.takeY (i := 14) rfl (by kernel_rfl) (by kernel_rfl) (by kernel_rfl) rfl rfl rfl rfl rfl (OpV.move (.inl rfl) rfl) ?_
    refine VA.takeY (i := 15) rfl (by kernel_rfl) (by kernel_rfl) (by kernel_rfl) rfl rfl rfl rfl rfl (OpV.move (.inl rfl) rfl) ?_
    refine VA.takeY (i := 16) rfl (by kernel_rfl) (by kernel_rfl) (by kernel_rfl) rfl rfl rfl rfl rfl (OpV.sub rfl rfl rfl (by unfold fits; omega)) ?_
    refine VA.takeY (i := 17) rfl (by kernel_rfl) (by kernel_rfl) (by kernel_rfl) rfl rfl rfl rfl rfl (OpV.indexAddr_1 rfl Tryz.underlying22 Tryz.sizeOf3 rfl rfl (show (n : Int) - 1 = ((n - 1 : Nat) : Int) by omega) (by omega)) ?_
    refine VA.takeY (i := 18) rfl (by kernel_rfl) (by kernel_rfl) (by kernel_rfl) rfl rfl rfl rfl rfl (OpV.load_at rfl hB OutW.wi0 Tryz.isAgg3 rfl rfl) ?_
    refine VA.takeY (i := 19) rfl (by kernel_rfl) (by kernel_rfl) (by kernel_rfl) rfl rfl rfl rfl rfl (OpV.leq rfl rfl rfl) ?_
    refine VA.le _ (Le.boolF (t := 150) rfl (decide_eq_false (by omega))) ?_
    refine VA.take (i := 20) rfl (by kernel_rfl) (by kernel_rfl) (by kernel_rfl) rfl rfl (OpV.pickF rfl rfl rfl rfl rfl) ?_
    refine VA.done (by kernel_rfl) ?_
    refine VC.condF rfl rfl ?_
    refine VC.skip ?_
    refine VC.region ?_
    refine VO.val rfl rfl (OpV.add rfl rfl rfl (by unfold fits; omega)) ?_
    refine VO.mv rfl rfl rfl rfl ?_
    refine VO.nil ?_
    exact Exists.intro (⟨q + 1, by omega⟩) (And.intro (Le.mk hB [] ⟨rfl, rfl, rfl, rfl, rfl, rfl, rfl, trivial⟩ rfl rfl (Nle rfl)) (by first | omega | (show _ < _; omega) | (simp only []; omega)))
  ·have aH1 := aH1b
   try simp only [qqT, qqF, qqN, qqM, qqL, qqE] at aH1
   refine VC.exit ?_
   refine VC.sr ?_
   refine VO.op rfl (OpE.call rfl hB rfl Tryz.call51 rfl (SpecN.spec (rk_ready)) ?_)
   rintro _ rfl
   refine VO.ma rfl rfl rfl rfl ?_
   refine VO.nil ?_
   refine VC.ret ?_
   exact And.intro rfl rfl
end Go.Proofs.YtplphabekhaoaaaGreatDoor
