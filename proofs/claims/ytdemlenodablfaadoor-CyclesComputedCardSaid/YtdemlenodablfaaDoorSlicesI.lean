/- slices.IndexFunc, ContainsFunc over ints, with a function that changes nothing old; slices.Equal over ints; kit.Outside and rfref2.in. -/
import Derived.Test.YtdemlenodablfaaDoorProg
import Derived.Test.YtdemlenodablfaaDoorMem
import Derived.Shelf.Abstract
import Derived.Deep.QuietTactic
import Derived.BigQuiet
namespace Go.Proofs.YtdemlenodablfaaDoor
open Go.RowKit
set_option linter.unusedVariables false
set_option linter.unusedSimpArgs false

/-- The function value F with the captured cells caps answers pr x at the int x, in every world from w on, and changes nothing old. -/
def PredI (F : FuncId) (caps : Array Value) (pr : Int → Bool) (w : World) (xs : List Int) : Prop :=
  (∀ args w, (callFunc F args).run Tryd.prog w = .ok (.enter F args) w) ∧
  ∀ x ∈ xs, ∀ w1, Chg NoB w w1 → Calls Tryd.prog F (#[.int .i64 x] ++ caps) w1 fun e w2 => e = .returned (.bool (pr x)) ∧ Chg NoB w1 w2

/-- The first index with pr, as an int; -1: there is none. -/
def idx {α : Type} (pr : α → Bool) (xs : List α) : Int := match xs.findIdx? pr with
  | some i => i
  | none => -1

theorem idx_none {α : Type} {pr : α → Bool} {xs : List α} (h : ∀ j, (hj : j < xs.length) → pr xs[j] = false) : idx pr xs = -1 := by
  have : xs.findIdx? pr = none := by
    rw [List.findIdx?_eq_none_iff]
    intro x hx
    obtain ⟨j, hj, rfl⟩ := List.mem_iff_getElem.1 hx
    exact h j hj
  rw [idx, this]
theorem idx_some {α : Type} {pr : α → Bool} {xs : List α} {i : Nat} (hi : i < xs.length) (hp : pr xs[i] = true) (h : ∀ j, (hj : j < i) → pr (xs[j]'(by omega)) = false) : idx pr xs = i := by
  have : xs.findIdx? pr = some i := by
    rw [List.findIdx?_eq_some_iff_getElem]
    exact ⟨hi, hp, fun j hj => by simp [h j hj]⟩
  rw [idx, this]
theorem idx_any {α : Type} (pr : α → Bool) (xs : List α) : decide (0 ≤ idx pr xs) = xs.any pr := by
  unfold idx
  cases h : xs.findIdx? pr with
  | none =>
    rw [List.findIdx?_eq_none_iff] at h
    symm
    simp [List.any_eq_false]
    intro x hx
    simp [h x hx]
  | some i =>
    rw [List.findIdx?_eq_some_iff_getElem] at h
    obtain ⟨hi, hp, _⟩ := h
    symm
    simp only [Int.natCast_nonneg, decide_true, List.any_eq_true]
    exact ⟨xs[i], List.getElem_mem _, hp⟩

set_option maxHeartbeats 400000 in
theorem indexFuncI (v : Value) (xs : List Int) (F : FuncId) (caps : Array Value) (pr : Int → Bool) (A : Nat → Prop) (w : World) (hv : IsSl w A v xs) (hF : PredI F caps pr w xs) :
    Calls Tryd.prog 74 #[v, .func (.func F) #[] caps] w fun e w' => e = .returned (.int .i64 (idx pr xs)) ∧ Chg NoB w w' := by
  obtain ⟨hcf, hF⟩ := hF
  obtain ⟨a, cap, rfl, hc1, hc2⟩ := hv.shape
  unfold maxLen at hc2
  go_enter Tryd.func74, Tryd.ntmps74
  go_wp2_with fail
  go_loopw [5, 8] (fun _ i wr => ∃ j : Nat, j ≤ xs.length ∧ i = .int .i64 j ∧ Hid (∀ q, (hq : q < j) → (hq' : q < xs.length) → pr xs[q] = false) ∧ Chg NoB w wr)
    (fun _ i _ => xs.length - (intOf i).toNat)
  case atStart => exact ⟨0, by omega, rfl, hid fun q hq => by omega, Chg.refl _ _⟩
  case round =>
    obtain ⟨j, hj, rfl, hno, hch⟩ := hrel
    by_cases hjn : j < xs.length
    · obtain ⟨b, off, rfl, hb, hcells⟩ := hv.ints (by omega)
      have hcell := hch.cell (hcells j hjn) (fun x => x)
      clear hcells
      have HF := hid (hF xs[j] (List.getElem_mem _) wr hch)
      clear hF
      go_wp2_with fail
      refine HF.out.mono ?_
      rintro e w2 ⟨rfl, hc3⟩
      go_wp2_with fail
      · have hp : pr xs[j] = true := by assumption
        go_ret
        exact ⟨ret_int (idx_some hjn hp fun q hq => hno.out q hq (by omega)).symm, hch.trans hc3⟩
      · have hp : pr xs[j] = false := by assumption
        go_roundw
        case rel => exact ⟨j + 1, by omega, by go_num, hid fun q hq hq' => by
          by_cases h : q < j
          · exact hno.out q h hq'
          · obtain rfl : q = j := by omega
            exact hp, hch.trans hc3⟩
        case measure => simp [intOf]; omega
    · go_wp2_with fail
      go_ret
      exact ⟨ret_int (idx_none fun q hq => hno.out q (by omega) hq).symm, hch⟩

set_option maxHeartbeats 400000 in
theorem containsFuncI (v : Value) (xs : List Int) (F : FuncId) (caps : Array Value) (pr : Int → Bool) (A : Nat → Prop) (w : World) (hv : IsSl w A v xs) (hF : PredI F caps pr w xs) :
    Calls Tryd.prog 64 #[v, .func (.func F) #[] caps] w fun e w' => e = .returned (.bool (xs.any pr)) ∧ Chg NoB w w' := by
  have hc := indexFuncI v xs F caps pr A w hv hF
  have HC := hid hc; clear hc hF
  go_enter Tryd.func64, Tryd.ntmps64
  go_wp2_with (go_at_call 74; refine HC.out.mono ?_; rintro e w1 ⟨rfl, hc1⟩)
  go_ret
  exact ⟨ret_bool (idx_any pr xs), hc1⟩

set_option maxHeartbeats 400000 in
theorem outside_any (n lo hi : Int) (w : World) :
    Calls Tryd.prog 40 #[.int .i64 n, .int .i64 lo, .int .i64 hi] w fun e w' => e = .returned (.bool (decide (n < lo) || decide (hi < n))) ∧ w = w' := by
  by_cases h : n < lo
  · go_enter Tryd.func40, Tryd.ntmps40
    go_wp2_with fail
    go_ret
    exact ⟨ret_bool (by simp [h]), rfl⟩
  · go_enter Tryd.func40, Tryd.ntmps40
    go_wp2_with fail
    go_ret
    exact ⟨ret_bool (by simp; omega), rfl⟩

set_option maxHeartbeats 400000 in
theorem in_any (n lo hi : Int) (w : World) :
    Calls Tryd.prog 36 #[.int .i64 n, .int .i64 lo, .int .i64 hi] w fun e w' => e = .returned (.bool (decide (lo ≤ n) && decide (n ≤ hi))) ∧ w = w' := by
  by_cases h : lo ≤ n
  · go_enter Tryd.func36, Tryd.ntmps36
    go_wp2_with fail
    go_ret
    exact ⟨ret_bool (by simp [h]), rfl⟩
  · go_enter Tryd.func36, Tryd.ntmps36
    go_wp2_with fail
    go_ret
    exact ⟨ret_bool (by simp; omega), rfl⟩

theorem list_ne {α : Type} {xs ys : List α} (h : xs.length = ys.length) {j : Nat} (hj : j < xs.length) (hn : xs[j] ≠ ys[j]'(by omega)) : xs ≠ ys := by
  rintro rfl; exact hn rfl

set_option maxHeartbeats 400000 in
theorem equalI (v1 v2 : Value) (xs ys : List Int) (A1 A2 : Nat → Prop) (w : World) (h1 : IsSl w A1 v1 xs) (h2 : IsSl w A2 v2 ys) :
    Calls Tryd.prog 19 #[v1, v2] w fun e w' => e = .returned (.bool (decide (xs = ys))) ∧ Chg NoB w w' := by
  obtain ⟨a1, cap1, rfl, hc1, hc2⟩ := h1.shape
  obtain ⟨a2, cap2, rfl, hd1, hd2⟩ := h2.shape
  unfold maxLen at hc2 hd2
  by_cases hl : xs.length = ys.length
  · have hb : (((xs.length : Int)) != (ys.length : Int)) = false := by simp [hl]
    obtain ⟨n, hn⟩ : ∃ n, n = ys.length := ⟨_, rfl⟩
    have HL := hid hl
    go_enter Tryd.func19, Tryd.ntmps19
    rw [hl] at hb ⊢
    clear hl
    go_wp2_with fail
    go_loopw [5, 13] (fun _ i wr => ∃ j : Nat, j ≤ ys.length ∧ i = .int .i64 j ∧ Hid (∀ q, (hq : q < j) → xs[q]? = ys[q]?) ∧ Chg NoB w wr)
      (fun _ i _ => ys.length - (intOf i).toNat)
    case atStart => exact ⟨0, by omega, rfl, hid fun q hq => by omega, Chg.refl _ _⟩
    case round =>
      obtain ⟨j, hj, rfl, hsame, hch⟩ := hrel
      by_cases hjn : j < ys.length
      · have hjx : j < xs.length := by have := HL.out; omega
        obtain ⟨b1, o1, rfl, hb1, hcells1⟩ := h1.ints (by omega)
        obtain ⟨b2, o2, rfl, hb2, hcells2⟩ := h2.ints (by omega)
        have hcell1 := hch.cell (hcells1 j hjx) (fun x => x)
        have hcell2 := hch.cell (hcells2 j hjn) (fun x => x)
        clear hcells1 hcells2
        go_wp2_with fail
        go_quiet (fail)
        go_wp2_with fail
        · have hne : (xs[j] != ys[j]) = true := by assumption
          go_ret
          refine ⟨ret_bool ?_, hch.drewN _⟩
          have := list_ne HL.out hjx (by simpa using hne)
          simp [this]
        · have he : (xs[j] != ys[j]) = false := by assumption
          go_roundw
          case rel => exact ⟨j + 1, by omega, by go_num, hid fun q hq => by
            by_cases h : q < j
            · exact hsame.out q h
            · obtain rfl : q = j := by omega
              simpa [hjx, hjn] using he, hch.drewN _⟩
          case measure => simp [intOf]; omega
      · go_wp2_with fail
        go_ret
        refine ⟨ret_bool ?_, hch⟩
        have : xs = ys := by
          apply List.ext_getElem? 
          intro q
          by_cases hq : q < j
          · exact hsame.out q hq
          · rw [List.getElem?_eq_none (by have := HL.out; omega), List.getElem?_eq_none (by omega)]
        simp [this]
  · have hb : (((xs.length : Int)) != (ys.length : Int)) = true := by simp; omega
    have HL := hid hl; clear hl
    go_enter Tryd.func19, Tryd.ntmps19
    go_wp2_with fail
    go_ret
    refine ⟨ret_bool ?_, Chg.refl _ _⟩
    have : xs ≠ ys := by rintro rfl; exact HL.out rfl
    simp [this]

end Go.Proofs.YtdemlenodablfaaDoor
