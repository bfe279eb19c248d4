/- The generator's stream: what Below, Next, Range, Flip and Pick answer, as plain functions of the numbers and the count. -/
import Derived.Test.YtgikefjbdhnffaaDoorProg
import Derived.Test.YtgikefjbdhnffaaDoorBase
import Derived.Deep.QuietTactic
import Derived.BigQuiet
namespace Go.Proofs.YtgikefjbdhnffaaDoor
open Go.RowKit
set_option linter.unusedVariables false
set_option linter.unusedSimpArgs false

def below (x n : Int) : Int := if n < 1 then 0 else x % n
theorem below_lo (x n : Int) : 0 ≤ below x n := by unfold below; split; omega; exact Int.emod_nonneg _ (by omega)
theorem below_lt (x n : Int) (h : 1 ≤ n) : below x n < n := by unfold below; rw [if_neg (by omega)]; exact Int.emod_lt_of_pos _ (by omega)
theorem below_le (x n : Int) (h : 0 ≤ n) : below x n ≤ n := by
  by_cases h1 : 1 ≤ n
  · have := below_lt x n h1; omega
  · unfold below; rw [if_pos (by omega)]; omega

theorem tmod_facts (x n : Int) (h : 1 ≤ n) : x.tmod n < n ∧ -n < x.tmod n ∧ (x.tmod n < 0 → x.tmod n + n = x % n) ∧ (0 ≤ x.tmod n → x.tmod n = x % n) := by
  have hn := Int.emod_nonneg x (show n ≠ 0 by omega)
  have hl := Int.emod_lt_of_pos x (show 0 < n by omega)
  by_cases h0 : 0 ≤ x
  · rw [Int.tmod_eq_emod_of_nonneg h0]
    exact ⟨hl, by omega, fun _ => by omega, fun _ => rfl⟩
  · have e : x.tmod n = -((-x) % n) := by
      rw [← Int.tmod_eq_emod_of_nonneg (by omega : 0 ≤ -x), Int.neg_tmod, Int.neg_neg]
    have hn' := Int.emod_nonneg (-x) (show n ≠ 0 by omega)
    have hl' := Int.emod_lt_of_pos (-x) (show 0 < n by omega)
    have e2 := Int.neg_emod (a := x) (b := n)
    rw [e]
    split at e2
    · have : x % n = 0 := Int.emod_eq_zero_of_dvd ‹_›
      exact ⟨by omega, by omega, fun _ => by omega, fun _ => by omega⟩
    · have e3 : (n.natAbs : Int) = n := by omega
      rw [e3] at e2
      exact ⟨by omega, by omega, fun _ => by omega, fun _ => by omega⟩

set_option maxHeartbeats 400000 in
theorem below_any (x n : Int) (w : World) (hn : n ≤ 9223372036854775807) :
    Calls Tryd.prog 71 #[.int .i64 x, .int .i64 n] w fun e w' => e = .returned (.int .i64 (below x n)) ∧ w = w' := by
  by_cases h1 : n < 1
  · go_enter Tryd.func71, Tryd.ntmps71
    go_wp2
    go_ret
    exact ⟨by simp [below, h1], rfl⟩
  · obtain ⟨b1, b2, b3, b4⟩ := tmod_facts x n (by omega)
    have B3 := hid b3; clear b3
    have B4 := hid b4; clear b4
    go_enter Tryd.func71, Tryd.ntmps71
    go_wp2
    · go_ret
      exact ⟨ret_int (by rw [below, if_neg (by omega)]; exact B3.out (by omega)), rfl⟩
    · go_ret
      exact ⟨ret_int (by rw [below, if_neg (by omega)]; exact B4.out (by omega)), rfl⟩

/-- What Next answers: L the numbers, k how many have been handed out. -/
def nxt (L : List Int) (k : Nat) (n : Int) : Int :=
  if L.length = 0 then below (((k : Int) + 1) * 7919) n
  else below (below (L.getD (k % L.length) 0) 1073741824 + ((k / L.length : Nat) : Int) * (7919 + ((k % L.length : Nat) : Int))) n
theorem nxt_lo (L : List Int) (k : Nat) (n : Int) : 0 ≤ nxt L k n := by unfold nxt; split <;> exact below_lo _ _
theorem nxt_lt (L : List Int) (k : Nat) (n : Int) (h : 1 ≤ n) : nxt L k n < n := by unfold nxt; split <;> exact below_lt _ _ h

/-- The stream with the numbers L, of which k have been handed out, lies in block p. -/
def Strm (w : World) (p : Nat) (L : List Int) (k : Nat) : Prop :=
  ∃ a cap, w.heap[p]? = some (.cells #[.slice a L.length cap, .int .i64 k] 25 (0, 0)) ∧ L.length ≤ 9223372036854775807 ∧
    ∀ i, i < L.length → ∃ b o, a = some ⟨b, o, none⟩ ∧ b < p ∧ w.cell? ⟨b, o + i, none⟩ = some (.int .i64 (L.getD i 0))

theorem Strm.keep {S : Nat → Prop} {w w' : World} {p : Nat} {L : List Int} {k : Nat} (h : Strm w p L k) (c : Chg S w w') (hs : ∀ j, j ≤ p → ¬ S j) : Strm w' p L k := by
  obtain ⟨a, cap, hp, hl, hc⟩ := h
  have hlt := (Array.getElem?_eq_some_iff.1 hp).1
  refine ⟨a, cap, (c.block p hlt (hs p (Nat.le_refl _))).trans hp, hl, fun i hi => ?_⟩
  obtain ⟨b, o, ha, hb, hcell⟩ := hc i hi
  exact ⟨b, o, ha, hb, c.cell hcell (hs _ (Nat.le_of_lt hb))⟩
theorem Strm.lt {w : World} {p : Nat} {L : List Int} {k : Nat} (h : Strm w p L k) : p < w.heap.size := by
  obtain ⟨a, cap, hp, hl, hc⟩ := h
  exact (Array.getElem?_eq_some_iff.1 hp).1

theorem Strm.step {w : World} {p : Nat} {L : List Int} {k : Nat} {a : Option Addr} {cap : Nat}
    (hp : w.heap[p]? = some (.cells #[.slice a L.length cap, .int .i64 k] 25 (0, 0))) (hl : L.length ≤ 9223372036854775807)
    (hc : ∀ i, i < L.length → ∃ b o, a = some ⟨b, o, none⟩ ∧ b < p ∧ w.cell? ⟨b, o + i, none⟩ = some (.int .i64 (L.getD i 0))) :
    Strm (w.setCell ⟨p, 1, none⟩ (.int .i64 ((k : Int) + 1))) p L (k + 1) := by
  refine ⟨a, cap, ?_, hl, fun i hi => ?_⟩
  · simp [World.setCell, Array.getElem?_modify, hp]
  · obtain ⟨b, o, ha, hb, hcell⟩ := hc i hi
    refine ⟨b, o, ha, hb, ?_⟩
    rw [← hcell]
    exact World.cell?_of_block (Below.heap_setCell _ _ _ _ (Nat.ne_of_lt hb))

set_option maxHeartbeats 400000 in
theorem next_any (p : Nat) (L : List Int) (k : Nat) (n : Int) (w : World) (h : Strm w p L k) (hk : k ≤ 1000000) (hn : n ≤ 1000000000) :
    Calls Tryd.prog 53 #[.pointer (some ⟨p, 0, none⟩), .int .i64 n] w fun e w' => e = .returned (.int .i64 (nxt L k n)) ∧ Strm w' p L (k + 1) ∧ Chg (AtB p) w w' := by
  obtain ⟨a, cap, hp, hl, hc⟩ := h
  have c0 : w.cell? ⟨p, 0, none⟩ = some (.slice a L.length cap) := by simp [World.cell?, hp]
  have c1 : w.cell? ⟨p, 1, none⟩ = some (.int .i64 k) := by simp [World.cell?, hp]
  have f1 : w.frozen? ⟨p, 1, none⟩ = false := by simp [World.frozen?, hp]
  have HP := hid hp; clear hp
  by_cases h0 : L.length = 0
  · have h0' : ((L.length : Int) == 0) = true := by simp [h0]
    have H0 := hid h0; clear h0
    go_enter Tryd.func53, Tryd.ntmps53
    go_wp2_with (go_at_call 71; refine (below_any _ _ _ (by omega)).mono ?_; rintro e w' ⟨rfl, rfl⟩)
    go_ret
    exact ⟨ret_int (by rw [nxt, if_pos H0.out]), Strm.step HP.out hl hc, (Chg.refl (AtB p) w).setCell (a := ⟨p, 1, none⟩) (fun _ => rfl) _⟩
  · have h0' : ((L.length : Int) == 0) = false := beq_eq_false_iff_ne.2 (by omega)
    obtain ⟨b, o, rfl, hbp', _⟩ := hc 0 (by omega)
    have hbp : b ≠ p := by omega
    have hci := (hc (k % L.length) (Nat.mod_lt _ (by omega)))
    obtain ⟨_, _, he, _, hci⟩ := hci
    cases he
    have HC := hid hc; clear hc
    have hm := Nat.mod_lt k (show 0 < L.length by omega)
    have hmk := Nat.mod_le k L.length
    have hdk := Nat.div_le_self k L.length
    have hb := below_lo (L[k % L.length]) 1073741824
    have hb2 := below_lt (L[k % L.length]) 1073741824 (by omega)
    have em : (k : Int) % (L.length : Int) = ((k % L.length : Nat) : Int) := by simp
    have ed : (k : Int) / (L.length : Int) = ((k / L.length : Nat) : Int) := by simp
    have m1 : 0 ≤ (k : Int) % (L.length : Int) := by rw [em]; omega
    have m2 : (k : Int) % (L.length : Int) < (L.length : Int) := by rw [em]; omega
    have m3 : (k : Int) % (L.length : Int) ≤ 1000000 := by rw [em]; omega
    have d1 : 0 ≤ (k : Int) / (L.length : Int) := Int.ediv_nonneg (by omega) (by omega)
    have d2 : (k : Int) / (L.length : Int) ≤ 1000000 := by rw [ed]; omega
    clear em ed
    have q1 : 0 ≤ (k : Int) / (L.length : Int) * (7919 + (k : Int) % (L.length : Int)) := Int.mul_nonneg d1 (by omega)
    have q2 : (k : Int) / (L.length : Int) * (7919 + (k : Int) % (L.length : Int)) ≤ 1000000 * 1007919 := Int.mul_le_mul d2 (by omega) (by omega) (by omega)
    go_enter Tryd.func53, Tryd.ntmps53
    go_wp2_with fail
    go_quiet (fail)
    go_wp2_with fail
    go_quiet (fail)
    go_wp2_with (go_at_call 71; refine (below_any _ _ _ (by omega)).mono ?_; rintro e w' ⟨rfl, rfl⟩)
    go_ret
    refine ⟨ret_int ?_, (Strm.step HP.out hl HC.out).keep ((Chg.refl NoB _).drewN _) (fun _ _ x => x), ((Chg.refl (AtB p) w).setCell (a := ⟨p, 1, none⟩) (fun _ => rfl) _).drewN _⟩
    rw [nxt, if_neg h0]
    simp [hm]

/-- What Range answers. -/
def rng (L : List Int) (k : Nat) (lo hi : Int) : Int := lo + nxt L k (hi - lo + 1)
theorem rng_lo (L : List Int) (k : Nat) (lo hi : Int) : lo ≤ rng L k lo hi := by unfold rng; have := nxt_lo L k (hi - lo + 1); omega
theorem rng_hi (L : List Int) (k : Nat) (lo hi : Int) (h : lo ≤ hi) : rng L k lo hi ≤ hi := by unfold rng; have := nxt_lt L k (hi - lo + 1) (by omega); omega

set_option maxHeartbeats 400000 in
theorem range_any (p : Nat) (L : List Int) (k : Nat) (lo hi : Int) (w : World) (h : Strm w p L k) (hk : k ≤ 1000000) (h0 : 0 ≤ lo) (hl : lo ≤ hi) (hn : hi ≤ 999999999) :
    Calls Tryd.prog 52 #[.pointer (some ⟨p, 0, none⟩), .int .i64 lo, .int .i64 hi] w fun e w' => e = .returned (.int .i64 (rng L k lo hi)) ∧ Strm w' p L (k + 1) ∧ Chg (AtB p) w w' := by
  have b1 := nxt_lo L k (hi - lo + 1)
  have b2 := nxt_lt L k (hi - lo + 1) (by omega)
  have hlt := h.lt
  go_enter Tryd.func52, Tryd.ntmps52
  go_wp2_with (go_at_call 53; refine (next_any _ _ _ _ _ h (by omega) (by omega)).mono ?_; rintro e w' ⟨rfl, hs, hc⟩)
  go_ret
  exact ⟨rfl, hs, hc⟩

set_option maxHeartbeats 400000 in
theorem flip_any (p : Nat) (L : List Int) (k : Nat) (n : Int) (w : World) (h : Strm w p L k) (hk : k ≤ 1000000) (hn : n ≤ 1000000000) :
    Calls Tryd.prog 38 #[.pointer (some ⟨p, 0, none⟩), .int .i64 n] w fun e w' => e = .returned (.bool (nxt L k n == 0)) ∧ Strm w' p L (k + 1) ∧ Chg (AtB p) w w' := by
  go_enter Tryd.func38, Tryd.ntmps38
  go_wp2_with (go_at_call 53; refine (next_any _ _ _ _ _ h (by omega) (by omega)).mono ?_; rintro e w' ⟨rfl, hs, hc⟩)
  go_ret
  exact ⟨rfl, hs, hc⟩

/-- What Pick answers. -/
def pick (L : List Int) (k : Nat) (xs : List Int) : Int := xs.getD (nxt L k xs.length).toNat 0

set_option maxHeartbeats 400000 in
theorem pick_any (p : Nat) (L : List Int) (k : Nat) (A : Nat → Prop) (v : Value) (xs : List Int) (w : World) (h : Strm w p L k) (hk : k ≤ 1000000) (hv : IsSl w A v xs) (hp : ¬ A p) (hx : 0 < xs.length) (hx2 : xs.length ≤ 1000) :
    Calls Tryd.prog 37 #[.pointer (some ⟨p, 0, none⟩), v] w fun e w' => e = .returned (.int .i64 (pick L k xs)) ∧ Strm w' p L (k + 1) ∧ Chg (AtB p) w w' := by
  have b1 := nxt_lo L k xs.length
  have b2 := nxt_lt L k xs.length (by omega)
  obtain ⟨a, cap, rfl, _, _⟩ := hv.shape
  obtain ⟨i, hi⟩ : ∃ i : Nat, nxt L k xs.length = i := ⟨(nxt L k xs.length).toNat, by omega⟩
  have hil : i < xs.length := by omega
  obtain ⟨b, o, rfl, hb, hc⟩ := hv.ints (by omega)
  have hcell := hc i hil
  have hbp : b ≠ p := by rintro rfl; exact hp hb
  have hf : pick L k xs = xs[i] := by unfold pick; rw [hi]; simp [hil]
  have HF := hid hf
  have HI := hid hi
  clear hf hc hi b1 b2
  go_enter Tryd.func37, Tryd.ntmps37
  go_wp2_with (go_at_call 53; refine (next_any _ _ _ _ _ h (by omega) (by omega)).mono ?_; rw [HI.out]; rintro e w' ⟨rfl, hs, hc⟩; have hcell' := hc.cell hcell (by simpa [AtB] using hbp))
  go_ret
  exact ⟨ret_int HF.out.symm, hs, hc⟩

end Go.Proofs.YtgikefjbdhnffaaDoor
