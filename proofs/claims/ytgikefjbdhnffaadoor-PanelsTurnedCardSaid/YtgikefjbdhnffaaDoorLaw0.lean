/- A law's walk: the stream is made in the law itself; from there on it is the resource. -/
import Derived.Test.YtgikefjbdhnffaaDoorStreamS
namespace Go.Proofs.YtgikefjbdhnffaaDoor
open Go.RowKit
set_option linter.unusedVariables false
set_option linter.unusedSimpArgs false

/-- The slice (a, length of L) that came in holds the numbers L. -/
def Inp (w : World) (a : Option Addr) (L : List Int) : Prop :=
  L.length ≤ 9223372036854775807 ∧ ∀ i, i < L.length → ∃ b o, a = some ⟨b, o, none⟩ ∧ w.cell? ⟨b, o + i, none⟩ = some (.int .i64 (L.getD i 0))

theorem Inp.strm {w : World} {a : Option Addr} {L : List Int} (h : Inp w a L) (cap : Nat) :
    Strm (w.alloc (.cells #[.slice a L.length cap, .int .i64 0] 25)) w.heap.size L 0 := by
  refine ⟨a, cap, heap_alloc_new w _, h.1, fun i hi => ?_⟩
  obtain ⟨b, o, ha, hc⟩ := h.2 i hi
  have hb := World.block_lt_of_cell? w _ hc
  exact ⟨b, o, ha, hb, (World.cell?_of_block (Below.heap_alloc w _ b hb)).trans hc⟩

theorem Inp.ofRow {w : World} {a : Option Addr} {len cap : Nat} {zs : List Int}
    (h : (a = none ∧ len = 0 ∧ cap = 0 ∧ zs = []) ∨
      ∃ x, a = some x ∧ len ≤ cap ∧ cap ≤ maxLen ∧ zs.length = cap ∧ (∀ i, i < zs.length → w.cell? (x.add i) = some (.int .i64 (zs.getD i 0))) ∧ ∀ n ∈ zs, (Lit.int .i64 n).wf = true) :
    ∃ L : List Int, L.length = len ∧ Inp w a L := by
  rcases h with ⟨rfl, rfl, rfl, rfl⟩ | ⟨x, rfl, h1, h2, h3, h4, h5⟩
  · exact ⟨[], rfl, by simp, by simp⟩
  · unfold maxLen at h2
    refine ⟨zs.take len, by simp; omega, by simp; omega, fun i hi => ?_⟩
    have hi' : i < len ∧ i < zs.length := by simp at hi; omega
    obtain ⟨b, o, s⟩ := x
    have h0 := h4 0 (by omega)
    have hs : s = none := by
      cases s with
      | none => rfl
      | some s =>
        simp only [Addr.add, if_true, World.cell?] at h0
        split at h0 <;> simp at h0
    subst hs
    have hadd : (⟨b, o, none⟩ : Addr).add i = ⟨b, o + i, none⟩ := by unfold Addr.add; split <;> simp_all
    have := h4 i hi'.2
    rw [hadd] at this
    exact ⟨b, o, rfl, by rw [this]; simp [hi'.1, hi'.2]⟩

def lawQ (t : Nat) (x : Value) (e : Exit) (s : St') : Prop := e = .ret ∧ look s.sl t = some (.v x)
section
variable {P : Program} {w : World} {A : Nat → Prop} {nt t : Nat} {x : Value} {c : Code} {s : St'}
theorem VC.rebase (h : ∀ a w1, R (B0 w A nt) s a w1 → ∃ (B1 : Bs) (s1 : St'), B1.nt = nt ∧ B1.w0 = w1 ∧ (∀ b, B1.S b → w.heap.size ≤ b) ∧ R B1 s1 a w1 ∧ VC P B1 c (lawQ t x) s1) : VC P (B0 w A nt) c (lawQ t x) s := fun a w1 hr => by
  obtain ⟨B1, s1, h1, h2, h3, h4, h5⟩ := h a w1 hr
  refine Code.wp_mono (fun e a' w' ⟨s2, ⟨k1, k2⟩, k3⟩ => ?_) (h5 a w1 h4)
  refine ⟨⟨[(t, .v x)], [], 0⟩, ⟨k1, by simp [look_put]⟩, fun t' y hy => ?_, k3.size.trans h1, k3.defs, fun p hp => by simp at hp, List.Pairwise.nil, ?_, fun p hp => by simp at hp, trivial⟩
  · rw [look_put] at hy
    split at hy
    · rename_i e; subst e; cases hy; exact (k3.slots _ _ k2).flat ⟨_, rfl⟩
    · cases hy
  · have c1 := hr.chg
    have c2 := k3.chg
    rw [h2] at c2
    exact (c1.any.trans c2).mono fun b hb hs => (Nat.not_lt.2 (h3 b hs) hb).elim
/-- The box with the numbers that came in, as the stream. -/
theorem VC.stream {a0 : Option Addr} {cap0 g tot i : Nat} {L : List Int} {sl : List (Nat × AV)} (hi : s.hp[i]? = some (.box g ⟨[.v (.slice a0 L.length cap0), .v (.int .i64 0)], 25, tot⟩)) (htot : tot = 2) (hin : Inp w a0 L) (hsl : LeL s.sl sl) (hf : ∀ p ∈ sl, ∃ v, p.2 = .v v)
    (h : ∀ w1, w.heap.size ≤ g → (B1 w1 (fun b => b ≠ g) nt (fun b => b = g) (fun b => b ≤ g) (TT g L)).Ok → VC P (B1 w1 (fun b => b ≠ g) nt (fun b => b = g) (fun b => b ≤ g) (TT g L)) c (lawQ t x) ⟨sl, [], 0⟩) : VC P (B0 w A nt) c (lawQ t x) s :=
  VC.rebase fun a w1 hr => by
    have hm := List.mem_of_getElem? hi
    obtain ⟨cc, k1, k2, k3, k4⟩ := hr.blocks _ hm
    have hnew : ¬ g < w.heap.size := hr.isNew (fun b h => h) hm rfl
    have hge : w.heap.size ≤ g := by omega
    have hcc : cc = #[.slice a0 L.length cap0, .int .i64 0] := by
      obtain ⟨u0, p0, q0⟩ := k4 0 (by simp)
      obtain ⟨u1, p1, q1⟩ := k4 1 (by simp)
      have e0 := q0.eq_v
      have e1 := q1.eq_v
      have hsz : cc.size = 2 := k2.trans htot
      apply Array.ext (by simpa using hsz)
      intro i hi hi'
      simp at hi'
      match i, hi' with
      | 0, _ => have := Array.getElem?_eq_some_iff.1 p0; simp; rw [this.2, e0]
      | 1, _ => have := Array.getElem?_eq_some_iff.1 p1; simp; rw [this.2, e1]
    subst hcc
    have hT : TT g L w1 0 := ⟨0, Nat.le_refl _, a0, cap0, k1, hin.1, fun i hi => by
      obtain ⟨b, o, e1, e2⟩ := hin.2 i hi
      have hb := World.block_lt_of_cell? w _ e2
      exact ⟨b, o, e1, Nat.lt_of_lt_of_le hb hge, hr.chg.cell e2 fun h => h⟩⟩
    refine ⟨_, _, rfl, rfl, fun b hb => by rw [hb]; exact hge, ?_, h w1 hge (TT.ok hT)⟩
    refine ⟨fun t' y hy => ?_, hr.size, hr.defs, fun p hp => by simp at hp, List.Pairwise.nil, Chg.refl _ _, fun p hp => by simp at hp, hT⟩
    have hs := hr.slots t' y (LeL.look hsl t' y hy)
    have : ∃ v, y = .v v := by
      have key : ∀ (l : List (Nat × AV)), (∀ p ∈ l, ∃ v, p.2 = .v v) → look l t' = some y → ∃ v, y = .v v := by
        intro l
        induction l with
        | nil => intro _ h; cases h
        | cons p r ih =>
          intro hp hl
          obtain ⟨k, z⟩ := p
          rw [look_put] at hl
          split at hl
          · cases hl; exact hp (k, y) (by simp)
          · exact ih (fun q hq => hp q (by simp [hq])) hl
      exact key sl hf hy
    exact hs.flat this
/-- From the walk to the call. -/
theorem law_calls {F : FuncId} {fn : Func} {a0 : Option Addr} {cap0 : Nat} {L : List Int} {body : Code} (hf : P.funcs[F]? = some fn) (hb : fn.body = some body) (hn : fn.ntmps = nt) (h1 : 1 ≤ nt) (hres : fn.results = #[.tmp t])
    (h : VC P (B0 w (fun _ => True) nt) body (lawQ t (.bool true)) ⟨slots0 0 [.v (.slice a0 L.length cap0)], [], 0⟩) : Calls P F #[.slice a0 L.length cap0] w fun e w' => e = .returned (.bool true) ∧ Chg NoB w w' := by
  subst hn
  refine calls_of_wp hf hb (Code.wp_mono (fun e a w' hq => ?_) (h _ w (R.start (us := #[.slice a0 L.length cap0]) (k := 0) rfl ⟨rfl, fun j hj => by simp at hj; subst hj; exact .v _⟩ (fun _ h => h.elim) trivial (by show fn.ntmps = 1 + (fn.ntmps - 1); omega))))
  obtain ⟨s, ⟨rfl, hq⟩, hr⟩ := hq
  refine ⟨hr.defs, .bool true, ?_, rfl, hr.chg⟩
  have hv := (hr.slots t _ hq).eq_v
  simp [results_eq, hres, resRun, hv]
end
/-- A bool of which it is known that it is true. -/
theorem Le.boolT {B : Bs} {s : St'} {t : Nat} {b : Bool} (ht : look s.sl t = some (avB b)) (hb : b = true) : Le B s ⟨(t, avB true) :: s.sl, s.hp, s.k⟩ := Le.recast ht fun w Z u h => by subst hb; exact h
end Go.Proofs.YtgikefjbdhnffaaDoor
