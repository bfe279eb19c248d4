/- A symbolic walk over an abstract state: the slots hold values that are known, or lists that nobody changes; the function's own blocks are known cell by cell. -/
import Derived.Test.YtgikefjbdhnffaaDoorBase
namespace Go.Proofs.YtgikefjbdhnffaaDoor
open Go.RowKit
set_option linter.unusedVariables false
set_option linter.unusedSimpArgs false

/-- What is known of a value: itself; an unchanging slice of n elements, sz cells each, f the cells; a pointer to m unchanging cells; an aggregate or a tuple of such; nothing. -/
inductive AV where
  | v (x : Value)
  | im (n sz : Nat) (f : Nat → AV)
  | at_ (m : Nat) (f : Nat → AV)
  | agg (cs : List AV)
  | tup (cs : List AV)
  | fn (F : FuncId) (cs : List AV)
  | mpv (n : Nat) (ks : Nat → Value) (f : Nat → AV)
  | any

/-- It fits the value in this world; all that it leads to lies in blocks of Z. -/
inductive Rep (w : World) (Z : Nat → Prop) : AV → Value → Prop where
  | v (x : Value) : Rep w Z (.v x) x
  | any (x : Value) : Rep w Z .any x
  | nil (sz : Nat) (f : Nat → AV) : Rep w Z (.im 0 sz f) (.slice none 0 0)
  | im (n sz : Nat) (f : Nat → AV) (b off cap : Nat) (c : Array Value) (e : TypeId) (u : Nat → Value) (hZ : Z b) (h1 : n ≤ cap) (h2 : cap ≤ maxLen)
      (hb : w.heap[b]? = some (.cells c e (0, 0))) (hc : ∀ j, j < n * sz → c[off + j]? = some (u j)) (hr : ∀ j, j < n * sz → Rep w Z (f j) (u j)) : Rep w Z (.im n sz f) (.slice (some ⟨b, off, none⟩) n cap)
  | at_ (m : Nat) (f : Nat → AV) (b off : Nat) (c : Array Value) (e : TypeId) (u : Nat → Value) (hZ : Z b)
      (hb : w.heap[b]? = some (.cells c e (0, 0))) (hc : ∀ j, j < m → c[off + j]? = some (u j)) (hr : ∀ j, j < m → Rep w Z (f j) (u j)) : Rep w Z (.at_ m f) (.pointer (some ⟨b, off, none⟩))
  | agg (cs : List AV) (us : Array Value) (hl : us.size = cs.length) (hr : ∀ j, (h : j < cs.length) → Rep w Z cs[j] (us.getD j undef)) : Rep w Z (.agg cs) (.agg us)
  | tup (cs : List AV) (us : Array Value) (hl : us.size = cs.length) (hr : ∀ j, (h : j < cs.length) → Rep w Z cs[j] (us.getD j undef)) : Rep w Z (.tup cs) (.tuple us)
  | fn (F : FuncId) (cs : List AV) (us : Array Value) (hl : us.size = cs.length) (hr : ∀ j, (h : j < cs.length) → Rep w Z cs[j] (us.getD j undef)) : Rep w Z (.fn F cs) (.func (.func F) #[] us)
  | mpv (n : Nat) (ks : Nat → Value) (f : Nat → AV) (b : Nat) (es : Array MapEntry) (clk : Nat) (hZ : Z b) (hb : w.heap[b]? = some (.map es clk)) (hn : es.size = n) (hk : ∀ j, j < n → (es[j]!).key = ks j ∧ (es[j]!).born < clk)
      (hd : (es.toList.map (·.born)).Nodup) (hr : ∀ j, j < n → Rep w Z (f j) (es[j]!).val) : Rep w Z (.mpv n ks f) (.map (some b))

theorem Rep.keep {w w' : World} {Z Z' : Nat → Prop} (hb : ∀ b, Z b → b < w.heap.size → w'.heap[b]? = w.heap[b]? ∧ Z' b) {x : AV} {u : Value} (h : Rep w Z x u) : Rep w' Z' x u := by
  induction h with
  | v x => exact .v x
  | any x => exact .any x
  | nil sz f => exact .nil sz f
  | im n sz f b off cap c e u hZ h1 h2 hbb hc hr ih =>
    obtain ⟨k1, k2⟩ := hb b hZ (Array.getElem?_eq_some_iff.1 hbb).1
    exact .im n sz f b off cap c e u k2 h1 h2 (k1.trans hbb) hc ih
  | at_ m f b off c e u hZ hbb hc hr ih =>
    obtain ⟨k1, k2⟩ := hb b hZ (Array.getElem?_eq_some_iff.1 hbb).1
    exact .at_ m f b off c e u k2 (k1.trans hbb) hc ih
  | agg cs us hl hr ih => exact .agg cs us hl ih
  | tup cs us hl hr ih => exact .tup cs us hl ih
  | fn F cs us hl hr ih => exact .fn F cs us hl ih
  | mpv n ks f b es clk hZ hbb hn hk hd hr ih =>
    obtain ⟨k1, k2⟩ := hb b hZ (Array.getElem?_eq_some_iff.1 hbb).1
    exact .mpv n ks f b es clk k2 (k1.trans hbb) hn hk hd ih

/-- A block of the function's own: the cells that are known, the type, how many cells there are. -/
structure Own' where
  cs : List AV
  ty : TypeId
  tot : Nat

/-- What the function has of its own: block g; or what is built by append: the slice value u of n elements, sz cells each (nil, or at the head of a block). -/
inductive Ent where
  | box (g : Nat) (o : Own')
  | row (u : Value) (n sz : Nat) (cs : List AV) (ty : TypeId)
  | mp (g : Nat) (es : List (Value × AV × Nat)) (clk : Nat)
  | it (g : Nat) (n : Nat) (ks : Nat → Value) (f : Nat → AV) (seen : List Nat)

def Ent.blk : Ent → Option Nat
  | .box g _ => some g
  | .row u _ _ _ _ => u.ownBlock
  | .mp g _ _ => some g
  | .it g _ _ _ _ => some g

def EntR (w : World) (Z : Nat → Prop) : Ent → Prop
  | .box g o => ∃ c, w.heap[g]? = some (.cells c o.ty (0, 0)) ∧ c.size = o.tot ∧ o.cs.length ≤ o.tot ∧ ∀ j, (h : j < o.cs.length) → ∃ u, c[j]? = some u ∧ Rep w Z o.cs[j] u
  | .row u n sz cs ty => cs.length = n * sz ∧ ((u = .slice none 0 0 ∧ n = 0) ∨ ∃ g cap c, u = .slice (some ⟨g, 0, none⟩) n cap ∧ n ≤ cap ∧ cap ≤ maxLen ∧ w.heap[g]? = some (.cells c ty (0, 0)) ∧ c.size = cap * sz ∧
      ∀ j, (h : j < cs.length) → ∃ u, c[j]? = some u ∧ Rep w Z cs[j] u)
  | .mp g es clk => ∃ c, w.heap[g]? = some (.map c clk) ∧ c.size = es.length ∧ (es.map (·.2.2)).Nodup ∧ ∀ j, (h : j < es.length) → (c[j]!).key = es[j].1 ∧ (c[j]!).born = es[j].2.2 ∧ es[j].2.2 < clk ∧ Rep w Z es[j].2.1 (c[j]!).val
  | .it g n ks f seen => ∃ m c clk last sb, Z m ∧ w.heap[m]? = some (.map c clk) ∧ c.size = n ∧ (c.toList.map (·.born)).Nodup ∧ (∀ j, j < n → (c[j]!).key = ks j ∧ (c[j]!).born < clk ∧ Rep w Z (f j) (c[j]!).val) ∧
      w.heap[g]? = some (.mapIter (some m) clk sb last) ∧ last ≤ clk ∧ (∀ j, j < n → (sb.contains (c[j]!).born = true ↔ j ∈ seen))

/-- The abstract state. -/
structure St' where
  sl : List (Nat × AV)
  hp : List Ent
  k : Nat

def look : List (Nat × AV) → Nat → Option AV
  | [], _ => none
  | (k, x) :: r, t => match Nat.beq k t with
    | true => some x
    | false => look r t

def St'.put (s : St') (d : Option Nat) (x : AV) : St' := match d with
  | some d => ⟨(d, x) :: s.sl, s.hp, s.k⟩
  | none => s

/-- What stays the same through a walk: the world at the start, which old blocks may change, where old lists may lie, how many slots; a resource T of the world (with a budget), the blocks that its calls change, those that it hangs on. -/
structure Bs where
  w0 : World
  S : Nat → Prop
  A : Nat → Prop
  nt : Nat
  str : Nat → Prop
  low : Nat → Prop
  T : World → Nat → Prop

structure Bs.Ok (B : Bs) : Prop where
  keep : ∀ {S : Nat → Prop} {w w' : World} {k : Nat}, B.T w k → Chg S w w' → (∀ j, B.low j → ¬ S j) → B.T w' k
  low : ∀ j, B.low j → j < B.w0.heap.size
  str : ∀ j, B.str j → B.low j ∧ B.S j
  up : ∀ {w : World} {k k' : Nat}, B.T w k → k ≤ k' → B.T w k'

def Zn (B : Bs) (hp : List Ent) (w : World) : Nat → Prop := fun b => b < w.heap.size ∧ (∀ p ∈ hp, p.blk ≠ some b) ∧ (b < B.w0.heap.size → (B.A b ∨ B.S b) ∧ ¬ B.str b)

/-- No two own things lie in one block. -/
def Apart (hp : List Ent) : Prop := hp.Pairwise fun p q => ∀ g, p.blk = some g → q.blk ≠ some g

structure R (B : Bs) (s : St') (a : Act) (w : World) : Prop where
  slots : ∀ t x, look s.sl t = some x → Rep w (Zn B s.hp w) x (a.tmps.getD t undef)
  size : a.tmps.size = B.nt
  defs : a.defers = []
  blocks : ∀ p ∈ s.hp, EntR w (Zn B s.hp w) p
  nodup : Apart s.hp
  chg : Chg B.S B.w0 w
  own : ∀ p ∈ s.hp, ∀ g, p.blk = some g → ¬ B.low g ∧ (g < B.w0.heap.size → B.S g)
  res : B.T w s.k

def post (B : Bs) (Q : Exit → St' → Prop) : Exit → Act → World → Prop := fun e a w => ∃ s, Q e s ∧ R B s a w

def VC (P : Program) (B : Bs) (c : Code) (Q : Exit → St' → Prop) (s : St') : Prop := ∀ a w, R B s a w → c.wp P (post B Q) a w
def VO (P : Program) (B : Bs) (ops : Array Oper) (rest : List Oper) (Q : Exit → St' → Prop) (s : St') : Prop := ∀ a w, R B s a w → wpList P ops (post B Q) rest a w

section
variable {P : Program} {B : Bs} {s s' : St'} {a : Act} {w w' : World} {Q : Exit → St' → Prop}

theorem R.defd (h : R B s a w) : ∀ b, Zn B s.hp w b → b < w.heap.size := fun b hb => hb.1

theorem EntR.lt {Z : Nat → Prop} {p : Ent} (h : EntR w Z p) : ∀ g, p.blk = some g → g < w.heap.size := by
  intro g hg
  cases p with
  | box g' o =>
    obtain ⟨c, hc, _⟩ := h
    cases hg
    exact (Array.getElem?_eq_some_iff.1 hc).1
  | row u n sz cs ty =>
    obtain ⟨_, ⟨rfl, _⟩ | ⟨g', cap, c, rfl, _, _, hc, _⟩⟩ := h
    · simp [Ent.blk, Value.ownBlock] at hg
    · simp [Ent.blk, Value.ownBlock] at hg
      subst hg
      exact (Array.getElem?_eq_some_iff.1 hc).1
  | mp g' es clk =>
    obtain ⟨c, hc, _⟩ := h
    cases hg
    exact (Array.getElem?_eq_some_iff.1 hc).1
  | it g' n ks f seen =>
    obtain ⟨m, c, clk, last, sb, _, _, _, _, _, hc, _⟩ := h
    cases hg
    exact (Array.getElem?_eq_some_iff.1 hc).1
theorem EntR.keep {Z Z' : Nat → Prop} {p : Ent} (h : EntR w Z p) (hb : ∀ b, Z b → b < w.heap.size → w'.heap[b]? = w.heap[b]? ∧ Z' b) (hg : ∀ g, p.blk = some g → w'.heap[g]? = w.heap[g]?) : EntR w' Z' p := by
  cases p with
  | box g o =>
    obtain ⟨c, hc, h1, h2, h3⟩ := h
    exact ⟨c, (hg g rfl).trans hc, h1, h2, fun j hj => let ⟨u, k1, k2⟩ := h3 j hj; ⟨u, k1, k2.keep hb⟩⟩
  | row u n sz cs ty =>
    obtain ⟨h0, h | ⟨g, cap, c, rfl, k1, k2, hc, h1, h3⟩⟩ := h
    · exact ⟨h0, .inl h⟩
    · exact ⟨h0, .inr ⟨g, cap, c, rfl, k1, k2, (hg g rfl).trans hc, h1, fun j hj => let ⟨u, k1, k2⟩ := h3 j hj; ⟨u, k1, k2.keep hb⟩⟩⟩
  | mp g es clk =>
    obtain ⟨c, hc, h1, h2, h3⟩ := h
    exact ⟨c, (hg g rfl).trans hc, h1, h2, fun j hj => ⟨(h3 j hj).1, (h3 j hj).2.1, (h3 j hj).2.2.1, (h3 j hj).2.2.2.keep hb⟩⟩
  | it g n ks f seen =>
    obtain ⟨m, c, clk, last, sb, hZ, hm, h1, h2, h3, hc, h4, h5⟩ := h
    obtain ⟨k1, k2⟩ := hb m hZ (Array.getElem?_eq_some_iff.1 hm).1
    exact ⟨m, c, clk, last, sb, k2, k1.trans hm, h1, h2, fun j hj => ⟨(h3 j hj).1, (h3 j hj).2.1, (h3 j hj).2.2.keep hb⟩, (hg g rfl).trans hc, h4, h5⟩
theorem R.lt (h : R B s a w) : ∀ p ∈ s.hp, ∀ g, p.blk = some g → g < w.heap.size := fun p hp => (h.blocks p hp).lt

theorem look_put (sl : List (Nat × AV)) (d t : Nat) (x : AV) : look ((d, x) :: sl) t = if d = t then some x else look sl t := by
  simp only [look]
  by_cases h : d = t
  · subst h; simp
  · have : Nat.beq d t = false := by
      cases hb : Nat.beq d t with
      | false => rfl
      | true => exact absurd (Nat.eq_of_beq_eq_true hb) h
    rw [this, if_neg h]

theorem tmps_put (a : Act) (d t : Nat) (v : Value) (hd : d < a.tmps.size) : (a.put (some d) v).tmps.getD t undef = if d = t then v else a.tmps.getD t undef := by
  simp only [Act.put, Array.getD_eq_getD_getElem?, Array.getElem?_setIfInBounds]
  by_cases h : d = t
  · subst h; simp [hd]
  · simp [h]

/-- The destination is a slot. -/
def okd (nt : Nat) : Option Nat → Bool
  | some d => Nat.blt d nt
  | none => true

theorem R.put (h : R B s a w) (d : Option Nat) (hd : okd B.nt d = true) (x : AV) (v : Value) (hx : Rep w (Zn B s.hp w) x v) : R B (s.put d x) (a.put d v) w := by
  cases d with
  | none => exact h
  | some d =>
    have hd' : d < a.tmps.size := by rw [h.size]; simpa [okd] using hd
    refine ⟨fun t y hy => ?_, by simp [Act.put, h.size], h.defs, h.blocks, h.nodup, h.chg, h.own, h.res⟩
    simp only [St'.put] at hy ⊢
    rw [tmps_put a d t v hd']
    rw [look_put] at hy
    split at hy
    · rename_i e; rw [if_pos e]; cases hy; exact hx
    · rename_i e; rw [if_neg e]; exact h.slots t y hy

/-- From one abstract state to a weaker one. -/
theorem VC.conv {c : Code} (h : ∀ a w, R B s a w → R B s' a w) (k : VC P B c Q s') : VC P B c Q s := fun a w hr => k a w (h a w hr)
theorem VO.conv {ops : Array Oper} {rest : List Oper} (h : ∀ a w, R B s a w → R B s' a w) (k : VO P B ops rest Q s') : VO P B ops rest Q s := fun a w hr => k a w (h a w hr)

theorem VC.mono {c : Code} {Q' : Exit → St' → Prop} (hq : ∀ e s, Q e s → Q' e s) (k : VC P B c Q s) : VC P B c Q' s :=
  fun a w hr => Code.wp_mono (fun e a w ⟨s, h1, h2⟩ => ⟨s, hq e s h1, h2⟩) (k a w hr)

/-- What Q says of the exits but the normal one, and K of the normal one. -/
def thenQ (K : St' → Prop) (Q : Exit → St' → Prop) : Exit → St' → Prop
  | .normal, s => K s
  | e, s => Q e s
def blockQ (id : Nat) (Q : Exit → St' → Prop) : Exit → St' → Prop
  | .exit id', s => match Nat.beq id' id with
    | true => Q .normal s
    | false => Q (.exit id') s
  | e, s => Q e s

theorem VC.seq {x y : Code} (h : VC P B x (thenQ (VC P B y Q) Q) s) : VC P B (.seq x y) Q s := fun a w hr =>
  wp_seq (Code.wp_mono (fun e a w ⟨s, h1, h2⟩ => by
    cases e with
    | normal => exact h1 a w h2
    | exit id => exact ⟨s, h1, h2⟩
    | goto l => exact ⟨s, h1, h2⟩
    | ret => exact ⟨s, h1, h2⟩
    | panic c => exact ⟨s, h1, h2⟩
    | outgrown => exact ⟨s, h1, h2⟩) (h a w hr))
theorem VC.skip (h : Q .normal s) : VC P B .skip Q s := fun a w hr => wp_skip ⟨s, h, hr⟩
theorem VC.ret (h : Q .ret s) : VC P B .ret Q s := fun a w hr => wp_ret ⟨s, h, hr⟩
theorem VC.exit {id : Nat} (h : Q (.exit id) s) : VC P B (.exit id) Q s := fun a w hr => wp_exit ⟨s, h, hr⟩
theorem VC.block {id : Nat} {c : Code} (h : VC P B c (blockQ id Q) s) : VC P B (.block id c) Q s := fun a w hr =>
  wp_block (Code.wp_mono (fun e a w ⟨s, h1, h2⟩ => by
    cases e with
    | exit id' =>
      simp only [blockQ] at h1
      unfold Exit.inBlock
      simp only
      split
      · rename_i e; subst e; rw [Nat.beq_refl] at h1; exact ⟨s, h1, h2⟩
      · rename_i e
        have : Nat.beq id' id = false := by
          cases hb : Nat.beq id' id with
          | false => rfl
          | true => exact absurd (Nat.eq_of_beq_eq_true hb) e
        rw [this] at h1
        exact ⟨s, h1, h2⟩
    | normal => exact ⟨s, h1, h2⟩
    | goto l => exact ⟨s, h1, h2⟩
    | ret => exact ⟨s, h1, h2⟩
    | panic c => exact ⟨s, h1, h2⟩
    | outgrown => exact ⟨s, h1, h2⟩) (h a w hr))

def evO (s : St') : Operand → Option AV
  | .tmp t => look s.sl t
  | .const x => some (.v x)
  | .func f => some (.v (.func (.func f) #[] #[]))
  | .global g => some (.v (.pointer (some ⟨g, 0, none⟩)))

theorem R.ev (h : R B s a w) {x : Operand} {v : AV} (hv : evO s x = some v) : Rep w (Zn B s.hp w) v (a.eval x) := by
  cases x with
  | tmp t => exact h.slots t v hv
  | const x => simp only [evO, Option.some.injEq] at hv; subst hv; exact .v _
  | func f => simp only [evO, Option.some.injEq] at hv; subst hv; exact .v _
  | global g => simp only [evO, Option.some.injEq] at hv; subst hv; exact .v _

theorem Rep.eq_v {Z : Nat → Prop} {x u : Value} (h : Rep w Z (.v x) u) : u = x := by cases h; rfl
theorem R.evv (h : R B s a w) {x : Operand} {v : Value} (hv : evO s x = some (.v v)) : a.eval x = v := (h.ev hv).eq_v

theorem VC.cond {c : Operand} {x y : Code} {t : Bool} (hc : evO s c = some (.v (.bool t))) (h1 : t = true → VC P B x Q s) (h2 : t = false → VC P B y Q s) : VC P B (.cond c x y) Q s := fun a w hr =>
  wp_cond_split (hr.evv hc) (fun e => h1 e a w hr) (fun e => h2 e a w hr)

/-- A loop: the states at the rounds' heads are T i; each round lowers the measure. -/
theorem VC.loop {c : Code} (ι : Type) (T : ι → St') (μ : ι → Nat) (i0 : ι) (h0 : ∀ a w, R B s a w → R B (T i0) a w)
    (round : ∀ i, VC P B c (thenQ (fun s' => ∃ j, (∀ a w, R B s' a w → R B (T j) a w) ∧ μ j < μ i) Q) (T i)) : VC P B (.loop c) Q s := by
  intro a w hr
  have key : ∀ n i, μ i = n → ∀ a w, R B (T i) a w → ∀ b k cs, ∃ e a' w', post B Q e a' w' ∧ Arrives P (lone (b.at a (.code c :: .inLoop c :: k)) cs w) b k cs e a' w' := by
    intro n
    induction n using Nat.strongRecOn with
    | _ n ih =>
      intro i hn a w hI b k cs
      obtain ⟨e, a₁, w₁, ⟨s1, hq, hr1⟩, harr⟩ := round i a w hI b (.inLoop c :: k) cs
      cases e with
      | normal =>
        obtain ⟨j, hj, hlt⟩ := hq
        obtain ⟨e₂, a₂, w₂, hq₂, harr₂⟩ := ih (μ j) (hn ▸ hlt) j rfl a₁ w₁ (hj _ _ hr1) b k cs
        exact ⟨e₂, a₂, w₂, hq₂, .of_steps (Steps.trans harr (.one step_inLoop)) harr₂⟩
      | exit id => exact ⟨_, a₁, w₁, ⟨s1, hq, hr1⟩, .pass (x := .inLoop c) rfl (fun _ _ => .inl (by simp)) harr⟩
      | goto l => exact ⟨_, a₁, w₁, ⟨s1, hq, hr1⟩, .pass (x := .inLoop c) rfl (fun _ _ => .inl (by simp)) harr⟩
      | ret => exact ⟨_, a₁, w₁, ⟨s1, hq, hr1⟩, .pass (x := .inLoop c) rfl (fun _ _ => .inl (by simp)) harr⟩
      | panic ch => exact ⟨_, a₁, w₁, ⟨s1, hq, hr1⟩, .pass (x := .inLoop c) rfl (fun _ _ => .inl (by simp)) harr⟩
      | outgrown => exact ⟨_, a₁, w₁, ⟨s1, hq, hr1⟩, .pass (x := .inLoop c) rfl (fun _ _ => .inl (by simp)) harr⟩
  intro b k cs
  obtain ⟨e, a', w', hq, harr⟩ := key _ i0 rfl a w (h0 _ _ hr) b k cs
  exact ⟨e, a', w', hq, .of_steps (.one step_loop) harr⟩

theorem VC.region {id : Nat} {l : List Oper} (h : VO P B l.toArray l Q s) : VC P B (.region id l.toArray false) Q s := fun a w hr => wp_region_lit (h a w hr)
theorem VO.nil {ops : Array Oper} (h : Q .normal s) : VO P B ops [] Q s := fun a w hr => ⟨s, h, hr⟩

/-- A step: only the resource's blocks and those of W change. -/
def Ew (B : Bs) (W : Nat → Prop) (w w' : World) : Prop := Chg (fun b => B.str b ∨ W b) w w'
theorem Ew.tr {W : Nat → Prop} : ∀ x y z, Ew B W x y → Ew B W y z → Ew B W x z := fun x y z h k => h.trans k
theorem Ew.rf {W : Nat → Prop} : ∀ x, Ew B W x x := fun x => Chg.refl _ x
theorem Ew.ofN {W : Nat → Prop} (h : Chg NoB w w') : Ew B W w w' := h.any
def AllW : Nat → Prop := fun _ => True

/-- One operation that is carried out: K of the state behind it. -/
def OpE (P : Program) (B : Bs) (W : Nat → Prop) (s : St') (o : Oper) (K : St' → Prop) : Prop :=
  ∀ a w, R B s a w → ∀ (next : Act → World → Prop) (Qx : Exit → Act → World → Prop), (∀ s' a' w', K s' → R B s' a' w' → Ew B W w w' → next a' w') → o.wp P a w next Qx

theorem VO.op {ops : Array Oper} {rest : List Oper} {o : Oper} (hg : o.guard = none) (h : OpE P B AllW s o (VO P B ops rest Q)) : VO P B ops (o :: rest) Q s := fun a w hr =>
  wpList_plain hg fun K hK => h a w hr K _ fun s' a' w' h1 h2 _ => hK a' w' (h1 a' w' h2)

/-- A guarded operation: its guard's slot says whether it is carried out. -/
theorem VO.opG {ops : Array Oper} {rest : List Oper} {o : Oper} {j : Nat} {want b : Bool} {t : Nat} (hg : o.guard = some (j, want)) (hj : (ops[j]?).bind (·.dst) = some t) (hb : look s.sl t = some (.v (.bool b)))
    (hd : okd B.nt o.dst = true)
    (h1 : b = want → OpE P B AllW s o (VO P B ops rest Q)) (h2 : b = (!want) → VO P B ops rest Q (s.put o.dst (.v undef))) : VO P B ops (o :: rest) Q s := fun a w hr => by
  have hv : a.tmps.getD t undef = .bool b := (hr.slots t _ hb).eq_v
  have hy : yielded ops a.tmps j = some b := by
    cases ho : ops[j]? with
    | none => rw [ho] at hj; simp at hj
    | some oo =>
      rw [ho] at hj
      simp only [Option.bind_some] at hj
      have hv' : a.tmps[t]? = some (.bool b) := by
        rw [Array.getD_eq_getD_getElem?] at hv
        cases ht : a.tmps[t]? with
        | none => rw [ht] at hv; simp [undef] at hv
        | some x => rw [ht] at hv; simpa using hv
      simp [yielded, ho, hj, hv']
  refine wpList_step fun K hK => ?_
  by_cases hw : b = want
  · have : Region.wanted o (yielded ops a.tmps) = true := by simp [Region.wanted, hg, hy, hw]
    rw [if_pos this]
    exact h1 hw a w hr K _ fun s' a' w' k1 k2 _ => hK a' w' (k1 a' w' k2)
  · have : Region.wanted o (yielded ops a.tmps) = false := by simp [Region.wanted, hg, hy, hw]
    rw [if_neg (by simp [this])]
    exact hK _ _ (h2 (by cases b <;> cases want <;> simp_all) _ _ (hr.put _ hd _ _ (.v _)))
end
end Go.Proofs.YtgikefjbdhnffaaDoor
