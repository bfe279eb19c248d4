/- The symbolic walk's rules: boxes, literals, make, loads and stores in the function's own blocks, append. -/
import Derived.Test.YtgikefjbdhnffaaDoorSxMem
import Derived.Laws.AppendOwn
import Derived.Laws.MakeOwn
namespace Go.Proofs.YtgikefjbdhnffaaDoor
open Go.RowKit
set_option linter.unusedVariables false
set_option linter.unusedSimpArgs false

def cellsOf : AV → List AV
  | .agg cs => cs
  | .v (.agg us) => us.toList.map .v
  | x => [x]
def AV.known : AV → Bool
  | .any => false
  | _ => true
/-- The value of one cell. -/
def AV.one : AV → Bool
  | .v x => x.oneCell'
  | .im _ _ _ => true
  | .at_ _ _ => true
  | .fn _ _ => true
  | .mpv _ _ _ => true
  | _ => false

theorem Rep.oneC {w : World} {Z : Nat → Prop} {x : AV} {u : Value} (h : Rep w Z x u) (h1 : x.one = true) : u.oneCell' = true := by
  cases h with
  | v x => exact h1
  | nil => rfl
  | im => rfl
  | at_ => rfl
  | fn => rfl
  | mpv => rfl
  | _ => simp [AV.one] at h1

/-- The array holds what the list says. -/
def Reps (w : World) (Z : Nat → Prop) (cs : List AV) (c : Array Value) : Prop := c.size = cs.length ∧ ∀ j, (h : j < cs.length) → Rep w Z cs[j] (c.getD j undef)

theorem getD_lt {c : Array Value} {j : Nat} (h : j < c.size) : c[j]? = some (c.getD j undef) := by
  rw [Array.getD_eq_getD_getElem?, Array.getElem?_eq_getElem h]; rfl

theorem Rep.cells {w : World} {Z : Nat → Prop} {x : AV} {u : Value} (h : Rep w Z x u) (hk : x.known = true) : Reps w Z (cellsOf x) u.cells := by
  cases h with
  | v =>
    cases u with
    | agg us =>
      refine ⟨by simp [cellsOf, Value.cells], fun j hj => ?_⟩
      simp [cellsOf] at hj
      simp only [cellsOf, List.getElem_map, Value.cells]
      rw [show us.toList[j]'(by simpa using hj) = us.getD j undef by rw [Array.getD_eq_getD_getElem?, Array.getElem?_eq_getElem hj]; simp]
      exact .v _
    | _ => exact ⟨rfl, fun j hj => by simp [cellsOf] at hj; subst hj; exact .v _⟩
  | any => simp [AV.known] at hk
  | nil sz f => exact ⟨rfl, fun j hj => by simp [cellsOf] at hj; subst hj; exact .nil sz f⟩
  | im n sz f b off cap c e u hZ h1 h2 hb hc hr => exact ⟨rfl, fun j hj => by simp [cellsOf] at hj; subst hj; exact .im n sz f b off cap c e u hZ h1 h2 hb hc hr⟩
  | at_ m f b off c e u hZ hb hc hr => exact ⟨rfl, fun j hj => by simp [cellsOf] at hj; subst hj; exact .at_ m f b off c e u hZ hb hc hr⟩
  | agg cs us hl hr => exact ⟨hl, hr⟩
  | tup cs us hl hr => exact ⟨rfl, fun j hj => by simp [cellsOf] at hj; subst hj; exact .tup cs us hl hr⟩
  | fn F cs us hl hr => exact ⟨rfl, fun j hj => by simp [cellsOf] at hj; subst hj; exact .fn F cs us hl hr⟩
  | mpv n ks f b es clk hZ hb hn hk2 hd hr => exact ⟨rfl, fun j hj => by simp [cellsOf] at hj; subst hj; exact .mpv n ks f b es clk hZ hb hn hk2 hd hr⟩

theorem Reps.keep {w w' : World} {Z Z' : Nat → Prop} {cs : List AV} {c : Array Value} (h : Reps w Z cs c) (hb : ∀ b, Z b → b < w.heap.size → w'.heap[b]? = w.heap[b]? ∧ Z' b) : Reps w' Z' cs c :=
  ⟨h.1, fun j hj => (h.2 j hj).keep hb⟩

def setAll (cs : List AV) (off : Nat) : List AV → List AV
  | [] => cs
  | x :: r => setAll (cs.set off x) (off + 1) r
def setAllV (c : Array Value) (off : Nat) : List Value → Array Value
  | [] => c
  | x :: r => setAllV (c.setIfInBounds off x) (off + 1) r
theorem setAll_len (cs : List AV) (off : Nat) (l : List AV) : (setAll cs off l).length = cs.length := by
  induction l generalizing cs off with
  | nil => rfl
  | cons x r ih => simp [setAll, ih]
theorem setAllV_size (c : Array Value) (off : Nat) (l : List Value) : (setAllV c off l).size = c.size := by
  induction l generalizing c off with
  | nil => rfl
  | cons x r ih => simp [setAllV, ih]

theorem Reps.set {w : World} {Z : Nat → Prop} {cs : List AV} {c : Array Value} (h : Reps w Z cs c) (j : Nat) {x : AV} {u : Value} (hx : Rep w Z x u) : Reps w Z (cs.set j x) (c.setIfInBounds j u) := by
  refine ⟨by simp [h.1], fun q hq => ?_⟩
  simp at hq
  rw [List.getElem_set, Array.getD_eq_getD_getElem?, Array.getElem?_setIfInBounds]
  by_cases hjq : j = q
  · subst hjq
    have : j < c.size := by rw [h.1]; exact hq
    simp [this]; exact hx
  · rw [if_neg hjq, if_neg hjq, ← Array.getD_eq_getD_getElem?]
    exact h.2 q hq
theorem Reps.setAll {w : World} {Z : Nat → Prop} : ∀ {l : List AV} {us : List Value} {cs : List AV} {c : Array Value} (h : Reps w Z cs c) (off : Nat), us.length = l.length → (∀ j, (hj : j < l.length) → Rep w Z l[j] (us.getD j undef)) → Reps w Z (setAll cs off l) (setAllV c off us)
  | [], [], cs, c, h, off, _, _ => h
  | [], _ :: _, _, _, _, _, hl, _ => by simp at hl
  | _ :: _, [], _, _, _, _, hl, _ => by simp at hl
  | x :: l, u :: us, cs, c, h, off, hl, hr =>
    Reps.setAll (h.set off (hr 0 (Nat.zero_lt_succ _))) (off + 1) (by simpa using hl) fun j hj => hr (j + 1) (Nat.succ_lt_succ hj)

theorem foldl_zip (cells : Array Value) (off : Nat) : ∀ (l : List Value) (k : Nat) (c : Array Value), (l.zipIdx k).foldl (fun cs (p : Value × Nat) => cs.setIfInBounds (off + p.2) p.1) c = setAllV c (off + k) l
  | [], k, c => rfl
  | x :: l, k, c => by
    simp only [List.zipIdx_cons, List.foldl_cons, setAllV]
    rw [foldl_zip cells off l (k + 1)]
    rfl

/-- Parts laid into cells. -/
def fillA (place : Nat → Option (Nat × Nat)) : List AV → List (Nat × AV) → Option (List AV)
  | cs, [] => some cs
  | cs, (i, x) :: rest => match place i with
    | none => none
    | some (off, size) => match Nat.beq (cellsOf x).length size && Nat.ble (off + size) cs.length && x.known with
      | true => fillA place (setAll cs off (cellsOf x)) rest
      | false => none

theorem fill_rep {w : World} {Z : Nat → Prop} {place : Nat → Option (Nat × Nat)} : ∀ {ps : List (Nat × AV)} {qs : List (Nat × Value)} {cs r : List AV} {c : Array Value}, Reps w Z cs c → fillA place cs ps = some r →
    ps.length = qs.length → (∀ (j : Nat) (p : Nat × AV) (q : Nat × Value), ps[j]? = some p → qs[j]? = some q → p.1 = q.1 ∧ Rep w Z p.2 q.2) → ∃ c', Instr.fill place c qs = some c' ∧ Reps w Z r c'
  | [], [], cs, r, c, h, hf, _, _ => by simp only [fillA, Option.some.injEq] at hf; subst hf; exact ⟨c, rfl, h⟩
  | [], _ :: _, _, _, _, _, _, hl, _ => by simp at hl
  | _ :: _, [], _, _, _, _, _, hl, _ => by simp at hl
  | (i, x) :: ps, (i', u) :: qs, cs, r, c, h, hf, hl, hr => by
    obtain ⟨e1, hx⟩ := hr 0 _ _ rfl rfl
    simp only at e1 hx
    subst e1
    simp only [fillA] at hf
    cases hp : place i with
    | none => rw [hp] at hf; cases hf
    | some os =>
      obtain ⟨off, size⟩ := os
      rw [hp] at hf
      simp only at hf
      split at hf
      · rename_i hb
        simp only [Bool.and_eq_true] at hb
        obtain ⟨⟨hb1, hb2⟩, hb3⟩ := hb
        have e1 : (cellsOf x).length = size := Nat.eq_of_beq_eq_true hb1
        have e2 : off + size ≤ cs.length := Nat.le_of_ble_eq_true hb2
        have hc := hx.cells hb3
        have hu : u.cells.size = size := by rw [hc.1, e1]
        have hcs : c.size = cs.length := h.1
        have hn := h.setAll off (l := cellsOf x) (us := u.cells.toList) (by simp [hc.1]) (fun j hj => by
          have := hc.2 j hj
          rwa [show u.cells.toList.getD j undef = u.cells.getD j undef by rw [Array.getD_eq_getD_getElem?, List.getD_eq_getElem?_getD, Array.getElem?_toList]])
        obtain ⟨c', h1, h2⟩ := fill_rep hn hf (by simpa using hl) (fun j p q hp hq => hr (j + 1) p q (by simpa using hp) (by simpa using hq))
        refine ⟨c', ?_, h2⟩
        simp only [Instr.fill, hp]
        rw [if_neg (by simp [hu]; omega)]
        have := foldl_zip c off u.cells.toList 0 c
        rw [show (Array.foldl (fun cs (p : Value × Nat) => cs.setIfInBounds (off + p.2) p.1) c u.cells.zipIdx) = setAllV c off u.cells.toList by
          rw [← Array.foldl_toList, Array.toList_zipIdx]; simpa using this]
        exact h1
      · cases hf

def evPs (s : St') : List (Nat × Operand) → Option (List (Nat × AV))
  | [] => some []
  | (i, x) :: r => match evO s x, evPs s r with
    | some v, some l => some ((i, v) :: l)
    | _, _ => none
def evL (s : St') : List Operand → Option (List AV)
  | [] => some []
  | x :: r => match evO s x, evL s r with
    | some v, some l => some (v :: l)
    | _, _ => none

section
variable {P : Program} {B : Bs} {W : Nat → Prop} {s : St'} {a : Act} {w w' : World} {o : Oper} {K : St' → Prop}

theorem R.evPs (hr : R B s a w) : ∀ {ops : List (Nat × Operand)} {ps : List (Nat × AV)}, Proofs.YtgikefjbdhnffaaDoor.evPs s ops = some ps → ps.length = ops.length ∧ ∀ (j : Nat) (p : Nat × AV) (q : Nat × Value), ps[j]? = some p → (ops.map fun (i, x) => (i, a.eval x))[j]? = some q → p.1 = q.1 ∧ Rep w (Zn B s.hp w) p.2 q.2
  | [], ps, h => by simp only [Proofs.YtgikefjbdhnffaaDoor.evPs, Option.some.injEq] at h; subst h; simp
  | (i, x) :: r, ps, h => by
    simp only [Proofs.YtgikefjbdhnffaaDoor.evPs] at h
    split at h
    · rename_i v l h1 h2
      simp only [Option.some.injEq] at h
      subst h
      obtain ⟨k1, k2⟩ := R.evPs hr h2
      refine ⟨by simp [k1], fun j p q hp hq => ?_⟩
      cases j with
      | zero =>
        simp at hp hq
        subst hp; subst hq
        exact ⟨rfl, hr.ev h1⟩
      | succ j => exact k2 j p q (by simpa using hp) (by simpa using hq)
    · cases h
theorem R.evL (hr : R B s a w) : ∀ {ops : List Operand} {ps : List AV}, Proofs.YtgikefjbdhnffaaDoor.evL s ops = some ps → ps.length = ops.length ∧ ∀ j, (h : j < ps.length) → Rep w (Zn B s.hp w) ps[j] ((ops.map a.eval).getD j undef)
  | [], ps, h => by simp only [Proofs.YtgikefjbdhnffaaDoor.evL, Option.some.injEq] at h; subst h; simp
  | x :: r, ps, h => by
    simp only [Proofs.YtgikefjbdhnffaaDoor.evL] at h
    split at h
    · rename_i v l h1 h2
      simp only [Option.some.injEq] at h
      subst h
      obtain ⟨k1, k2⟩ := R.evL hr h2
      refine ⟨by simp [k1], fun j hj => ?_⟩
      cases j with
      | zero => simpa using hr.ev h1
      | succ j => simpa using k2 j (by simpa using hj)
    · cases h

theorem EntR.box_of {Z : Nat → Prop} {g : Nat} {c : Array Value} {cs : List AV} {ty : TypeId} (hg : w.heap[g]? = some (.cells c ty (0, 0))) (h : Reps w Z cs c) : EntR w Z (.box g ⟨cs, ty, cs.length⟩) :=
  ⟨c, hg, h.1, Nat.le_refl _, fun j hj => ⟨c.getD j undef, getD_lt (by rw [h.1]; exact hj), h.2 j hj⟩⟩

/-- A block of known cells is new. -/
theorem R.newBox (hB : B.Ok) (hr : R B s a w) (c : Array Value) (e : TypeId) (cs : List AV) (h : Reps w (Zn B s.hp w) cs c) : R B ⟨s.sl, s.hp ++ [.box w.heap.size ⟨cs, e, cs.length⟩], s.k⟩ a (w.alloc (.cells c e)) := by
  refine hr.new hB _ _ rfl (EntR.box_of (heap_alloc_new w _) (h.keep fun b hb hl => ⟨Below.heap_alloc _ _ _ hl, by simp; omega, fun p hp => ?_, hb.2.2⟩))
  rcases List.mem_append.1 hp with hp | hp
  · exact hb.2.1 p hp
  · simp at hp; subst hp; intro h; simp [Ent.blk] at h; omega

theorem OpE.box {x : Operand} {e : TypeId} {v : AV} (ho : o.op = .box e x) (hB : B.Ok) (hd : okd B.nt o.dst = true) (hx : evO s x = some v) (hk : v.known = true)
    (hK : ∀ g, K ((St'.mk s.sl (s.hp ++ [.box g ⟨cellsOf v, e, (cellsOf v).length⟩]) s.k).put o.dst (.v (.pointer (some ⟨g, 0, none⟩))))) : OpE P B W s o K := by
  intro a w hr next Qx hn
  have h1 := hr.newBox hB _ e _ ((hr.ev hx).cells hk)
  unfold Oper.wp
  simp only [execOp, ho, Instr.box, newVar, newRow, Sem.run_bind, run_newObj_alloc, Result.andThen_ok, Sem.run_pure]
  exact hn _ _ _ (hK _) (h1.put _ hd _ _ (.v _)) (.ofN ((Chg.refl _ _).alloc _))

theorem OpE.alloc {e : TypeId} {z : Value} {cs : List AV} (ho : o.op = .alloc e) (hB : B.Ok) (hd : okd B.nt o.dst = true) (hz : ∀ w, (zeroValue e).run P w = .ok z w) (hcs : cellsOf (.v z) = cs)
    (hK : ∀ g, K ((St'.mk s.sl (s.hp ++ [.box g ⟨cs, e, cs.length⟩]) s.k).put o.dst (.v (.pointer (some ⟨g, 0, none⟩))))) : OpE P B W s o K := by
  subst hcs
  intro a w hr next Qx hn
  have h1 := hr.newBox hB _ e _ (Rep.cells (.v z) rfl)
  unfold Oper.wp
  simp only [execOp, ho, Instr.alloc, newVar, newRow, Sem.run_bind, hz, run_newObj_alloc, Result.andThen_ok, Sem.run_pure]
  exact hn _ _ _ (hK _) (h1.put _ hd _ _ (.v _)) (.ofN ((Chg.refl _ _).alloc _))

/-- A struct or array literal. -/
theorem OpV.build {t : TypeId} {z : Value} {fs : Array Field} {parts : Array (Nat × Operand)} {pls : Array (Nat × Nat)} {ps : List (Nat × AV)} {r : List AV} (ho : o.op = .build t parts) (hz : ∀ w, (zeroValue t).run P w = .ok z w) (hu : P.underlying t = some (.struct fs))
    (hpl : ∀ w, (fs.mapM fun f => (do pure (f.offset, ← sizeOf f.type) : Sem (Nat × Nat))).run P w = .ok pls w) (hps : evPs s parts.toList = some ps) (hf : fillA (pls[·]?) (cellsOf (.v z)) ps = some r) : OpV P B W s o (.agg r) := by
  intro a w hr
  obtain ⟨k1, k2⟩ := hr.evPs hps
  obtain ⟨c', h1, h2⟩ := fill_rep (Z := Zn B s.hp w) (w := w) (c := z.cells) (Rep.cells (.v z) rfl) hf (qs := parts.toList.map fun (i, x) => (i, a.eval x)) (by simp [k1]) k2
  refine ⟨.agg c', fun w' _ => ?_, .agg _ _ h2.1 h2.2⟩
  have h1' : Instr.fill (fun x => pls[x]?) z.cells (Array.map (fun p => (p.1, a.eval p.2)) parts).toList = some c' := by simpa using h1
  simp only [execOp, ho, Instr.build, Sem.run_bind, hz, run_underlying hu, hpl, Result.andThen_ok]
  have h1'' : Instr.fill (fun x => pls[x]?) z.cells (Array.map (fun x => match x with | (i, x) => (i, a.eval x)) parts).toList = some c' := h1'
  simp only [h1'', Sem.run_pure, Result.andThen_ok]

/-- A literal slice, kept as a list that nobody changes. -/
theorem OpE.buildSlice {t e : TypeId} {n sz : Nat} {zc : Array Value} {parts : Array (Nat × Operand)} {ps : List (Nat × AV)} {r : List AV} (ho : o.op = .buildSlice t n parts) (hB : B.Ok) (hd : okd B.nt o.dst = true) (hu : P.underlying t = some (.slice e))
    (hsz : ∀ w, (sizeOf e).run P w = .ok sz w) {z : Value} (hz : ∀ w, (zeroValue e).run P w = .ok z w) (hn : n * sz ≤ 65536) (h0 : n ≠ 0 ∧ sz ≠ 0) (hzc : (Array.range (n * sz)).map (fun j => z.cells[j % z.cells.size]!) = zc)
    (hps : evPs s parts.toList = some ps) (hf : fillA (fun i => some (i * sz, sz)) (zc.toList.map .v) ps = some r)
    (hK : K (s.put o.dst (.im n sz fun j => r.getD j .any))) : OpE P B W s o K := by
  intro a w hr next Qx hn'
  obtain ⟨k1, k2⟩ := hr.evPs hps
  have hz0 : Reps w (Zn B s.hp w) (zc.toList.map .v) zc := (Rep.cells (.v (.agg zc)) rfl : Reps w _ (cellsOf (.v (.agg zc))) (Value.agg zc).cells)
  obtain ⟨c', h1, h2⟩ := fill_rep (Z := Zn B s.hp w) (w := w) (c := zc) hz0 hf (qs := parts.toList.map fun (i, x) => (i, a.eval x)) (by simp [k1]) k2
  have hsize : c'.size = n * sz := by
    have : ∀ (place : Nat → Option (Nat × Nat)) (qs : List (Nat × Value)) (c c' : Array Value), Instr.fill place c qs = some c' → c'.size = c.size := by
      intro place qs
      induction qs with
      | nil => intro c c' h; simp only [Instr.fill, Option.some.injEq] at h; rw [h]
      | cons q qs ih =>
        intro c c' h
        simp only [Instr.fill] at h
        split at h
        · cases h
        · split at h
          · cases h
          · rw [ih _ _ h]
            rename_i off size _ _
            have := foldl_zip c off q.2.cells.toList 0 c
            rw [show (Array.foldl (fun cs (p : Value × Nat) => cs.setIfInBounds (off + p.2) p.1) c q.2.cells.zipIdx) = setAllV c off q.2.cells.toList by
              rw [← Array.foldl_toList, Array.toList_zipIdx]; simpa using this]
            exact setAllV_size _ _ _
    rw [this _ _ _ _ h1, ← hzc]; simp
  have hr' := hr.alloc hB (.cells c' e)
  have hrep : Rep (w.alloc (.cells c' e)) (Zn B s.hp (w.alloc (.cells c' e))) (.im n sz fun j => r.getD j .any) (.slice (some ⟨w.heap.size, 0, none⟩) n n) := by
    have hl : n ≤ maxLen := by
      have : n ≤ n * sz := Nat.le_mul_of_pos_right n (by omega)
      simp only [maxLen]; omega
    refine .im n sz _ w.heap.size 0 n c' e (fun j => c'.getD j undef) (hr.newZone _) (Nat.le_refl _) hl (heap_alloc_new w _) (fun j hj => by rw [Nat.zero_add]; exact getD_lt (by omega)) fun j hj => ?_
    have hjr : j < r.length := by rw [← h2.1]; omega
    rw [List.getD_eq_getElem?_getD, List.getElem?_eq_getElem hjr]
    exact (h2.2 j hjr).keep fun b hb hl => ⟨Below.heap_alloc _ _ _ hl, by simp; omega, hb.2.1, hb.2.2⟩
  unfold Oper.wp
  have hne : ¬ (n * sz = 0) := Nat.mul_ne_zero h0.1 h0.2
  have hzc' : (Array.map (fun x => z.cells[x % z.cells.size]!) (Array.range (n * sz))) = zc := hzc
  have h24 : ¬ (n * sz > 2 ^ 24) := by omega
  simp only [execOp, ho, Instr.buildSlice, newRow, Sem.run_bind, run_underlying hu, hsz, hz, run_newObj_alloc, Result.andThen_ok, Sem.run_pure, hne, h24, if_false]
  have h1' : Instr.fill (fun i => some (i * sz, sz)) zc (Array.map (fun p => (p.1, a.eval p.2)) parts).toList = some c' := by simpa using h1
  rw [hzc']
  have h1'' : Instr.fill (fun i => some (i * sz, sz)) zc (Array.map (fun x => (x.fst, a.eval x.snd)) parts).toList = some c' := h1'
  rw [h1'']
  simp only [Sem.run_bind, run_newObj_alloc, Result.andThen_ok, Sem.run_pure]
  exact hn' _ _ _ hK (hr'.put _ hd _ _ hrep) (.ofN ((Chg.refl _ _).alloc _))
end
end Go.Proofs.YtgikefjbdhnffaaDoor
