/- The symbolic walk: joins that keep what was known, and odds and ends that the printed walks use. -/
import Derived.Test.YtgikefjbdhnffaaDoorSxTyped
import Derived.Test.YtgikefjbdhnffaaDoorSxDraw
namespace Go.Proofs.YtgikefjbdhnffaaDoor
open Go.RowKit
set_option linter.unusedVariables false
set_option linter.unusedSimpArgs false

def SubL (sl l : List (Nat × AV)) : Prop := ∀ t x, look l t = some x → look sl t = some x
def freeK : List (Nat × AV) → Option Nat → Bool
  | _, none => true
  | [], some _ => true
  | (k, _) :: r, some d => match Nat.beq d k with
    | true => false
    | false => freeK r (some d)
theorem freeK_spec : ∀ {l : List (Nat × AV)} {d : Nat}, freeK l (some d) = true → look l d = none
  | [], d, _ => rfl
  | (k, x) :: r, d, h => by
    simp only [freeK] at h
    rw [look_put]
    split at h
    · cases h
    · rename_i hb
      rw [if_neg (fun e => by subst e; rw [Nat.beq_refl] at hb; cases hb)]
      exact freeK_spec h
theorem SubL.refl {l : List (Nat × AV)} : SubL l l := fun _ _ h => h
theorem SubL.put {s : St'} {d : Option Nat} {x : AV} {l : List (Nat × AV)} (hd : freeK l d = true) (h : SubL s.sl l) : SubL (s.put d x).sl l := by
  cases d with
  | none => exact h
  | some d =>
    intro t y hy
    simp only [St'.put, look_put]
    split
    · rename_i e; subst e; rw [freeK_spec hd] at hy; cases hy
    · exact h t y hy

section
variable {P : Program} {B : Bs} {W : Nat → Prop} {s s' : St'} {o : Oper} {K : St' → Prop} {Q : Exit → St' → Prop}
def SubJ (vs : List (Nat × AV)) (s s1 : St') : Prop := LeL s1.sl vs ∧ SubL s1.sl s.sl ∧ s1.hp = s.hp ∧ s1.k ≤ s.k
theorem SubJ.intro {vs : List (Nat × AV)} {s1 : St'} (h1 : LeL s1.sl vs) (h2 : SubL s1.sl s.sl) (h3 : s1.hp = s.hp) (h4 : s1.k ≤ s.k) : SubJ vs s s1 := ⟨h1, h2, h3, h4⟩
theorem SubJ.le {vs : List (Nat × AV)} {s1 : St'} (hB : B.Ok) (h : SubJ vs s s1) : Le B s1 ⟨vs ++ s.sl, s.hp, s.k⟩ := fun a w hr => by
  obtain ⟨h1, h2, h3, h4⟩ := h
  have key : SubL s1.sl (vs ++ s.sl) := by
    have : ∀ vs, LeL s1.sl vs → SubL s1.sl (vs ++ s.sl) := by
      intro vs
      induction vs with
      | nil => intro _; exact h2
      | cons p r ih =>
        intro h t x hx
        obtain ⟨k, v⟩ := p
        rw [List.cons_append, look_put] at hx
        split at hx
        · rename_i e; subst e; cases hx; exact h.1
        · exact ih h.2 t x hx
    exact this vs h1
  have hr' : R B ⟨vs ++ s.sl, s1.hp, s1.k⟩ a w := hr.drop key (List.Sublist.refl _)
  rw [h3] at hr'
  exact ⟨hr'.slots, hr'.size, hr'.defs, hr'.blocks, hr'.nodup, hr'.chg, hr'.own, hB.up hr'.res h4⟩
/-- A join that keeps all that was known ahead, with new values of some slots. -/
theorem VC.joinS {x y : Code} (vs : List (Nat × AV)) (hB : B.Ok) (h : VC P B x (thenQ (fun s1 => SubJ vs s s1) Q) s) (k : VC P B y Q ⟨vs ++ s.sl, s.hp, s.k⟩) : VC P B (.seq x y) Q s :=
  VC.join _ (VC.mono (fun e s h => by cases e <;> first | exact SubJ.le hB h | exact h) h) k

theorem capM {cap : Nat} (h : cap ≤ 1000000000000) : cap ≤ maxLen := by unfold maxLen; omega
/-- A bool that is known to be one or the other. -/
theorem VA.split {V : Nat → Nat → Prop} {ops : Array Oper} {n : Nat} {L : Array Bool} {t : Nat} {b : Bool} (hb : look s.sl t = some (.v (.bool b))) (h1 : b = true → VA P B V ops Q n L s) (h2 : b = false → VA P B V ops Q n L s) : VA P B V ops Q n L s := by
  cases b with
  | true => exact h1 rfl
  | false => exact h2 rfl
theorem VO.split {ops : Array Oper} {rest : List Oper} {t : Nat} {b : Bool} (hb : look s.sl t = some (.v (.bool b))) (h1 : b = true → VO P B ops rest Q s) (h2 : b = false → VO P B ops rest Q s) : VO P B ops rest Q s := by
  cases b with
  | true => exact h1 rfl
  | false => exact h2 rfl
theorem yielded_undef {ops : Array Oper} {a : Act} {j t : Nat} (hj : (ops[j]?).bind (·.dst) = some t) (hv : a.tmps.getD t undef = undef) : yielded ops a.tmps j = none := by
  unfold yielded
  rw [hj]
  simp only [Option.bind_some]
  rw [Array.getD_eq_getD_getElem?] at hv
  cases ht : a.tmps[t]? with
  | none => rfl
  | some x => rw [ht] at hv; simp at hv; subst hv; rfl
/-- The guard's own operation was not carried out: nor is this one. -/
theorem VO.opU {ops : Array Oper} {rest : List Oper} {o : Oper} {j : Nat} {want : Bool} {t : Nat} (hg : o.guard = some (j, want)) (hj : (ops[j]?).bind (·.dst) = some t) (hb : look s.sl t = some (.v undef)) (hd : okd B.nt o.dst = true)
    (h : VO P B ops rest Q (s.put o.dst (.v undef))) : VO P B ops (o :: rest) Q s := fun a w hr => by
  have hy : yielded ops a.tmps j = none := yielded_undef hj (hr.slots t _ hb).eq_v
  refine wpList_step fun K hK => ?_
  rw [if_neg (by simp [Region.wanted, hg, hy])]
  exact hK _ _ (h _ _ (hr.put _ hd _ _ (.v _)))
theorem VA.takeU {V : Nat → Nat → Prop} {ops : Array Oper} {n : Nat} {L : Array Bool} {i : Nat} {o : Oper} {j t : Nat} {want : Bool} (hi : ops[i]? = some o) (hs : Region.noSelect ops = true) (hf : Region.free .any ops L i = true) (hr : (Region.ready .any ops L).contains i = true) (hg : o.guard = some (j, want)) (hj : (ops[j]?).bind (·.dst) = some t)
    (hb : look s.sl t = some (.v undef)) (hd : okd B.nt o.dst = true) (h : VA P B V ops Q n (L.setIfInBounds i true) (s.put o.dst (.v undef))) : VA P B V ops Q (n + 1) L s := fun a w hR => by
  have hy : yielded ops a.tmps j = none := yielded_undef hj (hR.slots t _ hb).eq_v
  exact wpAnyE_first (F := Ew B (Wi V ops i)) Ew.tr Ew.rf (fun x => Ew.rf x) Wi.of hi (Region.noSelect_spec hs) n L a w (Region.free_spec hi hf) (by simpa using hr) (.inr ⟨by simp [Region.wanted, hg, hy], rfl⟩) (h _ _ (hR.put _ hd _ _ (.v _)))
/-- A call that uses the resource, the budget written out. -/
theorem OpE.callT' {f : FuncId} {args : Array Operand} {ts : Array TypeId} {xs : List AV} {G : AV → Prop} {c : Nat} (kk : Nat) (hkk : s.k = kk) (ho : o.op = .call { callee := .value (.func f), args := args, argTypes := ts }) (hB : B.Ok) (hd : okd B.nt o.dst = true)
    (hcall : ∀ us w, (callFunc f us).run P w = .ok (.enter f us) w) (hxs : evL s args.toList = some xs) (hspec : SpecT P B.T B.str f xs c G) (hk : kk + c ≤ 1000000) (hK : ∀ y, G y → K ((St'.mk s.sl s.hp (kk + c)).put o.dst y)) : OpE P B W s o K := by
  subst hkk
  exact OpE.callT ho hB hd hcall hxs hspec hk hK
/-- A call of a function value: what it has captured is as its contract wants it. -/
theorem OpE.callF {f : Operand} {F : FuncId} {args : Array Operand} {ts : Array TypeId} {cs xs : List AV} {G : AV → Prop} (ho : o.op = .call { callee := .value f, args := args, argTypes := ts }) (hB : B.Ok) (hd : okd B.nt o.dst = true)
    (hcall : ∀ us w, (callFunc F us).run P w = .ok (.enter F us) w) (hf : evO s f = some (.fn F cs)) (hxs : evL s args.toList = some xs) (hspec : Spec P F (xs ++ cs) G) (hK : ∀ y, G y → K (s.put o.dst y)) : OpE P B W s o K := by
  intro a w hr next Qx hn
  have hfv := hr.ev hf
  generalize hfe : a.eval f = fv at hfv
  cases hfv with
  | fn F cs us hl hcr =>
  have ha := evL_args hr hxs
  have hA : Args w (Zo B s.hp) (xs ++ cs) (args.map a.eval ++ us) := by
    refine ⟨by simp [ha.1, hl], fun j hj => ?_⟩
    by_cases hjx : j < xs.length
    · rw [List.getElem_append_left hjx]
      have hlt : j < (args.map a.eval).size := by rw [ha.1]; exact hjx
      have : (args.map a.eval ++ us).getD j undef = (args.map a.eval).getD j undef := by
        rw [Array.getD_eq_getD_getElem?, Array.getD_eq_getD_getElem?, Array.getElem?_append_left hlt]
      rw [this]
      exact ha.2 j hjx
    · rw [List.getElem_append_right (by omega)]
      have hj' : j - xs.length < cs.length := by rw [List.length_append] at hj; omega
      have : (args.map a.eval ++ us).getD j undef = us.getD (j - xs.length) undef := by
        rw [Array.getD_eq_getD_getElem?, Array.getD_eq_getD_getElem?, Array.getElem?_append_right (by rw [ha.1]; omega), ha.1]
      rw [this]
      exact (hcr _ hj').keep fun b hb _ => ⟨rfl, hb.1, hb.2⟩
  have h1 := hspec w _ _ hA
  unfold Oper.wp
  simp only [execOp, ho, resolve, hfe, Deferred.ofValue, Sem.run_bind, Sem.run_pure, Result.andThen_ok, invoke, hcall, Array.empty_append]
  simp only [Oper.upon]
  refine h1.mono fun e w' hret => ?_
  obtain ⟨y, v, h2, rfl, h3, h4, h5⟩ := hret
  have hr' : R B s a w' := hr.stepN hB h4
  exact hn _ _ _ (hK y h2) (hr'.put _ hd _ _ (h3.keep fun b hb hl => ⟨rfl, hr.zret h4 b hb⟩)) (.ofN h4)

theorem infoOf {P : Program} {e : TypeId} {z : Value} (i : TypeInfo) (sz : Nat) (h : P.info? e = some i) (hz : i.zero = some z) (hs : i.size = sz) : (P.info? e).map (fun i => (i.zero, i.size, i.bytes)) = some (some z, sz, i.bytes) := by
  rw [h, ← hs, ← hz]; rfl
theorem ne2_0 {φ : Nat → Prop} (h1 : φ 1) : ∀ i, i < 2 → i ≠ 0 → φ i := fun i hi hne => by
  match i, hi, hne with
  | 0, _, h => exact absurd rfl h
  | 1, _, _ => exact h1
  | i + 2, h, _ => omega
theorem ne2_1 {φ : Nat → Prop} (h0 : φ 0) : ∀ i, i < 2 → i ≠ 1 → φ i := fun i hi hne => by
  match i, hi, hne with
  | 0, _, _ => exact h0
  | 1, _, h => exact absurd rfl h
  | i + 2, h, _ => omega
theorem ne3_0 {φ : Nat → Prop} (h1 : φ 1) (h2 : φ 2) : ∀ i, i < 3 → i ≠ 0 → φ i := fun i hi hne => by
  match i, hi, hne with
  | 0, _, h => exact absurd rfl h
  | 1, _, _ => exact h1
  | 2, _, _ => exact h2
  | i + 3, h, _ => omega
theorem ne3_1 {φ : Nat → Prop} (h0 : φ 0) (h2 : φ 2) : ∀ i, i < 3 → i ≠ 1 → φ i := fun i hi hne => by
  match i, hi, hne with
  | 0, _, _ => exact h0
  | 1, _, h => exact absurd rfl h
  | 2, _, _ => exact h2
  | i + 3, h, _ => omega
theorem ne3_2 {φ : Nat → Prop} (h0 : φ 0) (h1 : φ 1) : ∀ i, i < 3 → i ≠ 2 → φ i := fun i hi hne => by
  match i, hi, hne with
  | 0, _, _ => exact h0
  | 1, _, _ => exact h1
  | 2, _, h => exact absurd rfl h
  | i + 3, h, _ => omega
theorem ne4_0 {φ : Nat → Prop} (h1 : φ 1) (h2 : φ 2) (h3 : φ 3) : ∀ i, i < 4 → i ≠ 0 → φ i := fun i hi hne => by
  match i, hi, hne with
  | 0, _, h => exact absurd rfl h
  | 1, _, _ => exact h1
  | 2, _, _ => exact h2
  | 3, _, _ => exact h3
  | i + 4, h, _ => omega
theorem ne4_1 {φ : Nat → Prop} (h0 : φ 0) (h2 : φ 2) (h3 : φ 3) : ∀ i, i < 4 → i ≠ 1 → φ i := fun i hi hne => by
  match i, hi, hne with
  | 0, _, _ => exact h0
  | 1, _, h => exact absurd rfl h
  | 2, _, _ => exact h2
  | 3, _, _ => exact h3
  | i + 4, h, _ => omega
theorem ne4_2 {φ : Nat → Prop} (h0 : φ 0) (h1 : φ 1) (h3 : φ 3) : ∀ i, i < 4 → i ≠ 2 → φ i := fun i hi hne => by
  match i, hi, hne with
  | 0, _, _ => exact h0
  | 1, _, _ => exact h1
  | 2, _, h => exact absurd rfl h
  | 3, _, _ => exact h3
  | i + 4, h, _ => omega
theorem ne4_3 {φ : Nat → Prop} (h0 : φ 0) (h1 : φ 1) (h2 : φ 2) : ∀ i, i < 4 → i ≠ 3 → φ i := fun i hi hne => by
  match i, hi, hne with
  | 0, _, _ => exact h0
  | 1, _, _ => exact h1
  | 2, _, _ => exact h2
  | 3, _, h => exact absurd rfl h
  | i + 4, h, _ => omega
theorem ne5_0 {φ : Nat → Prop} (h1 : φ 1) (h2 : φ 2) (h3 : φ 3) (h4 : φ 4) : ∀ i, i < 5 → i ≠ 0 → φ i := fun i hi hne => by
  match i, hi, hne with
  | 0, _, h => exact absurd rfl h
  | 1, _, _ => exact h1
  | 2, _, _ => exact h2
  | 3, _, _ => exact h3
  | 4, _, _ => exact h4
  | i + 5, h, _ => omega
theorem ne5_1 {φ : Nat → Prop} (h0 : φ 0) (h2 : φ 2) (h3 : φ 3) (h4 : φ 4) : ∀ i, i < 5 → i ≠ 1 → φ i := fun i hi hne => by
  match i, hi, hne with
  | 0, _, _ => exact h0
  | 1, _, h => exact absurd rfl h
  | 2, _, _ => exact h2
  | 3, _, _ => exact h3
  | 4, _, _ => exact h4
  | i + 5, h, _ => omega
theorem ne5_2 {φ : Nat → Prop} (h0 : φ 0) (h1 : φ 1) (h3 : φ 3) (h4 : φ 4) : ∀ i, i < 5 → i ≠ 2 → φ i := fun i hi hne => by
  match i, hi, hne with
  | 0, _, _ => exact h0
  | 1, _, _ => exact h1
  | 2, _, h => exact absurd rfl h
  | 3, _, _ => exact h3
  | 4, _, _ => exact h4
  | i + 5, h, _ => omega
theorem ne5_3 {φ : Nat → Prop} (h0 : φ 0) (h1 : φ 1) (h2 : φ 2) (h4 : φ 4) : ∀ i, i < 5 → i ≠ 3 → φ i := fun i hi hne => by
  match i, hi, hne with
  | 0, _, _ => exact h0
  | 1, _, _ => exact h1
  | 2, _, _ => exact h2
  | 3, _, h => exact absurd rfl h
  | 4, _, _ => exact h4
  | i + 5, h, _ => omega
theorem ne5_4 {φ : Nat → Prop} (h0 : φ 0) (h1 : φ 1) (h2 : φ 2) (h3 : φ 3) : ∀ i, i < 5 → i ≠ 4 → φ i := fun i hi hne => by
  match i, hi, hne with
  | 0, _, _ => exact h0
  | 1, _, _ => exact h1
  | 2, _, _ => exact h2
  | 3, _, _ => exact h3
  | 4, _, h => exact absurd rfl h
  | i + 5, h, _ => omega
theorem lt2 {φ : Nat → Prop} (h0 : φ 0) (h1 : φ 1) : ∀ j, j < 2 → φ j
  | 0, _ => h0 | 1, _ => h1
theorem lt1 {φ : Nat → Prop} (h0 : φ 0) : ∀ j, j < 1 → φ j
  | 0, _ => h0
theorem lt3 {φ : Nat → Prop} (h0 : φ 0) (h1 : φ 1) (h2 : φ 2) : ∀ j, j < 3 → φ j
  | 0, _ => h0 | 1, _ => h1 | 2, _ => h2
theorem lt4 {φ : Nat → Prop} (h0 : φ 0) (h1 : φ 1) (h2 : φ 2) (h3 : φ 3) : ∀ j, j < 4 → φ j
  | 0, _ => h0 | 1, _ => h1 | 2, _ => h2 | 3, _ => h3
theorem lt5 {φ : Nat → Prop} (h0 : φ 0) (h1 : φ 1) (h2 : φ 2) (h3 : φ 3) (h4 : φ 4) : ∀ j, j < 5 → φ j
  | 0, _ => h0 | 1, _ => h1 | 2, _ => h2 | 3, _ => h3 | 4, _ => h4
theorem ArgsP.nil : ArgsP P B s [] [] := trivial
theorem ArgsP.cons {x : Operand} {v : AV} {r : List Operand} {l : List AV} (h : ArgP P B s x v) (hr : ArgsP P B s r l) : ArgsP P B s (x :: r) (v :: l) := ⟨h, hr⟩
/-- A function without captured variables, as a value. -/
theorem ArgP.fn0 {x : Operand} {F : FuncId} (hx : evO s x = some (.v (.func (.func F) #[] #[]))) : ArgP P B s x (.fn F []) := fun a w hr => by
  rw [hr.evv hx]; exact .fn F [] #[] rfl fun j hj => by simp at hj
theorem ArgP.fn1 {x : Operand} {F : FuncId} {i g off m : Nat} {o' : Own'} {f : Nat → AV} (hx : evO s x = some (.v (.func (.func F) #[] #[.pointer (some ⟨g, off, none⟩)]))) (hi : s.hp[i]? = some (.box g o')) (hl : off + m ≤ o'.cs.length)
    (hf : ∀ j, j < m → o'.cs.getD (off + j) .any = f j) : ArgP P B s x (.fn F [.at_ m f]) := fun a w hr => by
  rw [hr.evv hx]
  have hp : Rep w (fun b => b < w.heap.size ∧ True) (.at_ m fun j => o'.cs.getD (off + j) .any) (.pointer (some ⟨g, off, none⟩)) := hr.repPtr hi hl (fun b hb => ⟨hb.1, trivial⟩) fun hl => ⟨hl, trivial⟩
  refine .fn F _ #[_] rfl fun j hj => ?_
  simp at hj
  subst hj
  exact hp.at_congr hf
theorem ArgP.fn2 {x : Operand} {F : FuncId} {i g off m i2 g2 off2 m2 : Nat} {o' o2 : Own'} {f f2 : Nat → AV} (hx : evO s x = some (.v (.func (.func F) #[] #[.pointer (some ⟨g, off, none⟩), .pointer (some ⟨g2, off2, none⟩)]))) (hi : s.hp[i]? = some (.box g o')) (hl : off + m ≤ o'.cs.length)
    (hf : ∀ j, j < m → o'.cs.getD (off + j) .any = f j) (hi2 : s.hp[i2]? = some (.box g2 o2)) (hl2 : off2 + m2 ≤ o2.cs.length)
    (hf2 : ∀ j, j < m2 → o2.cs.getD (off2 + j) .any = f2 j) : ArgP P B s x (.fn F [.at_ m f, .at_ m2 f2]) := fun a w hr => by
  rw [hr.evv hx]
  have hp : Rep w (fun b => b < w.heap.size ∧ True) (.at_ m fun j => o'.cs.getD (off + j) .any) (.pointer (some ⟨g, off, none⟩)) := hr.repPtr hi hl (fun b hb => ⟨hb.1, trivial⟩) fun hl => ⟨hl, trivial⟩
  have hp2 : Rep w (fun b => b < w.heap.size ∧ True) (.at_ m2 fun j => o2.cs.getD (off2 + j) .any) (.pointer (some ⟨g2, off2, none⟩)) := hr.repPtr hi2 hl2 (fun b hb => ⟨hb.1, trivial⟩) fun hl => ⟨hl, trivial⟩
  refine .fn F _ #[_, _] rfl fun j hj => ?_
  simp at hj
  match j, hj with
  | 0, _ => exact hp.at_congr hf
  | 1, _ => exact hp2.at_congr hf2
/-- A bound of a slicing. -/
def BndO (s : St') : Option Operand → Nat → Nat → Prop
  | none, d, n => n = d
  | some y, _, n => ∃ k i, evO s y = some (.v (.int k i)) ∧ i = (n : Int)
theorem BndO.run {lo : Option Operand} {d n : Nat} (h : BndO s lo d n) {a : Act} {w : World} (hr : R B s a w) : (lo = none ∧ n = d) ∨ ∃ k, lo.map a.eval = some (.int k n) := by
  cases lo with
  | none => exact .inl ⟨rfl, h⟩
  | some y =>
    obtain ⟨k, i, h1, rfl⟩ := h
    exact .inr ⟨k, by simp [hr.evv h1]⟩
theorem sliceB_run {isS : Bool} {len cap l h : Nat} {lo hi : Option Value} {dl : lo = none ∧ l = 0 ∨ ∃ k, lo = some (.int k l)} {dh : hi = none ∧ h = len ∨ ∃ k, hi = some (.int k h)} (h1 : l ≤ h) (h2 : h ≤ cap) (w : World) :
    (Instr.sliceBounds isS len cap lo hi none).run P w = .ok (l, h, cap) w := by
  rcases dl with ⟨rfl, rfl⟩ | ⟨k, rfl⟩ <;> rcases dh with ⟨rfl, rfl⟩ | ⟨k', rfl⟩
  · simp [Instr.sliceBounds]
  · simp [Instr.sliceBounds, Instr.sliceBound, asIntOf, h2]
  · simp [Instr.sliceBounds, Instr.sliceBound, asIntOf, h1]
  · simp [Instr.sliceBounds, Instr.sliceBound, asIntOf, h1, h2]
theorem OpV.slice_s {t : TypeId} {x : Operand} {lo hi : Option Operand} {l h : Nat} {p : ByteArray} (ho : o.op = .slice t x lo hi none) (hu : P.underlying t = some .string) (hx : evO s x = some (.v (.string p)))
    (hl : BndO s lo 0 l) (hh : BndO s hi p.size h) (h1 : l ≤ h) (h2 : h ≤ p.size) : OpV P B W s o (avS (p.extract l h)) :=
  OpV.conc (fun a w hr w' hcw => by
    have e := sliceB_run (P := P) (isS := false) (len := p.size) (cap := p.size) (l := l) (h := h) (lo := lo.map a.eval) (hi := hi.map a.eval) (dl := (hl.run hr).imp (fun ⟨h1, h2⟩ => ⟨by rw [h1]; rfl, h2⟩) id) (dh := (hh.run hr).imp (fun ⟨h1, h2⟩ => ⟨by rw [h1]; rfl, h2⟩) id) h1 h2 w'
    simp [execOp, ho, Instr.sliceAt, Instr.slice, run_underlying hu, hr.evv hx, e])
theorem OpV.makeFunc1 {fn : Fn} {c : Operand} {u : Value} (ho : o.op = .makeFunc fn #[] #[c]) (hc : evO s c = some (.v u)) : OpV P B W s o (.v (.func fn #[] #[u])) :=
  OpV.makeFunc ho fun a w hr => by simp [hr.evv hc]
theorem OpV.makeFunc2 {fn : Fn} {c d : Operand} {u v : Value} (ho : o.op = .makeFunc fn #[] #[c, d]) (hc : evO s c = some (.v u)) (hd : evO s d = some (.v v)) : OpV P B W s o (.v (.func fn #[] #[u, v])) :=
  OpV.makeFunc ho fun a w hr => by simp [hr.evv hc, hr.evv hd]
theorem OpV.shr1 {x y : Operand} {t u : TypeId} {a : Int} {k kk : IntKind} (ho : o.op = .binOp .shr t x y u) (hx : evO s x = some (.v (.int k a))) (hy : evO s y = some (.v (.int kk 1))) (hk : min (1 : Int).toNat k.bits = 1) (h0 : 0 ≤ a) : OpV P B W s o (.v (.int k (a / 2))) :=
  OpV.conc (fun a' w hr w' hcw => by
    have : a.fdiv 2 = a / 2 := Int.fdiv_eq_ediv_of_nonneg _ (by decide)
    have hk' : min 1 k.bits = 1 := hk
    simp [execOp, ho, hr.evv hx, hr.evv hy, eqGuard, binOp, Op.shift, hk', this])
theorem OpV.fieldAddrO (off : Nat) {x : Operand} {t f : Nat} {fs : Array Field} {fd : Field} {g j k : Nat} (ho : o.op = .fieldAddr t x f) (hu : P.underlying t = some (.struct fs)) (hf : fs[f]? = some fd) (hoff : fd.offset = off) (hsz : ∀ w, (sizeOf fd.type).run P w = .ok (k + 1) w) (hx : evO s x = some (.v (.pointer (some ⟨g, j, none⟩)))) :
    OpV P B W s o (.v (.pointer (some ⟨g, j + off, none⟩))) := by subst hoff; exact OpV.fieldAddr ho hu hf hsz hx
theorem OpV.fieldAddr_atO (off : Nat) {x : Operand} {t f : Nat} {fs : Array Field} {fd : Field} {m k : Nat} {F : Nat → AV} (ho : o.op = .fieldAddr t x f) (hu : P.underlying t = some (.struct fs)) (hf : fs[f]? = some fd) (hoff : fd.offset = off) (hsz : ∀ w, (sizeOf fd.type).run P w = .ok (k + 1) w) (hx : evO s x = some (.at_ m F)) (hm : Nat.ble (off + (k + 1)) m = true) :
    OpV P B W s o (.at_ (k + 1) fun j => F (off + j)) := by subst hoff; exact OpV.fieldAddr_at ho hu hf hsz hx hm
theorem run_bool_eql {P : Program} (w : World) (t : TypeId) (a b : Bool) (h : P.underlying t = some .bool) : (binOp .eql t (.bool a) (.bool b)).run P w = .ok (.bool (a == b)) w := by
  show ((do pure (Value.bool (← Op.equalIn (9999 + 1) t (.bool a) (.bool b)))) : Sem Value).run P w = _
  simp only [Sem.run_bind, run_equalIn_bool w 9999 t a b h, Result.andThen_ok, Sem.run_pure]
theorem run_bool_neq {P : Program} (w : World) (t : TypeId) (a b : Bool) (h : P.underlying t = some .bool) : (binOp .neq t (.bool a) (.bool b)).run P w = .ok (.bool (!(a == b))) w := by
  show ((do pure (Value.bool (!(← Op.equalIn (9999 + 1) t (.bool a) (.bool b))))) : Sem Value).run P w = _
  simp only [Sem.run_bind, run_equalIn_bool w 9999 t a b h, Result.andThen_ok, Sem.run_pure]
theorem OpV.beql {x y : Operand} {t u : TypeId} {a b : Bool} (ho : o.op = .binOp .eql t x y u) (hu : P.underlying t = some .bool) (hx : evO s x = some (.v (.bool a))) (hy : evO s y = some (.v (.bool b))) : OpV P B W s o (.v (.bool (a == b))) :=
  OpV.conc (fun a' w hr w' hcw => by simp only [execOp, ho, hr.evv hx, hr.evv hy, eqGuard, Sem.run_bind, run_bool_eql _ t a b hu]; simp)
theorem OpV.bneq {x y : Operand} {t u : TypeId} {a b : Bool} (ho : o.op = .binOp .neq t x y u) (hu : P.underlying t = some .bool) (hx : evO s x = some (.v (.bool a))) (hy : evO s y = some (.v (.bool b))) : OpV P B W s o (.v (.bool (!(a == b)))) :=
  OpV.conc (fun a' w hr w' hcw => by simp only [execOp, ho, hr.evv hx, hr.evv hy, eqGuard, Sem.run_bind, run_bool_neq _ t a b hu]; simp)
theorem OpV.recast {x y : AV} (h : OpV P B W s o x) (hxy : ∀ w Z u, Rep w Z x u → Rep w Z y u) : OpV P B W s o y := fun a w hr =>
  let ⟨v, h1, h2⟩ := h a w hr
  ⟨v, h1, hxy _ _ _ h2⟩
theorem OpV.slice_im {t e sz n : Nat} {x : Operand} {F : Nat → AV} {lo hi : Option Operand} {l h : Nat} (ho : o.op = .slice t x lo hi none) (hu : P.underlying t = some (.slice e)) (hsz : ∀ w, (sizeOf e).run P w = .ok sz w) (hx : evO s x = some (.im n sz F))
    (hl : BndO s lo 0 l) (hh : BndO s hi n h) (h1 : l ≤ h) (h2 : h ≤ n) : OpV P B W s o (.im (h - l) sz fun j => F (l * sz + j)) := fun a w hr => by
  have hv := hr.ev hx
  generalize hva : a.eval x = v at hv
  cases hv with
  | nil =>
    have hl0 : l = 0 := by omega
    have hh0 : h = 0 := by omega
    subst hl0; subst hh0
    refine ⟨.slice none 0 0, fun w' hc => ?_, .nil _ _⟩
    have e := sliceB_run (P := P) (isS := true) (len := 0) (cap := 0) (l := 0) (h := 0) (lo := lo.map a.eval) (hi := hi.map a.eval) (dl := (hl.run hr).imp (fun ⟨h1, h2⟩ => ⟨by rw [h1]; rfl, h2⟩) id) (dh := (hh.run hr).imp (fun ⟨h1, h2⟩ => ⟨by rw [h1]; rfl, h2⟩) id) h1 h2 w'
    simp [execOp, ho, Instr.sliceAt, Instr.slice, run_underlying hu, hva, e, hsz]
  | im n sz f b off cap c ee u hZ k1 k2 hbb hc hrr =>
    have e := fun w' => sliceB_run (P := P) (isS := true) (len := n) (cap := cap) (l := l) (h := h) (lo := lo.map a.eval) (hi := hi.map a.eval) (dl := (hl.run hr).imp (fun ⟨h1, h2⟩ => ⟨by rw [h1]; rfl, h2⟩) id) (dh := (hh.run hr).imp (fun ⟨h1, h2⟩ => ⟨by rw [h1]; rfl, h2⟩) id) h1 (by omega) w'
    by_cases hcl : cap = l
    · subst hcl
      refine ⟨.slice (some ⟨b, off, none⟩) (h - cap) (cap - cap), fun w' hc => ?_, ?_⟩
      · simp [execOp, ho, Instr.sliceAt, Instr.slice, run_underlying hu, hva, e w', hsz]
      · have : h - cap = 0 := by omega
        rw [this]
        exact .im 0 sz _ b off _ c ee u hZ (by omega) (by omega) hbb (fun j hj => by omega) (fun j hj => by omega)
    · refine ⟨.slice (some ⟨b, off + l * sz, none⟩) (h - l) (cap - l), fun w' hc => ?_, ?_⟩
      · simp [execOp, ho, Instr.sliceAt, Instr.slice, run_underlying hu, hva, e w', hsz, hcl, Addr.add]
      · have hle : ∀ j, j < (h - l) * sz → l * sz + j < n * sz := fun j hj => by
          have : (l + (h - l)) * sz ≤ n * sz := Nat.mul_le_mul_right _ (by omega)
          rw [Nat.add_mul] at this; omega
        refine .im (h - l) sz _ b (off + l * sz) (cap - l) c ee (fun j => u (l * sz + j)) hZ (by omega) (by omega) hbb (fun j hj => ?_) (fun j hj => hrr _ (hle j hj))
        rw [Nat.add_assoc]
        exact hc _ (hle j hj)
theorem getD_cut {α : Type} {xs : List α} {l h j : Nat} {d : α} (h2 : h ≤ xs.length) (hj : j < h - l) : ((xs.take h).drop l).getD j d = xs.getD (l + j) d := by
  simp only [List.getD_eq_getElem?_getD, List.getElem?_drop, List.getElem?_take]
  rw [if_pos (by omega)]
theorem len_cut {α : Type} {xs : List α} {l h : Nat} (h2 : h ≤ xs.length) : ((xs.take h).drop l).length = h - l := by simp; omega
section
variable {t e sz : Nat} {x : Operand} {lo hi : Option Operand} {l h : Nat}
theorem OpV.slice_ints {xs : List Int} (ho : o.op = .slice t x lo hi none) (hu : P.underlying t = some (.slice e)) (hsz : ∀ w, (sizeOf e).run P w = .ok 1 w) (hx : evO s x = some (avInts xs))
    (hl : BndO s lo 0 l) (hh : BndO s hi xs.length h) (h1 : l ≤ h) (h2 : h ≤ xs.length) : OpV P B W s o (avInts ((xs.take h).drop l)) :=
  (OpV.slice_im ho hu hsz hx hl hh h1 h2).recast fun w Z u hr => by
    rw [avInts, len_cut h2]
    exact hr.im_congr fun j hj => by rw [Nat.mul_one] at hj ⊢; rw [getD_cut h2 hj]
theorem OpV.slice_strs {xs : List ByteArray} (ho : o.op = .slice t x lo hi none) (hu : P.underlying t = some (.slice e)) (hsz : ∀ w, (sizeOf e).run P w = .ok 1 w) (hx : evO s x = some (avStrs xs))
    (hl : BndO s lo 0 l) (hh : BndO s hi xs.length h) (h1 : l ≤ h) (h2 : h ≤ xs.length) : OpV P B W s o (avStrs ((xs.take h).drop l)) :=
  (OpV.slice_im ho hu hsz hx hl hh h1 h2).recast fun w Z u hr => by
    rw [avStrs, len_cut h2]
    exact hr.im_congr fun j hj => by rw [Nat.mul_one] at hj ⊢; rw [getD_cut h2 hj]
theorem OpV.slice_L {α : Type} [Inhabited α] [Sxc α] {xs : List α} (ho : o.op = .slice t x lo hi none) (hu : P.underlying t = some (.slice e)) (hsz : ∀ w, (sizeOf e).run P w = .ok (Sxc.k α) w) (hx : evO s x = some (avL xs))
    (hl : BndO s lo 0 l) (hh : BndO s hi xs.length h) (h1 : l ≤ h) (h2 : h ≤ xs.length) : OpV P B W s o (avL ((xs.take h).drop l)) :=
  (OpV.slice_im ho hu hsz hx hl hh h1 h2).recast fun w Z u hr => by
    rw [avL, len_cut h2]
    have hp := Sxc.pos (α := α)
    refine hr.im_congr fun j hj => ?_
    have e1 : (l * Sxc.k α + j) / Sxc.k α = l + j / Sxc.k α := by rw [Nat.add_comm, Nat.add_mul_div_right _ _ hp, Nat.add_comm]
    have e2 : (l * Sxc.k α + j) % Sxc.k α = j % Sxc.k α := by rw [Nat.add_comm, Nat.add_mul_mod_self_right]
    simp only [e1, e2]
    rw [getD_cut h2 (Nat.div_lt_of_lt_mul (by rw [Nat.mul_comm]; exact hj))]
end
/-- An element of one's own slice at the head of its block, elements of one cell. -/
theorem OpV.indexAddr_o {x y : Operand} {t e n g cap q : Nat} {k : IntKind} {i : Int} (ho : o.op = .indexAddr t x y) (hu : P.underlying t = some (.slice e)) (hsz : ∀ w, (sizeOf e).run P w = .ok 1 w)
    (hx : evO s x = some (.v (.slice (some ⟨g, 0, none⟩) n cap))) (hy : evO s y = some (.v (.int k i))) (hq : i = (q : Int)) (h1 : q < n) : OpV P B W s o (.v (.pointer (some ⟨g, q, none⟩))) := by
  subst hq
  have := OpV.indexAddr_v (B := B) (W := W) ho hu hsz hx hy (by omega) (by omega)
  simpa using this
/-- One's own list of ints is given up. -/
theorem Le.boxI {t i n g cap : Nat} {xs : List Int} {ty : TypeId} {tot : Nat} (hB : B.Ok) (hnew : True) (ht : look s.sl t = some (.v (.slice (some ⟨g, 0, none⟩) n cap))) (hi : s.hp[i]? = some (.box g ⟨intsL xs, ty, tot⟩)) (hn : n = xs.length) (hcap : n ≤ cap) (hm : cap ≤ maxLen) :
    Le B s ⟨(t, avInts xs) :: s.sl, s.hp.eraseIdx i, s.k⟩ :=
  Le.box (n := n) (sz := 1) hB hnew ht hi (by show 0 + n * 1 ≤ (intsL xs).length; rw [intsL_len]; omega) hcap hm fun w Z u h => Rep.ints hn (h.im_congr fun j hj => by rw [Nat.zero_add])
theorem ArgP.boxI {x : Operand} {i n g cap : Nat} {xs : List Int} {ty : TypeId} {tot : Nat} (hx : evO s x = some (.v (.slice (some ⟨g, 0, none⟩) n cap))) (hi : s.hp[i]? = some (.box g ⟨intsL xs, ty, tot⟩)) (hn : n = xs.length) (hcap : n ≤ cap) (hm : cap ≤ maxLen) : ArgP P B s x (avInts xs) :=
  ArgP.box (n := n) (sz := 1) hx hi (by show 0 + n * 1 ≤ (intsL xs).length; rw [intsL_len]; omega) hcap hm fun w Z u h => Rep.ints hn (h.im_congr fun j hj => by rw [Nat.zero_add])
/-- One's own rows (built by append) are given up. -/
theorem Le.rowI {t i n : Nat} {u : Value} {xs : List Int} {ty : TypeId} (hB : B.Ok) (hnew : True) (ht : look s.sl t = some (.v u)) (hi : s.hp[i]? = some (.row u n 1 (intsL xs) ty)) (hn : n = xs.length) : Le B s ⟨(t, avInts xs) :: s.sl, s.hp.eraseIdx i, s.k⟩ :=
  Le.row hB hnew ht hi fun w Z u h => Rep.ints hn h
theorem Le.rowS {t i n : Nat} {u : Value} {xs : List ByteArray} {ty : TypeId} (hB : B.Ok) (hnew : True) (ht : look s.sl t = some (.v u)) (hi : s.hp[i]? = some (.row u n 1 (strsL xs) ty)) (hn : n = xs.length) : Le B s ⟨(t, avStrs xs) :: s.sl, s.hp.eraseIdx i, s.k⟩ :=
  Le.row hB hnew ht hi fun w Z u h => Rep.strs hn h
theorem Le.rowT {α : Type} [Inhabited α] [Sxc α] {t i n : Nat} {u : Value} {xs : List α} {ty : TypeId} (hB : B.Ok) (hnew : True) (ht : look s.sl t = some (.v u)) (hi : s.hp[i]? = some (.row u n (Sxc.k α) (rowL xs) ty)) (hn : n = xs.length) : Le B s ⟨(t, avL xs) :: s.sl, s.hp.eraseIdx i, s.k⟩ :=
  Le.row hB hnew ht hi fun w Z u h => Rep.rowL hn h
theorem ArgP.rowI {x : Operand} {i n : Nat} {u : Value} {xs : List Int} {ty : TypeId} (hx : evO s x = some (.v u)) (hi : s.hp[i]? = some (.row u n 1 (intsL xs) ty)) (hn : n = xs.length) : ArgP P B s x (avInts xs) := ArgP.row hx hi fun w Z u h => Rep.ints hn h
theorem ArgP.rowS {x : Operand} {i n : Nat} {u : Value} {xs : List ByteArray} {ty : TypeId} (hx : evO s x = some (.v u)) (hi : s.hp[i]? = some (.row u n 1 (strsL xs) ty)) (hn : n = xs.length) : ArgP P B s x (avStrs xs) := ArgP.row hx hi fun w Z u h => Rep.strs hn h
theorem ArgP.rowT {α : Type} [Inhabited α] [Sxc α] {x : Operand} {i n : Nat} {u : Value} {xs : List α} {ty : TypeId} (hx : evO s x = some (.v u)) (hi : s.hp[i]? = some (.row u n (Sxc.k α) (rowL xs) ty)) (hn : n = xs.length) : ArgP P B s x (avL xs) := ArgP.row hx hi fun w Z u h => Rep.rowL hn h
theorem OpV.indexAddr_q {x y : Operand} {t e n sz g off cap q : Nat} {k : IntKind} {i : Int} (ho : o.op = .indexAddr t x y) (hu : P.underlying t = some (.slice e)) (hsz : ∀ w, (sizeOf e).run P w = .ok sz w)
    (hx : evO s x = some (.v (.slice (some ⟨g, off, none⟩) n cap))) (hy : evO s y = some (.v (.int k i))) (hq : i = (q : Int)) (h1 : q < n) : OpV P B W s o (.v (.pointer (some ⟨g, off + q * sz, none⟩))) := by
  subst hq
  have := OpV.indexAddr_v (B := B) (W := W) ho hu hsz hx hy (by omega) (by omega)
  simpa using this
end

/-- A contract of a function that hands back a list of its caller's own. -/
def SpecR (P : Program) (F : FuncId) (xs : List AV) (n sz : Nat) (cs : List AV) (ty : TypeId) : Prop :=
  ∀ (w : World) (us : Array Value), Args w (fun _ => True) xs us → Calls P F us w fun e w' => ∃ u, e = .returned u ∧ EntR w' (fun _ => False) (.row u n sz cs ty) ∧ (∀ g, u.ownBlock = some g → w.heap.size ≤ g) ∧ Chg NoB w w'
section
variable {P : Program} {B : Bs} {W : Nat → Prop} {s : St'} {o : Oper} {K : St' → Prop} {a : Act} {w w' : World}
theorem R.newRow (hB : B.Ok) (hr : R B s a w) (hc : Chg NoB w w') {e : Ent} (hb : ∀ g, e.blk = some g → w.heap.size ≤ g) (hE : EntR w' (fun _ => False) e) : R B ⟨s.sl, s.hp ++ [e], s.k⟩ a w' := by
  have hEl := hE.lt
  have hz : ∀ b, Zn B s.hp w b → b < w.heap.size → w'.heap[b]? = w.heap[b]? ∧ Zn B (s.hp ++ [e]) w' b := fun b hb' hl => by
    refine ⟨hc.block b hl fun h => h, Nat.lt_of_lt_of_le hl hc.size, fun p hp => ?_, hb'.2.2⟩
    rcases List.mem_append.1 hp with hp | hp
    · exact hb'.2.1 p hp
    · simp at hp; subst hp; intro h; have := hb b h; omega
  have hw0 := hr.chg.size
  refine ⟨fun t x hx => (hr.slots t x hx).keep hz, hr.size, hr.defs, fun p hp => ?_, ?_, ?_, fun p hp g hg => ?_, hB.keep hr.res hc fun j _ h => h⟩
  · rcases List.mem_append.1 hp with hp | hp
    · exact (hr.blocks p hp).keep hz fun g hg => hc.block g (hr.lt p hp g hg) fun h => h
    · simp at hp; subst hp; exact hE.keep (fun b h => h.elim) fun g hg => rfl
  · refine Apart.of fun i j p q hij hi hj g hg hq => ?_
    by_cases hjl : j < s.hp.length
    · rw [List.getElem?_append_left (by omega)] at hi
      rw [List.getElem?_append_left hjl] at hj
      exact hr.nodup.get hi hj (by omega) hg hq
    · have hje : j = s.hp.length := by
        have := (List.getElem?_eq_some_iff.1 hj).1
        simp at this; omega
      rw [hje, List.getElem?_append_right (Nat.le_refl _)] at hj
      simp at hj
      subst hj
      rw [List.getElem?_append_left (by omega)] at hi
      have := hr.lt p (List.mem_of_getElem? hi) g hg
      have := hb g hq
      omega
  · exact hr.chg.trans (hc.any)
  · rcases List.mem_append.1 hp with hp | hp
    · exact hr.own p hp g hg
    · simp at hp; subst hp
      have := hb g hg
      exact ⟨fun h => by have := hB.low g h; omega, fun h => by omega⟩
theorem OpE.callR {f : FuncId} {args : Array Operand} {ts : Array TypeId} {xs : List AV} {n sz : Nat} {cs : List AV} {ty : TypeId} (ho : o.op = .call { callee := .value (.func f), args := args, argTypes := ts }) (hB : B.Ok) (hd : okd B.nt o.dst = true)
    (hcall : ∀ us w, (callFunc f us).run P w = .ok (.enter f us) w) (hspec : SpecR P f xs n sz cs ty) (hargs : ArgsP P B s args.toList xs) (hK : ∀ u, K ((St'.mk s.sl (s.hp ++ [.row u n sz cs ty]) s.k).put o.dst (.v u))) : OpE P B W s o K := by
  intro a w hr next Qx hn
  have hA : Args w (fun _ => True) xs (args.map a.eval) := by
    obtain ⟨k1, k2⟩ := ArgsP.args hr hargs
    refine ⟨by simpa using k1, fun j hj => ?_⟩
    rw [show (args.map a.eval).getD j undef = (args.toList.map a.eval).getD j undef by rw [Array.getD_eq_getD_getElem?, List.getD_eq_getElem?_getD]; simp]
    exact k2 j hj
  have h1 := hspec w _ hA
  unfold Oper.wp
  simp only [execOp, ho, resolve, Act.eval, Deferred.ofValue, Sem.run_bind, Sem.run_pure, Result.andThen_ok, invoke, hcall, Array.empty_append, Array.append_empty]
  simp only [Oper.upon]
  refine h1.mono fun e w' hret => ?_
  obtain ⟨u, rfl, h3, h4, h5⟩ := hret
  have hr' : R B ⟨s.sl, s.hp ++ [.row u n sz cs ty], s.k⟩ a w' := hr.newRow hB h5 h4 h3
  exact hn _ _ _ (hK u) (hr'.put _ hd _ _ (.v _)) (.ofN h5)
/-- One's own row of ints, n > 0, as a block whose cells one may write. -/
theorem VC.asBox {c : Code} {Q : Exit → St' → Prop} {i n sz : Nat} {u : Value} {cs : List AV} {ty : TypeId} (hi : s.hp[i]? = some (.row u n sz cs ty)) (hn : 0 < n)
    (h : ∀ g cap, u = .slice (some ⟨g, 0, none⟩) n cap → n ≤ cap → cap ≤ maxLen → VC P B c Q ⟨s.sl, s.hp.set i (.box g ⟨cs, ty, cap * sz⟩), s.k⟩) : VC P B c Q s := fun a w hr => by
  obtain ⟨g, cap, h1, h2, h3, h4⟩ := hr.rowBox hi hn
  exact h g cap h1 h2 h3 a w h4
end
section
variable {α : Type} [Inhabited α] [Sxc α]
theorem rowL_at {xs : List α} {q j k : Nat} (hk : k = Sxc.k α) (h : q < xs.length) (hj : j < k) : (rowL xs)[0 + q * k + j]? = some (Sxc.cell (xs.getD q default) j) := by
  subst hk; rw [Nat.zero_add]; exact rowL_get xs q j h hj
theorem rowL_set {xs : List α} {q j k : Nat} {v : AV} {x : α} (hk : k = Sxc.k α) (h : q < xs.length) (hj : j < k) (hv : v = Sxc.cell x j) (ho : ∀ i, i < k → i ≠ j → Sxc.cell (xs.getD q default) i = Sxc.cell x i) : (rowL xs).set (0 + q * k + j) v = rowL (xs.set q x) := by
  subst hk
  rw [Nat.zero_add]
  have hp := Sxc.pos (α := α)
  apply List.ext_getElem?
  intro i
  by_cases hi : i < xs.length * Sxc.k α
  · have hd : i / Sxc.k α < xs.length := Nat.div_lt_of_lt_mul (by rw [Nat.mul_comm]; exact hi)
    have hm := Nat.mod_lt i hp
    have e : i = i / Sxc.k α * Sxc.k α + i % Sxc.k α := by rw [Nat.mul_comm]; exact (Nat.div_add_mod i _).symm
    have e1 := rowL_get xs (i / Sxc.k α) (i % Sxc.k α) hd hm
    have e2 := rowL_get (xs.set q x) (i / Sxc.k α) (i % Sxc.k α) (by rw [List.length_set]; exact hd) hm
    rw [← e] at e1 e2
    rw [e2, List.getElem?_set]
    by_cases hij : q * Sxc.k α + j = i
    · have hq : i / Sxc.k α = q := by rw [← hij, Nat.add_comm, Nat.add_mul_div_right _ _ hp, Nat.div_eq_of_lt hj, Nat.zero_add]
      have hj' : i % Sxc.k α = j := by rw [← hij, Nat.add_comm, Nat.add_mul_mod_self_right, Nat.mod_eq_of_lt hj]
      rw [if_pos hij, if_pos (by rw [rowL_len, hij]; exact hi), hq, hj', hv]
      simp [h]
    · rw [if_neg hij, e1]
      by_cases hq : i / Sxc.k α = q
      · have hj' : i % Sxc.k α ≠ j := fun h' => hij (by rw [← hq, ← h']; exact e.symm)
        rw [hq]
        have := ho _ hm hj'
        simp [h] at this ⊢
        exact this
      · congr 2
        simp only [List.getD_eq_getElem?_getD, List.getElem?_set]
        rw [if_neg (fun h => hq h.symm)]
  · have l1 : ((rowL xs).set (q * Sxc.k α + j) v).length ≤ i := by rw [List.length_set, rowL_len]; omega
    have l2 : (rowL (xs.set q x)).length ≤ i := by rw [rowL_len, List.length_set]; omega
    rw [List.getElem?_eq_none l1, List.getElem?_eq_none l2]
theorem rowL_in {xs : List α} {q j k : Nat} (hk : k = Sxc.k α) (h : q < xs.length) (hj : j < k) : 0 + q * k + j < (rowL xs).length := by
  subst hk
  rw [rowL_len, Nat.zero_add]
  have : (q + 1) * Sxc.k α ≤ xs.length * Sxc.k α := Nat.mul_le_mul_right _ h
  rw [Nat.add_mul] at this
  omega
theorem Le.boxT {B : Bs} {s : St'} {t i n g cap : Nat} {xs : List α} {ty : TypeId} {tot : Nat} (hB : B.Ok) (hnew : True) (ht : look s.sl t = some (.v (.slice (some ⟨g, 0, none⟩) n cap))) (hi : s.hp[i]? = some (.box g ⟨rowL xs, ty, tot⟩)) (hn : n = xs.length) (hcap : n ≤ cap) (hm : cap ≤ maxLen) :
    Le B s ⟨(t, avL xs) :: s.sl, s.hp.eraseIdx i, s.k⟩ :=
  Le.box (n := n) (sz := Sxc.k α) hB hnew ht hi (by show 0 + n * Sxc.k α ≤ (rowL xs).length; rw [rowL_len]; rw [hn]; omega) hcap hm fun w Z u h => Rep.rowL hn (h.im_congr fun j hj => by rw [Nat.zero_add])
end
/-- A block of one's own, as a row again. -/
theorem Le.boxRow {B : Bs} {s : St'} {i g n cap sz : Nat} {cs : List AV} {ty : TypeId} (hi : s.hp[i]? = some (.box g ⟨cs, ty, cap * sz⟩)) (hl : cs.length = n * sz) (hn : n ≤ cap) (hm : cap ≤ maxLen) :
    Le B s ⟨s.sl, s.hp.set i (.row (.slice (some ⟨g, 0, none⟩) n cap) n sz cs ty), s.k⟩ := fun a w hr => by
  have hil := (List.getElem?_eq_some_iff.1 hi).1
  have key : ∀ (j : Nat) (p : Ent), (s.hp.set i (.row (.slice (some ⟨g, 0, none⟩) n cap) n sz cs ty))[j]? = some p → ∃ p', s.hp[j]? = some p' ∧ p'.blk = p.blk ∧ (p' = p ∨ (p' = .box g ⟨cs, ty, cap * sz⟩ ∧ p = .row (.slice (some ⟨g, 0, none⟩) n cap) n sz cs ty)) := fun j p hp => by
    rw [List.getElem?_set] at hp
    split at hp
    · rename_i e
      subst e
      first | rw [if_pos hil] at hp | skip
      cases hp
      exact ⟨_, hi, rfl, .inr ⟨rfl, rfl⟩⟩
    · exact ⟨p, hp, rfl, .inl rfl⟩
  have hZ : ∀ b, Zn B s.hp w b → Zn B (s.hp.set i (.row (.slice (some ⟨g, 0, none⟩) n cap) n sz cs ty)) w b := fun b hb => ⟨hb.1, fun p hp => by
    obtain ⟨j, hj⟩ := List.mem_iff_getElem?.1 hp
    obtain ⟨p', h1, h2, _⟩ := key j p hj
    rw [← h2]; exact hb.2.1 p' (List.mem_of_getElem? h1), hb.2.2⟩
  refine ⟨fun t x hx => (hr.slots t x hx).keep fun b hb _ => ⟨rfl, hZ b hb⟩, hr.size, hr.defs, fun p hp => ?_, ?_, hr.chg, fun p hp g' hg => ?_, hr.res⟩
  · obtain ⟨j, hj⟩ := List.mem_iff_getElem?.1 hp
    obtain ⟨p', h1, h2, h3 | ⟨h3, h4⟩⟩ := key j p hj
    · subst h3; exact (hr.blocks p' (List.mem_of_getElem? h1)).keep (fun b hb _ => ⟨rfl, hZ b hb⟩) fun g _ => rfl
    · subst h3; subst h4
      obtain ⟨c, k1, k2, k3, k4⟩ := hr.blocks _ (List.mem_of_getElem? h1)
      exact ⟨hl, .inr ⟨g, cap, c, rfl, hn, hm, k1, k2, fun j hj => let ⟨u, q1, q2⟩ := k4 j hj; ⟨u, q1, q2.keep fun b hb _ => ⟨rfl, hZ b hb⟩⟩⟩⟩
  · refine Apart.of fun j k p q hjk hp hq g' hg => ?_
    obtain ⟨p', h1, h2, _⟩ := key j p hp
    obtain ⟨q', h3, h4, _⟩ := key k q hq
    rw [← h4]
    exact hr.nodup.get h1 h3 (by omega) (h2.trans hg)
  · obtain ⟨j, hj⟩ := List.mem_iff_getElem?.1 hp
    obtain ⟨p', h1, h2, _⟩ := key j p hj
    exact hr.own p' (List.mem_of_getElem? h1) g' (h2.trans hg)
theorem EntR.ofOwns {w : World} {lo n : Nat} {ty : TypeId} {v : Value} {xs : List Int} (h : w.ownsRow lo ty 1 v n (xs.map fun x => Value.int .i64 x)) : EntR w (fun _ => False) (.row v n 1 (intsL xs) ty) ∧ ∀ g, v.ownBlock = some g → lo ≤ g := by
  obtain ⟨hl, ⟨rfl, rfl⟩ | ⟨g, cap, cur, rfl, h1, h2, h3, h4, h5, h6⟩⟩ := h
  · exact ⟨⟨by rw [intsL_len]; simpa using hl, .inl ⟨rfl, rfl⟩⟩, fun g hg => by simp [Value.ownBlock] at hg⟩
  · have hl' : xs.length = n * 1 := by simpa using hl
    refine ⟨⟨by rw [intsL_len]; exact hl', .inr ⟨g, cap, cur, rfl, h3, h4, h2, h5, fun j hj => ?_⟩⟩, fun g' hg => by simp [Value.ownBlock] at hg; omega⟩
    rw [intsL_len] at hj
    have hjc : j < cur.size := by rw [h5]; omega
    refine ⟨cur[j], by simp [hjc], ?_⟩
    have : cur[j] = .int .i64 xs[j] := by
      have e := congrArg (fun l => l[j]?) h6
      simp only [List.getElem?_take, List.getElem?_map] at e
      rw [if_pos (by omega)] at e
      simpa [hjc, hj] using e
    rw [this]
    simp only [intsL, List.getElem_map]
    exact .v _

/-! Results that are new. -/
def NewZ (B : Bs) (w : World) : Nat → Prop := fun b => b < w.heap.size ∧ (b < B.w0.heap.size → False)
def ResN (P : Program) (s : St') (r : ResultVar) (x : AV) : Prop := ∀ B a w, (∀ b, ¬ B.S b) → R B s a w → ∃ v, (resRun a.tmps r).run P w = .ok v w ∧ Rep w (NewZ B w) x v
def RetN (P : Program) (fn : Func) (s : St') (y : AV) : Prop := ∀ B a w, (∀ b, ¬ B.S b) → R B s a w → ∃ v, (results fn a.tmps).run P w = .ok v w ∧ Rep w (NewZ B w) y v
def FlatA (cs : List AV) : Prop := ∀ x ∈ cs, ∃ v, x = .v v
theorem flat_ints (xs : List Int) : FlatA (intsL xs) := fun x h => by obtain ⟨n, _, rfl⟩ := List.mem_map.1 h; exact ⟨_, rfl⟩
theorem flat_strs (xs : List ByteArray) : FlatA (strsL xs) := fun x h => by obtain ⟨n, _, rfl⟩ := List.mem_map.1 h; exact ⟨_, rfl⟩
theorem flat_bools (xs : List Bool) : FlatA (boolsL xs) := fun x h => by obtain ⟨n, _, rfl⟩ := List.mem_map.1 h; exact ⟨_, rfl⟩
theorem Rep.flat {w w' : World} {Z Z' : Nat → Prop} {x : AV} {u : Value} (h : Rep w Z x u) (hx : ∃ v, x = .v v) : Rep w' Z' x u := by
  obtain ⟨v, rfl⟩ := hx
  rw [h.eq_v]; exact .v v
section
variable {P : Program} {s : St'} {fn : Func} {r1 r2 r3 r4 : ResultVar} {x1 x2 x3 x4 : AV}
theorem ResN.v {t : Nat} {x : Value} (h : look s.sl t = some (.v x)) : ResN P s (.tmp t) (.v x) := fun B a w hS hr => ⟨_, rfl, (hr.slots t _ h).flat ⟨_, rfl⟩⟩
theorem ResN.row {t i n sz : Nat} {u : Value} {cs : List AV} {ty : TypeId} {y : AV} (h : look s.sl t = some (.v u)) (hi : s.hp[i]? = some (.row u n sz cs ty)) (hf : FlatA cs)
    (hy : ∀ w Z u, Rep w Z (.im n sz fun j => cs.getD j .any) u → Rep w Z y u) : ResN P s (.tmp t) y := fun B a w hS hr => by
  refine ⟨_, rfl, ?_⟩
  have he := List.mem_of_getElem? hi
  show Rep w (NewZ B w) y (a.tmps.getD t undef)
  rw [(hr.slots t _ h).eq_v]
  refine hy _ _ _ ?_
  have hn := fun g hg => hr.isNew hS he (g := g) hg
  obtain ⟨h0, ⟨rfl, rfl⟩ | ⟨g, cap, c, rfl, h1, h2, h3, h4, h5⟩⟩ := hr.blocks _ he
  · exact .nil _ _
  · refine .im n sz _ g 0 cap c ty (fun j => c.getD j undef) ⟨(Array.getElem?_eq_some_iff.1 h3).1, fun hl => hn g rfl hl⟩ h1 h2 h3 (fun j hj => ?_) fun j hj => ?_
    · obtain ⟨x, k1, _⟩ := h5 j (by omega)
      rw [Nat.zero_add]
      exact getD_lt (Array.getElem?_eq_some_iff.1 k1).1
    · obtain ⟨x, k1, k2⟩ := h5 j (by omega)
      rw [List.getD_eq_getElem?_getD, List.getElem?_eq_getElem (by omega)]
      rw [show c.getD j undef = x by rw [Array.getD_eq_getD_getElem?, k1]; rfl]
      exact k2.flat (hf _ (List.getElem_mem _))
theorem ResN.box {t i n sz g cap : Nat} {o' : Own'} {y : AV} (h : look s.sl t = some (.v (.slice (some ⟨g, 0, none⟩) n cap))) (hi : s.hp[i]? = some (.box g o')) (hl : n * sz ≤ o'.cs.length) (hnc : n ≤ cap) (hm : cap ≤ maxLen) (hf : FlatA o'.cs)
    (hy : ∀ w Z u, Rep w Z (.im n sz fun j => o'.cs.getD j .any) u → Rep w Z y u) : ResN P s (.tmp t) y := fun B a w hS hr => by
  refine ⟨_, rfl, ?_⟩
  have he := List.mem_of_getElem? hi
  show Rep w (NewZ B w) y (a.tmps.getD t undef)
  rw [(hr.slots t _ h).eq_v]
  refine hy _ _ _ ?_
  have hn := hr.isNew hS he (g := g) rfl
  obtain ⟨c, h1, h2, h3, h4⟩ := hr.blocks _ he
  refine .im n sz _ g 0 cap c o'.ty (fun j => c.getD j undef) ⟨(Array.getElem?_eq_some_iff.1 h1).1, fun hl => hn hl⟩ hnc hm h1 (fun j hj => ?_) fun j hj => ?_
  · obtain ⟨x, k1, _⟩ := h4 j (by omega)
    rw [Nat.zero_add]
    exact getD_lt (Array.getElem?_eq_some_iff.1 k1).1
  · obtain ⟨x, k1, k2⟩ := h4 j (by omega)
    rw [List.getD_eq_getElem?_getD, List.getElem?_eq_getElem (by omega)]
    rw [show c.getD j undef = x by rw [Array.getD_eq_getD_getElem?, k1]; rfl]
    exact k2.flat (hf _ (List.getElem_mem _))
theorem ResN.rowI {t i n : Nat} {u : Value} {xs : List Int} {ty : TypeId} (h : look s.sl t = some (.v u)) (hi : s.hp[i]? = some (.row u n 1 (intsL xs) ty)) (hn : n = xs.length) : ResN P s (.tmp t) (avInts xs) :=
  ResN.row h hi (flat_ints xs) fun w Z u h => Rep.ints hn h
theorem ResN.rowS {t i n : Nat} {u : Value} {xs : List ByteArray} {ty : TypeId} (h : look s.sl t = some (.v u)) (hi : s.hp[i]? = some (.row u n 1 (strsL xs) ty)) (hn : n = xs.length) : ResN P s (.tmp t) (avStrs xs) :=
  ResN.row h hi (flat_strs xs) fun w Z u h => Rep.strs hn h
theorem ResN.boxI {t i n g cap : Nat} {xs : List Int} {ty : TypeId} {tot : Nat} (h : look s.sl t = some (.v (.slice (some ⟨g, 0, none⟩) n cap))) (hi : s.hp[i]? = some (.box g ⟨intsL xs, ty, tot⟩)) (hn : n = xs.length) (hcap : n ≤ cap) (hm : cap ≤ maxLen) : ResN P s (.tmp t) (avInts xs) :=
  ResN.box h hi (by show n * 1 ≤ (intsL xs).length; rw [intsL_len]; omega) hcap hm (flat_ints xs) fun w Z u h => Rep.ints hn h
theorem ResN.nilI {t : Nat} (h : look s.sl t = some (.v (.slice none 0 0))) : ResN P s (.tmp t) (avInts []) := fun B a w hS hr => ⟨_, rfl, by
  show Rep w (NewZ B w) _ (a.tmps.getD t undef)
  rw [(hr.slots t _ h).eq_v]; exact .nil _ _⟩
theorem RetN.one (h : fn.results = #[r1]) (h1 : ResN P s r1 x1) : RetN P fn s x1 := fun B a w hS hr => by
  obtain ⟨v1, k1, q1⟩ := h1 B a w hS hr
  exact ⟨v1, by simp [results_eq, h, k1], q1⟩
theorem RetN.two (h : fn.results = #[r1, r2]) (h1 : ResN P s r1 x1) (h2 : ResN P s r2 x2) : RetN P fn s (.tup [x1, x2]) := fun B a w hS hr => by
  obtain ⟨v1, k1, q1⟩ := h1 B a w hS hr
  obtain ⟨v2, k2, q2⟩ := h2 B a w hS hr
  refine ⟨.tuple #[v1, v2], by simp [results_eq, h, k1, k2], .tup _ _ rfl fun j hj => ?_⟩
  match j, hj with
  | 0, _ => exact q1
  | 1, _ => exact q2
theorem RetN.three (h : fn.results = #[r1, r2, r3]) (h1 : ResN P s r1 x1) (h2 : ResN P s r2 x2) (h3 : ResN P s r3 x3) : RetN P fn s (.tup [x1, x2, x3]) := fun B a w hS hr => by
  obtain ⟨v1, k1, q1⟩ := h1 B a w hS hr
  obtain ⟨v2, k2, q2⟩ := h2 B a w hS hr
  obtain ⟨v3, k3, q3⟩ := h3 B a w hS hr
  refine ⟨.tuple #[v1, v2, v3], by simp [results_eq, h, k1, k2, k3], .tup _ _ rfl fun j hj => ?_⟩
  match j, hj with
  | 0, _ => exact q1
  | 1, _ => exact q2
  | 2, _ => exact q3
theorem RetN.four (h : fn.results = #[r1, r2, r3, r4]) (h1 : ResN P s r1 x1) (h2 : ResN P s r2 x2) (h3 : ResN P s r3 x3) (h4 : ResN P s r4 x4) : RetN P fn s (.tup [x1, x2, x3, x4]) := fun B a w hS hr => by
  obtain ⟨v1, k1, q1⟩ := h1 B a w hS hr
  obtain ⟨v2, k2, q2⟩ := h2 B a w hS hr
  obtain ⟨v3, k3, q3⟩ := h3 B a w hS hr
  obtain ⟨v4, k4, q4⟩ := h4 B a w hS hr
  refine ⟨.tuple #[v1, v2, v3, v4], by simp [results_eq, h, k1, k2, k3, k4], .tup _ _ rfl fun j hj => ?_⟩
  match j, hj with
  | 0, _ => exact q1
  | 1, _ => exact q2
  | 2, _ => exact q3
  | 3, _ => exact q4
end
def retN (P : Program) (fn : Func) (G : AV → Prop) (e : Exit) (s : St') : Prop :=
  match e with
  | .normal => ∃ y, RetN P fn s y ∧ G y
  | .ret => ∃ y, RetN P fn s y ∧ G y
  | _ => False
theorem SpecN.of_VCN {P : Program} {F : FuncId} {fn : Func} {c : Code} (hf : P.funcs[F]? = some fn) (hb : fn.body = some c) {xs : List AV} {G : AV → Prop} {nt : Nat} (hn : fn.ntmps = nt) (hle : xs.length ≤ nt)
    (h : ∀ w A, (B0 w A nt).Ok → VC P (B0 w A nt) c (retN P fn G) ⟨slots0 0 xs, [], 0⟩) : SpecN P F xs G := fun w us ha => by
  subst hn
  have hus : us.size ≤ fn.ntmps := by rw [ha.1]; exact hle
  have hS : ∀ b, ¬ (B0 w (fun _ => True) fn.ntmps).S b := fun _ h => h
  refine calls_of_wp hf hb (Code.wp_mono (fun e a w' hq => ?_) (h w (fun _ => True) (B0.ok _ _ _) _ w (by
    have := R.start (B := B0 w (fun _ => True) fn.ntmps) (k := 0) rfl ha (fun _ h => h.elim) trivial (by show fn.ntmps = us.size + (fn.ntmps - us.size); omega)
    exact this)))
  obtain ⟨s, hq, hr⟩ := hq
  cases e with
  | normal =>
    obtain ⟨y, h1, h2⟩ := hq
    obtain ⟨v, h3, h4⟩ := h1 _ a w' hS hr
    exact ⟨hr.defs, v, h3, y, v, h2, rfl, h4, hr.chg, trivial⟩
  | ret =>
    obtain ⟨y, h1, h2⟩ := hq
    obtain ⟨v, h3, h4⟩ := h1 _ a w' hS hr
    exact ⟨hr.defs, v, h3, y, v, h2, rfl, h4, hr.chg, trivial⟩
  | exit id => exact hq.elim
  | goto l => exact hq.elim
  | panic c => exact hq.elim
  | outgrown => exact hq.elim
end Go.Proofs.YtgikefjbdhnffaaDoor
