/- Walks: all orders of some things, each handed to a function that works on its own memory. -/
import Derived.Test.YtpajnlcikmhpdaaDoorSxGrow
import Derived.Test.YtpajnlcikmhpdaaDoorSlicesS
import Derived.Test.YtpajnlcikmhpdaaDoorCloneS
import Derived.Test.YtpajnlcikmhpdaaDoorDelS
namespace Go.Proofs.YtpajnlcikmhpdaaDoor
open Go.RowKit
set_option linter.unusedVariables false
set_option linter.unusedSimpArgs false

/-- make([]T, 0, n): a row of one's own without elements. -/
theorem OpE.make0 {P : Program} {B : Bs} {W : Nat → Prop} {s : St'} {o : Oper} {K : St' → Prop} {l c : Operand} {t e n sz bytes : Nat} {kl kc : IntKind} {D : Int} {z : Value} (ho : o.op = .makeSlice t l c) (hB : B.Ok) (hd : okd B.nt o.dst = true) (hu : P.underlying t = some (.slice e))
    (hinfo : (P.info? e).map (fun i => (i.zero, i.size, i.bytes)) = some (some z, sz, bytes)) (hby : bytes ≤ 4096) (hl : evO s l = some (.v (.int kl 0))) (hc : evO s c = some (.v (.int kc D))) (hD : D = n) (hn : n ≤ 1000000000)
    (hK : ∀ u, K ((St'.mk s.sl (s.hp ++ [.row u 0 sz [] e]) s.k).put o.dst (.v u))) : OpE P B W s o K := by
  subst hD
  obtain ⟨i, hi, hz0, hz1, hz2⟩ := info_parts hinfo
  have hb : (i.bytes : Int) * (n : Int) ≤ 281474976710656 := by
    have h : ((i.bytes * n : Nat) : Int) ≤ 281474976710656 := by
      have : i.bytes * n ≤ 4096 * 1000000000 := by rw [hz2]; exact Nat.mul_le_mul hby hn
      omega
    rwa [Int.natCast_mul] at h
  intro a w hr next Qx hn'
  have hrun := run_make (P := P) w t e i z hu hi hz0 kl kc 0 n (by omega) (by omega) hb (by omega)
  simp only [Int.toNat_natCast, hz1, Int.toNat_zero] at hrun
  have h1 := hr.new hB (.cells (madeCells z.cells (n * sz)) e) (.row (.slice (some ⟨w.heap.size, 0, none⟩) 0 n) 0 sz [] e) rfl ⟨by simp, .inr ⟨w.heap.size, n, _, rfl, Nat.zero_le _, by simp only [maxLen]; omega, heap_alloc_new w _, by simp [size_madeCells], fun j hj => by simp at hj⟩⟩
  unfold Oper.wp
  simp only [execOp, ho, hr.evv hl, hr.evv hc, Sem.run_bind, hrun, Result.andThen_ok, Sem.run_pure]
  exact hn' _ _ _ (hK _) (h1.put _ hd _ _ (.v _)) (.ofN ((Chg.refl _ _).alloc _))

/-- A list of different numbers below n. -/
structure Ord (n : Nat) (o : List Int) : Prop where
  nd : o.Nodup
  lt : ∀ x ∈ o, 0 ≤ x ∧ x < n
theorem Ord.nil (n : Nat) : Ord n [] := ⟨List.nodup_nil, fun x h => by simp at h⟩
theorem Ord.snoc {n : Nat} {o : List Int} (h : Ord n o) {q : Nat} (hq : q < n) (hn : (q : Int) ∉ o) : Ord n (o ++ [(q : Int)]) := by
  refine ⟨?_, fun x hx => ?_⟩
  · rw [List.nodup_append]
    exact ⟨h.nd, by simp, fun a ha b hb => by simp at hb; subst hb; exact fun e => hn (e ▸ ha)⟩
  · rcases List.mem_append.1 hx with hx | hx
    · exact h.lt x hx
    · simp at hx; subst hx; omega
section
variable {τ : Type} (n : Nat) (step : τ → List Int → τ)
/-- All orders that begin with o, d things missing, the least first. -/
def ext : Nat → List Int → τ → τ
  | 0, o, s => step s o
  | d + 1, o, s => (List.range n).foldl (fun (s : τ) (i : Nat) => if (i : Int) ∈ o then s else ext d (o ++ [(i : Int)]) s) s
def extQ (d : Nat) (o : List Int) (s : τ) (q : Nat) : τ := (List.range q).foldl (fun (s : τ) (i : Nat) => if (i : Int) ∈ o then s else ext n step d (o ++ [(i : Int)]) s) s
theorem extQ_zero (d : Nat) (o : List Int) (s : τ) : extQ n step d o s 0 = s := rfl
theorem extQ_all (d : Nat) (o : List Int) (s : τ) : extQ n step d o s n = ext n step (d + 1) o s := rfl
variable {n step}
theorem extQ_in {d : Nat} {o : List Int} {s : τ} {q : Nat} (h : (q : Int) ∈ o) : extQ n step d o s (q + 1) = extQ n step d o s q := by
  rw [extQ, List.range_succ, List.foldl_append]
  simp [h, extQ]
theorem extQ_out {d : Nat} {o : List Int} {s : τ} {q : Nat} (h : (q : Int) ∉ o) : extQ n step d o s (q + 1) = ext n step d (o ++ [(q : Int)]) (extQ n step d o s q) := by
  rw [extQ, List.range_succ, List.foldl_append]
  simp [h, extQ]
end
/-- Which things are used. -/
def usedL (n : Nat) (o : List Int) : List AV := (List.range n).map fun (i : Nat) => avB (decide ((i : Int) ∈ o))
theorem usedL_len (n : Nat) (o : List Int) : (usedL n o).length = n := by simp [usedL]
theorem usedL_get {n : Nat} {o : List Int} {q : Nat} (h : q < n) : (usedL n o)[q]? = some (avB (decide ((q : Int) ∈ o))) := by simp [usedL, h]
theorem usedL_nil (n : Nat) : usedL n [] = List.replicate n (avB false) := by
  apply List.ext_getElem (by simp [usedL])
  intro i h1 h2
  simp [usedL]
theorem usedL_set {n : Nat} {o : List Int} {q : Nat} (h : q < n) : (usedL n o).set q (avB true) = usedL n (o ++ [(q : Int)]) := by
  apply List.ext_getElem (by simp [usedL])
  intro i h1 h2
  rw [List.getElem_set]
  by_cases e : q = i
  · subst e; simp [usedL]
  · rw [if_neg e]
    have : ¬ ((i : Int) = (q : Int)) := by omega
    simp [usedL, this]
theorem usedL_unset {n : Nat} {o : List Int} {q : Nat} (h : q < n) (hq : (q : Int) ∉ o) : (usedL n (o ++ [(q : Int)])).set q (avB false) = usedL n o := by
  apply List.ext_getElem (by simp [usedL])
  intro i h1 h2
  rw [List.getElem_set]
  by_cases e : q = i
  · subst e; simp [usedL, hq]
  · rw [if_neg e]
    have : ¬ ((i : Int) = (q : Int)) := by omega
    simp [usedL, this]
theorem usedL_make {n m : Nat} (hm : m = n) : (madeCells (Value.bool false).cells (m * 1)).toList.map AV.v = usedL n [] := by
  subst hm
  rw [usedL_nil, Nat.mul_one, show (Value.bool false).cells = #[.bool false] from rfl, toList_madeCells_one]
  simp
theorem intsL_cut {o : List Int} {q : Int} {c : Nat} (h : o.length = c) : (intsL (o ++ [q])).take c = intsL o := by
  subst h
  simp [intsL]
/-- What is handed to 'do' works on h: K tells what h holds. -/
def DoesP (n : Nat) {τ : Type} (K : τ → List Ent → Prop) (step : τ → List Int → τ) (P : Program) (F : FuncId) (caps : Array Value) (T : TypeId) : Prop :=
  ∀ (o : List Int) (c : Nat) (a : τ) (h : List Ent) (u : Value), Ord n o → o.length = c → c = n → K a h →
    SpecH P F ([.v u] ++ caps.toList.map .v) (.row u c 1 (intsL o) T :: h) (fun y hp' => ∃ h', K (step a o) h' ∧ hp' = .row u c 1 (intsL o) T :: h')
abbrev ownO (n : Nat) (F Fo : FuncId) (caps : Array Value) (To Ti Td Tu Tb Tm : TypeId) (g0 g1 g2 g3 gu g4 c : Nat) (o : List Int) (u : Value) (h : List Ent) : List Ent :=
  [.box g4 ⟨[.v (.func (.func Fo) #[] #[.pointer (some ⟨g0, 0, none⟩), .pointer (some ⟨g1, 0, none⟩), .pointer (some ⟨g2, 0, none⟩), .pointer (some ⟨g3, 0, none⟩), .pointer (some ⟨g4, 0, none⟩)])], Tm, 1⟩,
    .box g3 ⟨[.v (.slice (some ⟨gu, 0, none⟩) n n)], Tu, 1⟩, .box gu ⟨usedL n o, Tb, n⟩, .row u c 1 (intsL o) Ti, .box g0 ⟨[.v u], To, 1⟩, .box g2 ⟨[.v (.func (.func F) #[] caps)], Td, 1⟩, .box g1 ⟨[avI (n : Int)], Ti, 1⟩] ++ h
abbrev ownR (n : Nat) (F Fo : FuncId) (caps : Array Value) (To Ti Td Tm : TypeId) (g0 g1 g2 g4 c : Nat) (o : List Int) (u : Value) (h : List Ent) : List Ent :=
  [.box g4 ⟨[.v (.func (.func Fo) #[] #[.pointer (some ⟨g0, 0, none⟩), .pointer (some ⟨g1, 0, none⟩), .pointer (some ⟨g2, 0, none⟩), .pointer (some ⟨g4, 0, none⟩)])], Tm, 1⟩,
    .box g0 ⟨[.v u], To, 1⟩, .row u c 1 (intsL o) Ti, .box g2 ⟨[.v (.func (.func F) #[] caps)], Td, 1⟩, .box g1 ⟨[avI (n : Int)], Ti, 1⟩] ++ h
theorem perm_do {r : Ent} {A R h : List Ent} : (A ++ r :: (R ++ h)).Perm ((r :: h) ++ (A ++ R)) := by
  refine List.perm_middle.trans (List.Perm.cons r ?_)
  rw [← List.append_assoc]
  exact List.perm_append_comm
theorem perm_od {r : Ent} {A R h : List Ent} : ((r :: h) ++ (A ++ R)).Perm (A ++ r :: (R ++ h)) := perm_do.symm
section
variable {P : Program} {B : Bs} {W : Nat → Prop} {s : St'} {o : Oper}
theorem OpV.makeFunc4 {fn : Fn} {c1 c2 c3 c4 : Operand} {u1 u2 u3 u4 : Value} (ho : o.op = .makeFunc fn #[] #[c1, c2, c3, c4]) (h1 : evO s c1 = some (.v u1)) (h2 : evO s c2 = some (.v u2)) (h3 : evO s c3 = some (.v u3)) (h4 : evO s c4 = some (.v u4)) : OpV P B W s o (.v (.func fn #[] #[u1, u2, u3, u4])) :=
  OpV.makeFunc ho fun a w hr => by simp [hr.evv h1, hr.evv h2, hr.evv h3, hr.evv h4]
theorem OpV.makeFunc5 {fn : Fn} {c1 c2 c3 c4 c5 : Operand} {u1 u2 u3 u4 u5 : Value} (ho : o.op = .makeFunc fn #[] #[c1, c2, c3, c4, c5]) (h1 : evO s c1 = some (.v u1)) (h2 : evO s c2 = some (.v u2)) (h3 : evO s c3 = some (.v u3)) (h4 : evO s c4 = some (.v u4)) (h5 : evO s c5 = some (.v u5)) : OpV P B W s o (.v (.func fn #[] #[u1, u2, u3, u4, u5])) :=
  OpV.makeFunc ho fun a w hr => by simp [hr.evv h1, hr.evv h2, hr.evv h3, hr.evv h4, hr.evv h5]
end
set_option maxRecDepth 100000 in
theorem setup_orders1_step {τ : Type} {K : τ → List Ent → Prop} {step : τ → List Int → τ} {n : Nat} {F : FuncId} {caps : Array Value} {g0 g1 g2 g3 gu g4 d c : Nat} {o : List Int} {u : Value} {h : List Ent} {a : τ} (hn : n ≤ 1000) (hcd : ∀ us w, (callFunc F us).run Tryd.prog w = .ok (.enter F us) w) (hdo : DoesP n K step Tryd.prog F caps 3) (ih : ∀ d', d = d' + 1 → ∀ (o : List Int) (u : Value) (h : List Ent) (a : τ) (c : Nat), Ord n o → o.length = c → c + d' = n → K a h → SpecH Tryd.prog 75 [pt g0, pt g1, pt g2, pt g3, pt g4] (ownO n F 75 caps 22 3 86 87 4 1 g0 g1 g2 g3 gu g4 c o u h) (fun y hp' => ∃ u' h', K (ext n step d' o a) h' ∧ hp' = ownO n F 75 caps 22 3 86 87 4 1 g0 g1 g2 g3 gu g4 c o u' h')) (ho : Ord n o) (hoc : o.length = c) (hcd' : c + d = n) (hk : K a h) :
    SpecH Tryd.prog 75 [pt g0, pt g1, pt g2, pt g3, pt g4] (ownO n F 75 caps 22 3 86 87 4 1 g0 g1 g2 g3 gu g4 c o u h) (fun y hp' => ∃ u' h', K (ext n step d o a) h' ∧ hp' = ownO n F 75 caps 22 3 86 87 4 1 g0 g1 g2 g3 gu g4 c o u' h') := by
  refine SpecH.of_VC Tryd.func75 rfl Tryd.ntmps75 (Nat.le_of_ble_eq_true rfl) fun w A hB => ?_
  have hnew : True := trivial
  refine VC.seq ?_
  refine VC.seq ?_
  refine VC.region ?_
  first
    | refine VO.val rfl rfl (OpV.load_at rfl hB OutW.no Tryd.isAgg22 rfl rfl) ?_
    | refine VO.val rfl rfl (OpV.load_own (i := 0) rfl hB Tryd.isAgg22 rfl rfl rfl (fun h => h)) ?_
    | refine VO.val rfl rfl (OpV.load_own (i := 1) rfl hB Tryd.isAgg22 rfl rfl rfl (fun h => h)) ?_
    | refine VO.val rfl rfl (OpV.load_own (i := 2) rfl hB Tryd.isAgg22 rfl rfl rfl (fun h => h)) ?_
    | refine VO.val rfl rfl (OpV.load_own (i := 3) rfl hB Tryd.isAgg22 rfl rfl rfl (fun h => h)) ?_
    | refine VO.val rfl rfl (OpV.load_own (i := 4) rfl hB Tryd.isAgg22 rfl rfl rfl (fun h => h)) ?_
    | refine VO.val rfl rfl (OpV.load_own (i := 5) rfl hB Tryd.isAgg22 rfl rfl rfl (fun h => h)) ?_
    | refine VO.val rfl rfl (OpV.load_own (i := 6) rfl hB Tryd.isAgg22 rfl rfl rfl (fun h => h)) ?_
  first
    | refine VO.val rfl rfl (OpV.len_im rfl Tryd.underlying22 rfl) ?_
    | refine VO.val rfl rfl (OpV.len_v rfl Tryd.underlying22 rfl) ?_
    | refine VO.val rfl rfl (OpV.len_row (i := 0) rfl Tryd.underlying22 rfl rfl) ?_
    | refine VO.val rfl rfl (OpV.len_row (i := 1) rfl Tryd.underlying22 rfl rfl) ?_
    | refine VO.val rfl rfl (OpV.len_row (i := 2) rfl Tryd.underlying22 rfl rfl) ?_
    | refine VO.val rfl rfl (OpV.len_row (i := 3) rfl Tryd.underlying22 rfl rfl) ?_
    | refine VO.val rfl rfl (OpV.len_row (i := 4) rfl Tryd.underlying22 rfl rfl) ?_
    | refine VO.val rfl rfl (OpV.len_row (i := 5) rfl Tryd.underlying22 rfl rfl) ?_
    | refine VO.val rfl rfl (OpV.len_row (i := 6) rfl Tryd.underlying22 rfl rfl) ?_
  first
    | refine VO.val rfl rfl (OpV.load_at rfl hB OutW.no Tryd.isAgg3 rfl rfl) ?_
    | refine VO.val rfl rfl (OpV.load_own (i := 0) rfl hB Tryd.isAgg3 rfl rfl rfl (fun h => h)) ?_
    | refine VO.val rfl rfl (OpV.load_own (i := 1) rfl hB Tryd.isAgg3 rfl rfl rfl (fun h => h)) ?_
    | refine VO.val rfl rfl (OpV.load_own (i := 2) rfl hB Tryd.isAgg3 rfl rfl rfl (fun h => h)) ?_
    | refine VO.val rfl rfl (OpV.load_own (i := 3) rfl hB Tryd.isAgg3 rfl rfl rfl (fun h => h)) ?_
    | refine VO.val rfl rfl (OpV.load_own (i := 4) rfl hB Tryd.isAgg3 rfl rfl rfl (fun h => h)) ?_
    | refine VO.val rfl rfl (OpV.load_own (i := 5) rfl hB Tryd.isAgg3 rfl rfl rfl (fun h => h)) ?_
    | refine VO.val rfl rfl (OpV.load_own (i := 6) rfl hB Tryd.isAgg3 rfl rfl rfl (fun h => h)) ?_
  refine VO.val rfl rfl (OpV.eql rfl rfl rfl) ?_
  refine VO.nil ?_
  show VC _ _ _ _ _
  refine VC.cond rfl (fun h0b => ?_) (fun h0b => ?_)
  · have h0 := h0b
    try simp only [decide_eq_true_eq, decide_eq_false_iff_not, Bool.not_eq_true', Bool.not_eq_false', Int.not_lt, Int.not_le] at h0
    obtain rfl : d = 0 := by omega
    refine VC.seq ?_
    refine VC.region ?_
    first
      | refine VO.val rfl rfl (OpV.load_at rfl hB OutW.no Tryd.isAgg86 rfl rfl) ?_
      | refine VO.val rfl rfl (OpV.load_own (i := 0) rfl hB Tryd.isAgg86 rfl rfl rfl (fun h => h)) ?_
      | refine VO.val rfl rfl (OpV.load_own (i := 1) rfl hB Tryd.isAgg86 rfl rfl rfl (fun h => h)) ?_
      | refine VO.val rfl rfl (OpV.load_own (i := 2) rfl hB Tryd.isAgg86 rfl rfl rfl (fun h => h)) ?_
      | refine VO.val rfl rfl (OpV.load_own (i := 3) rfl hB Tryd.isAgg86 rfl rfl rfl (fun h => h)) ?_
      | refine VO.val rfl rfl (OpV.load_own (i := 4) rfl hB Tryd.isAgg86 rfl rfl rfl (fun h => h)) ?_
      | refine VO.val rfl rfl (OpV.load_own (i := 5) rfl hB Tryd.isAgg86 rfl rfl rfl (fun h => h)) ?_
      | refine VO.val rfl rfl (OpV.load_own (i := 6) rfl hB Tryd.isAgg86 rfl rfl rfl (fun h => h)) ?_
    first
      | refine VO.val rfl rfl (OpV.load_at rfl hB OutW.no Tryd.isAgg22 rfl rfl) ?_
      | refine VO.val rfl rfl (OpV.load_own (i := 0) rfl hB Tryd.isAgg22 rfl rfl rfl (fun h => h)) ?_
      | refine VO.val rfl rfl (OpV.load_own (i := 1) rfl hB Tryd.isAgg22 rfl rfl rfl (fun h => h)) ?_
      | refine VO.val rfl rfl (OpV.load_own (i := 2) rfl hB Tryd.isAgg22 rfl rfl rfl (fun h => h)) ?_
      | refine VO.val rfl rfl (OpV.load_own (i := 3) rfl hB Tryd.isAgg22 rfl rfl rfl (fun h => h)) ?_
      | refine VO.val rfl rfl (OpV.load_own (i := 4) rfl hB Tryd.isAgg22 rfl rfl rfl (fun h => h)) ?_
      | refine VO.val rfl rfl (OpV.load_own (i := 5) rfl hB Tryd.isAgg22 rfl rfl rfl (fun h => h)) ?_
      | refine VO.val rfl rfl (OpV.load_own (i := 6) rfl hB Tryd.isAgg22 rfl rfl rfl (fun h => h)) ?_
    refine VO.op rfl (OpE.callH rfl hB rfl hcd rfl rfl (hdo o c a h u ho hoc (by omega) hk) (perm_do (A := [_, _, _]) (R := [_, _, _])) (fun _ _ => trivial) ?_)
    rintro _ _ ⟨h', hk', rfl⟩
    refine VO.le _ (Le.perm (perm_od (A := [_, _, _]) (R := [_, _, _]))) ?_
    refine VO.nil ?_
    show VC _ _ _ _ _
    refine VC.ret ?_
    exact Exists.intro _ (And.intro (RetV.none Tryd.results75) (⟨u, h', hk', rfl⟩))
  · have h0 := h0b
    try simp only [decide_eq_true_eq, decide_eq_false_iff_not, Bool.not_eq_true', Bool.not_eq_false', Int.not_lt, Int.not_le] at h0
    obtain ⟨d', rfl⟩ : ∃ d', d = d' + 1 := ⟨d - 1, by omega⟩
    refine VC.skip ?_
    show VC _ _ _ _ _
    refine VC.seq ?_
    refine VC.region ?_
    first
      | refine VO.val rfl rfl (OpV.load_at rfl hB OutW.no Tryd.isAgg3 rfl rfl) ?_
      | refine VO.val rfl rfl (OpV.load_own (i := 0) rfl hB Tryd.isAgg3 rfl rfl rfl (fun h => h)) ?_
      | refine VO.val rfl rfl (OpV.load_own (i := 1) rfl hB Tryd.isAgg3 rfl rfl rfl (fun h => h)) ?_
      | refine VO.val rfl rfl (OpV.load_own (i := 2) rfl hB Tryd.isAgg3 rfl rfl rfl (fun h => h)) ?_
      | refine VO.val rfl rfl (OpV.load_own (i := 3) rfl hB Tryd.isAgg3 rfl rfl rfl (fun h => h)) ?_
      | refine VO.val rfl rfl (OpV.load_own (i := 4) rfl hB Tryd.isAgg3 rfl rfl rfl (fun h => h)) ?_
      | refine VO.val rfl rfl (OpV.load_own (i := 5) rfl hB Tryd.isAgg3 rfl rfl rfl (fun h => h)) ?_
      | refine VO.val rfl rfl (OpV.load_own (i := 6) rfl hB Tryd.isAgg3 rfl rfl rfl (fun h => h)) ?_
    refine VO.val rfl rfl (OpV.move (.inl rfl) rfl) ?_
    refine VO.nil ?_
    show VC _ _ _ _ _
    refine VC.block ?_
    refine VC.loopK [(0, _), (3, _), (4, _), (13, _)] ⟨rfl, rfl, rfl, rfl, trivial⟩ ({t : (Value × List Ent) × Nat // t.2 ≤ n ∧ K (extQ n step d' o a t.2) t.1.2}) (fun (i : {t : (Value × List Ent) × Nat // t.2 ≤ n ∧ K (extQ n step d' o a t.2) t.1.2}) => match i with | ⟨⟨⟨uu, hh⟩, q⟩, hq, hkk⟩ => [(14, avI (q : Int))]) (fun (i : {t : (Value × List Ent) × Nat // t.2 ≤ n ∧ K (extQ n step d' o a t.2) t.1.2}) => match i with | ⟨⟨⟨uu, hh⟩, q⟩, hq, hkk⟩ => ownO n F 75 caps 22 3 86 87 4 1 g0 g1 g2 g3 gu g4 c o uu hh) (fun (i : {t : (Value × List Ent) × Nat // t.2 ≤ n ∧ K (extQ n step d' o a t.2) t.1.2}) => match i with | ⟨⟨⟨uu, hh⟩, q⟩, hq, hkk⟩ => 0) (fun (i : {t : (Value × List Ent) × Nat // t.2 ≤ n ∧ K (extQ n step d' o a t.2) t.1.2}) => match i with | ⟨⟨⟨uu, hh⟩, q⟩, hq, hkk⟩ => n - q) ⟨((u, h), 0), Nat.zero_le _, hk⟩ (Le.mkP hB ⟨rfl, rfl, rfl, rfl, rfl, trivial⟩ (List.Sublist.refl _) (List.Perm.refl _) (Nat.le_refl _)) ?_
    rintro ⟨⟨⟨uu, hh⟩, q⟩, hq, hkk⟩
    show VC _ _ _ _ ⟨[(14, avI (q : Int))] ++ [(0, _), (3, _), (4, _), (13, _)], ownO n F 75 caps 22 3 86 87 4 1 g0 g1 g2 g3 gu g4 c o uu hh, 0⟩
    simp only at hq hkk
    refine VC.seq ?_
    refine VC.region ?_
    refine VO.val rfl rfl (OpV.lss rfl rfl rfl) ?_
    refine VO.nil ?_
    show VC _ _ _ _ _
    refine VC.seq ?_
    refine VC.cond rfl (fun aH1b => ?_) (fun aH1b => ?_)
    · have aH1 := aH1b
      try simp only [decide_eq_true_eq, decide_eq_false_iff_not, Bool.not_eq_true', Bool.not_eq_false', Int.not_lt, Int.not_le] at aH1
      refine VC.skip ?_
      show VC _ _ _ _ _
      refine VC.seq ?_
      refine VC.block ?_
      refine VC.seq ?_
      refine VC.region ?_
      refine VO.val rfl rfl (OpV.move (.inl rfl) rfl) ?_
      refine VO.val rfl rfl (OpV.move (.inr rfl) rfl) ?_
      refine VO.nil ?_
      show VC _ _ _ _ _
      refine VC.seq ?_
      refine VC.region ?_
      first
        | refine VO.val rfl rfl (OpV.load_at rfl hB OutW.no Tryd.isAgg87 rfl rfl) ?_
        | refine VO.val rfl rfl (OpV.load_own (i := 0) rfl hB Tryd.isAgg87 rfl rfl rfl (fun h => h)) ?_
        | refine VO.val rfl rfl (OpV.load_own (i := 1) rfl hB Tryd.isAgg87 rfl rfl rfl (fun h => h)) ?_
        | refine VO.val rfl rfl (OpV.load_own (i := 2) rfl hB Tryd.isAgg87 rfl rfl rfl (fun h => h)) ?_
        | refine VO.val rfl rfl (OpV.load_own (i := 3) rfl hB Tryd.isAgg87 rfl rfl rfl (fun h => h)) ?_
        | refine VO.val rfl rfl (OpV.load_own (i := 4) rfl hB Tryd.isAgg87 rfl rfl rfl (fun h => h)) ?_
        | refine VO.val rfl rfl (OpV.load_own (i := 5) rfl hB Tryd.isAgg87 rfl rfl rfl (fun h => h)) ?_
        | refine VO.val rfl rfl (OpV.load_own (i := 6) rfl hB Tryd.isAgg87 rfl rfl rfl (fun h => h)) ?_
      refine VO.val rfl rfl (OpV.move (.inl rfl) rfl) ?_
      first
        | refine VO.val rfl rfl (OpV.indexAddr_1 rfl Tryd.underlying87 Tryd.sizeOf4 rfl rfl rfl (by omega)) ?_
        | refine VO.val rfl rfl (OpV.indexAddr_1 rfl Tryd.underlying87 Tryd.sizeOf4 rfl rfl (Int.toNat_of_nonneg (by omega)).symm (by omega)) ?_
        | refine VO.val rfl rfl (OpV.indexAddr_o rfl Tryd.underlying87 Tryd.sizeOf4 rfl rfl rfl (by omega)) ?_
        | refine VO.val rfl rfl (OpV.indexAddr_o rfl Tryd.underlying87 Tryd.sizeOf4 rfl rfl (Int.toNat_of_nonneg (by omega)).symm (by omega)) ?_
        | refine VO.val rfl rfl (OpV.indexAddr_q rfl Tryd.underlying87 Tryd.sizeOf4 rfl rfl rfl (by omega)) ?_
        | refine VO.val rfl rfl (OpV.indexAddr_q rfl Tryd.underlying87 Tryd.sizeOf4 rfl rfl (Int.toNat_of_nonneg (by omega)).symm (by omega)) ?_
        | refine VO.val rfl rfl (OpV.indexAddr_im rfl Tryd.underlying87 Tryd.sizeOf4 rfl rfl (by omega) (by omega)) ?_
      first
        | refine VO.val rfl rfl (OpV.load_at rfl hB OutW.no Tryd.isAgg4 rfl rfl) ?_
        | refine VO.val rfl rfl (OpV.load_own (i := 0) rfl hB Tryd.isAgg4 rfl rfl (usedL_get (q := q) (by omega)) (fun h => h)) ?_
        | refine VO.val rfl rfl (OpV.load_own (i := 1) rfl hB Tryd.isAgg4 rfl rfl (usedL_get (q := q) (by omega)) (fun h => h)) ?_
        | refine VO.val rfl rfl (OpV.load_own (i := 2) rfl hB Tryd.isAgg4 rfl rfl (usedL_get (q := q) (by omega)) (fun h => h)) ?_
        | refine VO.val rfl rfl (OpV.load_own (i := 3) rfl hB Tryd.isAgg4 rfl rfl (usedL_get (q := q) (by omega)) (fun h => h)) ?_
        | refine VO.val rfl rfl (OpV.load_own (i := 4) rfl hB Tryd.isAgg4 rfl rfl (usedL_get (q := q) (by omega)) (fun h => h)) ?_
        | refine VO.val rfl rfl (OpV.load_own (i := 5) rfl hB Tryd.isAgg4 rfl rfl (usedL_get (q := q) (by omega)) (fun h => h)) ?_
        | refine VO.val rfl rfl (OpV.load_own (i := 6) rfl hB Tryd.isAgg4 rfl rfl (usedL_get (q := q) (by omega)) (fun h => h)) ?_
      refine VO.val rfl rfl (OpV.not rfl rfl) ?_
      refine VO.nil ?_
      show VC _ _ _ _ _
      refine VC.cond rfl (fun h2b => ?_) (fun h2b => ?_)
      · have h2 := h2b
        try simp only [decide_eq_true_eq, decide_eq_false_iff_not, Bool.not_eq_true', Bool.not_eq_false', Int.not_lt, Int.not_le] at h2
        have h2' : (q : Int) ∉ o := by simpa using h2b
        refine VC.seq ?_
        refine VC.region ?_
        first
          | refine VO.val rfl rfl (OpV.load_at rfl hB OutW.no Tryd.isAgg87 rfl rfl) ?_
          | refine VO.val rfl rfl (OpV.load_own (i := 0) rfl hB Tryd.isAgg87 rfl rfl rfl (fun h => h)) ?_
          | refine VO.val rfl rfl (OpV.load_own (i := 1) rfl hB Tryd.isAgg87 rfl rfl rfl (fun h => h)) ?_
          | refine VO.val rfl rfl (OpV.load_own (i := 2) rfl hB Tryd.isAgg87 rfl rfl rfl (fun h => h)) ?_
          | refine VO.val rfl rfl (OpV.load_own (i := 3) rfl hB Tryd.isAgg87 rfl rfl rfl (fun h => h)) ?_
          | refine VO.val rfl rfl (OpV.load_own (i := 4) rfl hB Tryd.isAgg87 rfl rfl rfl (fun h => h)) ?_
          | refine VO.val rfl rfl (OpV.load_own (i := 5) rfl hB Tryd.isAgg87 rfl rfl rfl (fun h => h)) ?_
          | refine VO.val rfl rfl (OpV.load_own (i := 6) rfl hB Tryd.isAgg87 rfl rfl rfl (fun h => h)) ?_
        refine VO.val rfl rfl (OpV.move (.inl rfl) rfl) ?_
        first
          | refine VO.val rfl rfl (OpV.indexAddr_1 rfl Tryd.underlying87 Tryd.sizeOf4 rfl rfl rfl (by omega)) ?_
          | refine VO.val rfl rfl (OpV.indexAddr_1 rfl Tryd.underlying87 Tryd.sizeOf4 rfl rfl (Int.toNat_of_nonneg (by omega)).symm (by omega)) ?_
          | refine VO.val rfl rfl (OpV.indexAddr_o rfl Tryd.underlying87 Tryd.sizeOf4 rfl rfl rfl (by omega)) ?_
          | refine VO.val rfl rfl (OpV.indexAddr_o rfl Tryd.underlying87 Tryd.sizeOf4 rfl rfl (Int.toNat_of_nonneg (by omega)).symm (by omega)) ?_
          | refine VO.val rfl rfl (OpV.indexAddr_q rfl Tryd.underlying87 Tryd.sizeOf4 rfl rfl rfl (by omega)) ?_
          | refine VO.val rfl rfl (OpV.indexAddr_q rfl Tryd.underlying87 Tryd.sizeOf4 rfl rfl (Int.toNat_of_nonneg (by omega)).symm (by omega)) ?_
          | refine VO.val rfl rfl (OpV.indexAddr_im rfl Tryd.underlying87 Tryd.sizeOf4 rfl rfl (by omega) (by omega)) ?_
        first
          | refine VO.op rfl (OpE.store1 (i := 0) rfl hB rfl Tryd.sizeOf4 rfl rfl rfl rfl rfl rfl (by rw [usedL_len]; omega) (usedL_set (by omega)) trivial ?_)
          | refine VO.op rfl (OpE.store1 (i := 1) rfl hB rfl Tryd.sizeOf4 rfl rfl rfl rfl rfl rfl (by rw [usedL_len]; omega) (usedL_set (by omega)) trivial ?_)
          | refine VO.op rfl (OpE.store1 (i := 2) rfl hB rfl Tryd.sizeOf4 rfl rfl rfl rfl rfl rfl (by rw [usedL_len]; omega) (usedL_set (by omega)) trivial ?_)
          | refine VO.op rfl (OpE.store1 (i := 3) rfl hB rfl Tryd.sizeOf4 rfl rfl rfl rfl rfl rfl (by rw [usedL_len]; omega) (usedL_set (by omega)) trivial ?_)
          | refine VO.op rfl (OpE.store1 (i := 4) rfl hB rfl Tryd.sizeOf4 rfl rfl rfl rfl rfl rfl (by rw [usedL_len]; omega) (usedL_set (by omega)) trivial ?_)
          | refine VO.op rfl (OpE.store1 (i := 5) rfl hB rfl Tryd.sizeOf4 rfl rfl rfl rfl rfl rfl (by rw [usedL_len]; omega) (usedL_set (by omega)) trivial ?_)
          | refine VO.op rfl (OpE.store1 (i := 6) rfl hB rfl Tryd.sizeOf4 rfl rfl rfl rfl rfl rfl (by rw [usedL_len]; omega) (usedL_set (by omega)) trivial ?_)
        refine VO.nil ?_
        show VC _ _ _ _ _
        refine VC.seq ?_
        refine VC.region ?_
        first
          | refine VO.val rfl rfl (OpV.load_at rfl hB OutW.no Tryd.isAgg22 rfl rfl) ?_
          | refine VO.val rfl rfl (OpV.load_own (i := 0) rfl hB Tryd.isAgg22 rfl rfl rfl (fun h => h)) ?_
          | refine VO.val rfl rfl (OpV.load_own (i := 1) rfl hB Tryd.isAgg22 rfl rfl rfl (fun h => h)) ?_
          | refine VO.val rfl rfl (OpV.load_own (i := 2) rfl hB Tryd.isAgg22 rfl rfl rfl (fun h => h)) ?_
          | refine VO.val rfl rfl (OpV.load_own (i := 3) rfl hB Tryd.isAgg22 rfl rfl rfl (fun h => h)) ?_
          | refine VO.val rfl rfl (OpV.load_own (i := 4) rfl hB Tryd.isAgg22 rfl rfl rfl (fun h => h)) ?_
          | refine VO.val rfl rfl (OpV.load_own (i := 5) rfl hB Tryd.isAgg22 rfl rfl rfl (fun h => h)) ?_
          | refine VO.val rfl rfl (OpV.load_own (i := 6) rfl hB Tryd.isAgg22 rfl rfl rfl (fun h => h)) ?_
        refine VO.val rfl rfl (OpV.move (.inl rfl) rfl) ?_
        refine VO.op rfl (OpE.buildSlice (zc := #[.int .i64 0]) rfl hB rfl Tryd.underlying22 Tryd.sizeOf3 Tryd.zeroValue3 (by decide) (by decide) (by kernel_rfl) rfl rfl ?_)
        first
          | refine VO.op rfl (OpE.append1S (i := 0) rfl hB rfl Tryd.underlying22 (infoOf Tryd.t3 1 (by kernel_rfl) rfl rfl) rfl (by decide) (by decide) rfl rfl rfl rfl (intsL_snoc _ _) (by omega) (fun _ _ => trivial) ?_)
          | refine VO.op rfl (OpE.append1S (i := 1) rfl hB rfl Tryd.underlying22 (infoOf Tryd.t3 1 (by kernel_rfl) rfl rfl) rfl (by decide) (by decide) rfl rfl rfl rfl (intsL_snoc _ _) (by omega) (fun _ _ => trivial) ?_)
          | refine VO.op rfl (OpE.append1S (i := 2) rfl hB rfl Tryd.underlying22 (infoOf Tryd.t3 1 (by kernel_rfl) rfl rfl) rfl (by decide) (by decide) rfl rfl rfl rfl (intsL_snoc _ _) (by omega) (fun _ _ => trivial) ?_)
          | refine VO.op rfl (OpE.append1S (i := 3) rfl hB rfl Tryd.underlying22 (infoOf Tryd.t3 1 (by kernel_rfl) rfl rfl) rfl (by decide) (by decide) rfl rfl rfl rfl (intsL_snoc _ _) (by omega) (fun _ _ => trivial) ?_)
          | refine VO.op rfl (OpE.append1S (i := 4) rfl hB rfl Tryd.underlying22 (infoOf Tryd.t3 1 (by kernel_rfl) rfl rfl) rfl (by decide) (by decide) rfl rfl rfl rfl (intsL_snoc _ _) (by omega) (fun _ _ => trivial) ?_)
          | refine VO.op rfl (OpE.append1S (i := 5) rfl hB rfl Tryd.underlying22 (infoOf Tryd.t3 1 (by kernel_rfl) rfl rfl) rfl (by decide) (by decide) rfl rfl rfl rfl (intsL_snoc _ _) (by omega) (fun _ _ => trivial) ?_)
          | refine VO.op rfl (OpE.append1S (i := 6) rfl hB rfl Tryd.underlying22 (infoOf Tryd.t3 1 (by kernel_rfl) rfl rfl) rfl (by decide) (by decide) rfl rfl rfl rfl (intsL_snoc _ _) (by omega) (fun _ _ => trivial) ?_)
        intro b2 c2
        first
          | refine VO.op rfl (OpE.store (i := 0) rfl hB rfl Tryd.sizeOf22 rfl rfl rfl rfl rfl rfl (Nat.le_of_ble_eq_true rfl) trivial ?_)
          | refine VO.op rfl (OpE.store (i := 1) rfl hB rfl Tryd.sizeOf22 rfl rfl rfl rfl rfl rfl (Nat.le_of_ble_eq_true rfl) trivial ?_)
          | refine VO.op rfl (OpE.store (i := 2) rfl hB rfl Tryd.sizeOf22 rfl rfl rfl rfl rfl rfl (Nat.le_of_ble_eq_true rfl) trivial ?_)
          | refine VO.op rfl (OpE.store (i := 3) rfl hB rfl Tryd.sizeOf22 rfl rfl rfl rfl rfl rfl (Nat.le_of_ble_eq_true rfl) trivial ?_)
          | refine VO.op rfl (OpE.store (i := 4) rfl hB rfl Tryd.sizeOf22 rfl rfl rfl rfl rfl rfl (Nat.le_of_ble_eq_true rfl) trivial ?_)
          | refine VO.op rfl (OpE.store (i := 5) rfl hB rfl Tryd.sizeOf22 rfl rfl rfl rfl rfl rfl (Nat.le_of_ble_eq_true rfl) trivial ?_)
          | refine VO.op rfl (OpE.store (i := 6) rfl hB rfl Tryd.sizeOf22 rfl rfl rfl rfl rfl rfl (Nat.le_of_ble_eq_true rfl) trivial ?_)
        refine VO.nil ?_
        show VC _ _ _ _ _
        refine VC.seq ?_
        refine VC.region ?_
        first
          | refine VO.val rfl rfl (OpV.load_at rfl hB OutW.no Tryd.isAgg1 rfl rfl) ?_
          | refine VO.val rfl rfl (OpV.load_own (i := 0) rfl hB Tryd.isAgg1 rfl rfl rfl (fun h => h)) ?_
          | refine VO.val rfl rfl (OpV.load_own (i := 1) rfl hB Tryd.isAgg1 rfl rfl rfl (fun h => h)) ?_
          | refine VO.val rfl rfl (OpV.load_own (i := 2) rfl hB Tryd.isAgg1 rfl rfl rfl (fun h => h)) ?_
          | refine VO.val rfl rfl (OpV.load_own (i := 3) rfl hB Tryd.isAgg1 rfl rfl rfl (fun h => h)) ?_
          | refine VO.val rfl rfl (OpV.load_own (i := 4) rfl hB Tryd.isAgg1 rfl rfl rfl (fun h => h)) ?_
          | refine VO.val rfl rfl (OpV.load_own (i := 5) rfl hB Tryd.isAgg1 rfl rfl rfl (fun h => h)) ?_
          | refine VO.val rfl rfl (OpV.load_own (i := 6) rfl hB Tryd.isAgg1 rfl rfl rfl (fun h => h)) ?_
        refine VO.op rfl (OpE.callH0 rfl hB rfl Tryd.call75 rfl rfl (ih d' rfl (o ++ [(q : Int)]) (.slice b2 (c + 1) c2) hh _ (c + 1) (ho.snoc (by omega) h2') (by rw [List.length_append, hoc]; rfl) (by omega) hkk) (List.Perm.refl _) (fun _ _ => trivial) ?_)
        rintro _ _ ⟨u3, h3, hk3, rfl⟩
        refine VO.nil ?_
        show VC _ _ _ _ _
        refine VC.seq ?_
        refine VC.asBox (i := 3) rfl (Nat.succ_pos _) (fun g cap hu hcap hmx => ?_)
        subst hu
        refine VC.region ?_
        first
          | refine VO.val rfl rfl (OpV.load_at rfl hB OutW.no Tryd.isAgg22 rfl rfl) ?_
          | refine VO.val rfl rfl (OpV.load_own (i := 0) rfl hB Tryd.isAgg22 rfl rfl rfl (fun h => h)) ?_
          | refine VO.val rfl rfl (OpV.load_own (i := 1) rfl hB Tryd.isAgg22 rfl rfl rfl (fun h => h)) ?_
          | refine VO.val rfl rfl (OpV.load_own (i := 2) rfl hB Tryd.isAgg22 rfl rfl rfl (fun h => h)) ?_
          | refine VO.val rfl rfl (OpV.load_own (i := 3) rfl hB Tryd.isAgg22 rfl rfl rfl (fun h => h)) ?_
          | refine VO.val rfl rfl (OpV.load_own (i := 4) rfl hB Tryd.isAgg22 rfl rfl rfl (fun h => h)) ?_
          | refine VO.val rfl rfl (OpV.load_own (i := 5) rfl hB Tryd.isAgg22 rfl rfl rfl (fun h => h)) ?_
          | refine VO.val rfl rfl (OpV.load_own (i := 6) rfl hB Tryd.isAgg22 rfl rfl rfl (fun h => h)) ?_
        first
          | refine VO.val rfl rfl (OpV.load_at rfl hB OutW.no Tryd.isAgg22 rfl rfl) ?_
          | refine VO.val rfl rfl (OpV.load_own (i := 0) rfl hB Tryd.isAgg22 rfl rfl rfl (fun h => h)) ?_
          | refine VO.val rfl rfl (OpV.load_own (i := 1) rfl hB Tryd.isAgg22 rfl rfl rfl (fun h => h)) ?_
          | refine VO.val rfl rfl (OpV.load_own (i := 2) rfl hB Tryd.isAgg22 rfl rfl rfl (fun h => h)) ?_
          | refine VO.val rfl rfl (OpV.load_own (i := 3) rfl hB Tryd.isAgg22 rfl rfl rfl (fun h => h)) ?_
          | refine VO.val rfl rfl (OpV.load_own (i := 4) rfl hB Tryd.isAgg22 rfl rfl rfl (fun h => h)) ?_
          | refine VO.val rfl rfl (OpV.load_own (i := 5) rfl hB Tryd.isAgg22 rfl rfl rfl (fun h => h)) ?_
          | refine VO.val rfl rfl (OpV.load_own (i := 6) rfl hB Tryd.isAgg22 rfl rfl rfl (fun h => h)) ?_
        first
          | refine VO.val rfl rfl (OpV.len_im rfl Tryd.underlying22 rfl) ?_
          | refine VO.val rfl rfl (OpV.len_v rfl Tryd.underlying22 rfl) ?_
          | refine VO.val rfl rfl (OpV.len_row (i := 0) rfl Tryd.underlying22 rfl rfl) ?_
          | refine VO.val rfl rfl (OpV.len_row (i := 1) rfl Tryd.underlying22 rfl rfl) ?_
          | refine VO.val rfl rfl (OpV.len_row (i := 2) rfl Tryd.underlying22 rfl rfl) ?_
          | refine VO.val rfl rfl (OpV.len_row (i := 3) rfl Tryd.underlying22 rfl rfl) ?_
          | refine VO.val rfl rfl (OpV.len_row (i := 4) rfl Tryd.underlying22 rfl rfl) ?_
          | refine VO.val rfl rfl (OpV.len_row (i := 5) rfl Tryd.underlying22 rfl rfl) ?_
          | refine VO.val rfl rfl (OpV.len_row (i := 6) rfl Tryd.underlying22 rfl rfl) ?_
        refine VO.val rfl rfl (OpV.sub rfl rfl rfl (by unfold fits; omega)) ?_
        first
          | refine VO.val rfl rfl (OpV.slice_ints (h := c) rfl Tryd.underlying22 Tryd.sizeOf3 rfl rfl ⟨_, _, rfl, by omega⟩ (by omega) (by omega)) ?_
          | refine VO.val rfl rfl (OpV.slice_strs (h := c) rfl Tryd.underlying22 Tryd.sizeOf3 rfl rfl ⟨_, _, rfl, by omega⟩ (by omega) (by omega)) ?_
          | refine VO.val rfl rfl (OpV.slice_M (h := c) rfl Tryd.underlying22 Tryd.sizeOf3 rfl rfl ⟨_, _, rfl, by omega⟩ (by omega) (by omega)) ?_
          | refine VO.val rfl rfl (OpV.slice_L (h := c) rfl Tryd.underlying22 Tryd.sizeOf3 rfl rfl ⟨_, _, rfl, by omega⟩ (by omega) (by omega)) ?_
          | refine VO.val rfl rfl (OpV.slice_im (h := c) rfl Tryd.underlying22 Tryd.sizeOf3 rfl rfl ⟨_, _, rfl, by omega⟩ (by omega) (by omega)) ?_
          | refine VO.val rfl rfl (OpV.slice_own (h := c) rfl Tryd.underlying22 Tryd.sizeOf3 rfl rfl ⟨_, _, rfl, by omega⟩ (by omega) (by omega) (by omega)) ?_
        first
          | refine VO.op rfl (OpE.store (i := 0) rfl hB rfl Tryd.sizeOf22 rfl rfl rfl rfl rfl rfl (Nat.le_of_ble_eq_true rfl) trivial ?_)
          | refine VO.op rfl (OpE.store (i := 1) rfl hB rfl Tryd.sizeOf22 rfl rfl rfl rfl rfl rfl (Nat.le_of_ble_eq_true rfl) trivial ?_)
          | refine VO.op rfl (OpE.store (i := 2) rfl hB rfl Tryd.sizeOf22 rfl rfl rfl rfl rfl rfl (Nat.le_of_ble_eq_true rfl) trivial ?_)
          | refine VO.op rfl (OpE.store (i := 3) rfl hB rfl Tryd.sizeOf22 rfl rfl rfl rfl rfl rfl (Nat.le_of_ble_eq_true rfl) trivial ?_)
          | refine VO.op rfl (OpE.store (i := 4) rfl hB rfl Tryd.sizeOf22 rfl rfl rfl rfl rfl rfl (Nat.le_of_ble_eq_true rfl) trivial ?_)
          | refine VO.op rfl (OpE.store (i := 5) rfl hB rfl Tryd.sizeOf22 rfl rfl rfl rfl rfl rfl (Nat.le_of_ble_eq_true rfl) trivial ?_)
          | refine VO.op rfl (OpE.store (i := 6) rfl hB rfl Tryd.sizeOf22 rfl rfl rfl rfl rfl rfl (Nat.le_of_ble_eq_true rfl) trivial ?_)
        refine VO.nil ?_
        show VC _ _ _ _ _
        refine VC.le _ ((Le.cutBoxE (i := 3) c rfl (intsL_cut hoc)).trans (Le.boxRow (i := 3) (n := c) (sz := 1) (cap := cap) rfl (by rw [intsL_len, hoc, Nat.mul_one]) (by omega) hmx)) ?_
        refine VC.region ?_
        first
          | refine VO.val rfl rfl (OpV.load_at rfl hB OutW.no Tryd.isAgg87 rfl rfl) ?_
          | refine VO.val rfl rfl (OpV.load_own (i := 0) rfl hB Tryd.isAgg87 rfl rfl rfl (fun h => h)) ?_
          | refine VO.val rfl rfl (OpV.load_own (i := 1) rfl hB Tryd.isAgg87 rfl rfl rfl (fun h => h)) ?_
          | refine VO.val rfl rfl (OpV.load_own (i := 2) rfl hB Tryd.isAgg87 rfl rfl rfl (fun h => h)) ?_
          | refine VO.val rfl rfl (OpV.load_own (i := 3) rfl hB Tryd.isAgg87 rfl rfl rfl (fun h => h)) ?_
          | refine VO.val rfl rfl (OpV.load_own (i := 4) rfl hB Tryd.isAgg87 rfl rfl rfl (fun h => h)) ?_
          | refine VO.val rfl rfl (OpV.load_own (i := 5) rfl hB Tryd.isAgg87 rfl rfl rfl (fun h => h)) ?_
          | refine VO.val rfl rfl (OpV.load_own (i := 6) rfl hB Tryd.isAgg87 rfl rfl rfl (fun h => h)) ?_
        refine VO.val rfl rfl (OpV.move (.inl rfl) rfl) ?_
        first
          | refine VO.val rfl rfl (OpV.indexAddr_1 rfl Tryd.underlying87 Tryd.sizeOf4 rfl rfl rfl (by omega)) ?_
          | refine VO.val rfl rfl (OpV.indexAddr_1 rfl Tryd.underlying87 Tryd.sizeOf4 rfl rfl (Int.toNat_of_nonneg (by omega)).symm (by omega)) ?_
          | refine VO.val rfl rfl (OpV.indexAddr_o rfl Tryd.underlying87 Tryd.sizeOf4 rfl rfl rfl (by omega)) ?_
          | refine VO.val rfl rfl (OpV.indexAddr_o rfl Tryd.underlying87 Tryd.sizeOf4 rfl rfl (Int.toNat_of_nonneg (by omega)).symm (by omega)) ?_
          | refine VO.val rfl rfl (OpV.indexAddr_q rfl Tryd.underlying87 Tryd.sizeOf4 rfl rfl rfl (by omega)) ?_
          | refine VO.val rfl rfl (OpV.indexAddr_q rfl Tryd.underlying87 Tryd.sizeOf4 rfl rfl (Int.toNat_of_nonneg (by omega)).symm (by omega)) ?_
          | refine VO.val rfl rfl (OpV.indexAddr_im rfl Tryd.underlying87 Tryd.sizeOf4 rfl rfl (by omega) (by omega)) ?_
        first
          | refine VO.op rfl (OpE.store1 (i := 0) rfl hB rfl Tryd.sizeOf4 rfl rfl rfl rfl rfl rfl (by rw [usedL_len]; omega) (usedL_unset (by omega) h2') trivial ?_)
          | refine VO.op rfl (OpE.store1 (i := 1) rfl hB rfl Tryd.sizeOf4 rfl rfl rfl rfl rfl rfl (by rw [usedL_len]; omega) (usedL_unset (by omega) h2') trivial ?_)
          | refine VO.op rfl (OpE.store1 (i := 2) rfl hB rfl Tryd.sizeOf4 rfl rfl rfl rfl rfl rfl (by rw [usedL_len]; omega) (usedL_unset (by omega) h2') trivial ?_)
          | refine VO.op rfl (OpE.store1 (i := 3) rfl hB rfl Tryd.sizeOf4 rfl rfl rfl rfl rfl rfl (by rw [usedL_len]; omega) (usedL_unset (by omega) h2') trivial ?_)
          | refine VO.op rfl (OpE.store1 (i := 4) rfl hB rfl Tryd.sizeOf4 rfl rfl rfl rfl rfl rfl (by rw [usedL_len]; omega) (usedL_unset (by omega) h2') trivial ?_)
          | refine VO.op rfl (OpE.store1 (i := 5) rfl hB rfl Tryd.sizeOf4 rfl rfl rfl rfl rfl rfl (by rw [usedL_len]; omega) (usedL_unset (by omega) h2') trivial ?_)
          | refine VO.op rfl (OpE.store1 (i := 6) rfl hB rfl Tryd.sizeOf4 rfl rfl rfl rfl rfl rfl (by rw [usedL_len]; omega) (usedL_unset (by omega) h2') trivial ?_)
        refine VO.nil ?_
        show VC _ _ _ _ _
        refine VC.region ?_
        refine VO.val rfl rfl (OpV.add rfl rfl rfl (by unfold fits; omega)) ?_
        refine VO.val rfl rfl (OpV.move (.inl rfl) rfl) ?_
        refine VO.nil ?_
        first
          | exact Exists.intro (⟨((.slice (some ⟨g, 0, none⟩) c cap, h3), q + 1), by show q + 1 ≤ n; omega, by rw [extQ_out h2']; exact hk3⟩) (And.intro (Le.mkP hB ⟨rfl, rfl, rfl, rfl, rfl, trivial⟩ (List.Sublist.refl _) (List.Perm.refl _) (Nat.le_refl _)) (by first | omega | (show _ < _; omega) | (simp only []; omega)))
          | exact Exists.intro (⟨((uu, hh), q + 1), by show q + 1 ≤ n; omega, by rw [extQ_in h2']; exact hkk⟩) (And.intro (Le.mkP hB ⟨rfl, rfl, rfl, rfl, rfl, trivial⟩ (List.Sublist.refl _) (List.Perm.refl _) (Nat.le_refl _)) (by first | omega | (show _ < _; omega) | (simp only []; omega)))
      · have h2 := h2b
        try simp only [decide_eq_true_eq, decide_eq_false_iff_not, Bool.not_eq_true', Bool.not_eq_false', Int.not_lt, Int.not_le] at h2
        have h2' : (q : Int) ∈ o := by simpa using h2b
        refine VC.skip ?_
        show VC _ _ _ _ _
        refine VC.region ?_
        refine VO.val rfl rfl (OpV.add rfl rfl rfl (by unfold fits; omega)) ?_
        refine VO.val rfl rfl (OpV.move (.inl rfl) rfl) ?_
        refine VO.nil ?_
        first
          | exact Exists.intro (⟨((.slice (some ⟨g, 0, none⟩) c cap, h3), q + 1), by show q + 1 ≤ n; omega, by rw [extQ_out h2']; exact hk3⟩) (And.intro (Le.mkP hB ⟨rfl, rfl, rfl, rfl, rfl, trivial⟩ (List.Sublist.refl _) (List.Perm.refl _) (Nat.le_refl _)) (by first | omega | (show _ < _; omega) | (simp only []; omega)))
          | exact Exists.intro (⟨((uu, hh), q + 1), by show q + 1 ≤ n; omega, by rw [extQ_in h2']; exact hkk⟩) (And.intro (Le.mkP hB ⟨rfl, rfl, rfl, rfl, rfl, trivial⟩ (List.Sublist.refl _) (List.Perm.refl _) (Nat.le_refl _)) (by first | omega | (show _ < _; omega) | (simp only []; omega)))
    · have aH1 := aH1b
      try simp only [decide_eq_true_eq, decide_eq_false_iff_not, Bool.not_eq_true', Bool.not_eq_false', Int.not_lt, Int.not_le] at aH1
      obtain rfl : q = n := by omega
      refine VC.exit ?_
      exact Exists.intro _ (And.intro (RetV.none Tryd.results75) (⟨uu, hh, hkk, rfl⟩))
theorem setup_orders1 {τ : Type} {K : τ → List Ent → Prop} {step : τ → List Int → τ} {n : Nat} {F : FuncId} {caps : Array Value} {g0 g1 g2 g3 gu g4 : Nat} (hn : n ≤ 1000) (hcd : ∀ us w, (callFunc F us).run Tryd.prog w = .ok (.enter F us) w) (hdo : DoesP n K step Tryd.prog F caps 3) :
    ∀ (d : Nat) (o : List Int) (u : Value) (h : List Ent) (a : τ) (c : Nat), Ord n o → o.length = c → c + d = n → K a h → SpecH Tryd.prog 75 [pt g0, pt g1, pt g2, pt g3, pt g4] (ownO n F 75 caps 22 3 86 87 4 1 g0 g1 g2 g3 gu g4 c o u h) (fun y hp' => ∃ u' h', K (ext n step d o a) h' ∧ hp' = ownO n F 75 caps 22 3 86 87 4 1 g0 g1 g2 g3 gu g4 c o u' h')
  | 0, o, u, h, a, c, ho, hoc, hc, hk => setup_orders1_step hn hcd hdo (fun d' e => by omega) ho hoc hc hk
  | d + 1, o, u, h, a, c, ho, hoc, hc, hk => setup_orders1_step hn hcd hdo (fun d' e => by obtain rfl : d = d' := (by omega); exact setup_orders1 hn hcd hdo d) ho hoc hc hk
set_option maxRecDepth 100000 in
theorem setup_orders {τ : Type} {K : τ → List Ent → Prop} {step : τ → List Int → τ} {n : Nat} {F : FuncId} {caps : Array Value} {h : List Ent} {a : τ} (hn : n ≤ 1000) (hcd : ∀ us w, (callFunc F us).run Tryd.prog w = .ok (.enter F us) w) (hdo : DoesP n K step Tryd.prog F caps 3) (hk : K a h) :
    SpecH Tryd.prog 56 [avI (n : Int), .v (.func (.func F) #[] caps)] h (fun y hp' => ∃ h', K (ext n step n [] a) h' ∧ hp' = h') := by
  refine SpecH.of_VC Tryd.func56 rfl Tryd.ntmps56 (Nat.le_of_ble_eq_true rfl) fun w A hB => ?_
  have hnew : True := trivial
  refine VC.seq ?_
  refine VC.region ?_
  refine VO.op rfl (OpE.box rfl hB rfl rfl rfl ?_)
  intro g2
  refine VO.le _ (Le.front rfl) ?_
  refine VO.op rfl (OpE.box rfl hB rfl rfl rfl ?_)
  intro g3
  refine VO.le _ (Le.front rfl) ?_
  refine VO.nil ?_
  show VC _ _ _ _ _
  refine VC.seq ?_
  refine VC.region ?_
  refine VO.op rfl (OpE.alloc rfl hB rfl Tryd.zeroValue22 rfl ?_)
  intro g4
  refine VO.le _ (Le.front rfl) ?_
  refine VO.le _ (Le.nilRow 1 3) ?_
  refine VO.le _ (Le.front rfl) ?_
  refine VO.nil ?_
  show VC _ _ _ _ _
  refine VC.seq ?_
  refine VC.region ?_
  first
    | refine VO.val rfl rfl (OpV.load_at rfl hB OutW.no Tryd.isAgg3 rfl rfl) ?_
    | refine VO.val rfl rfl (OpV.load_own (i := 0) rfl hB Tryd.isAgg3 rfl rfl rfl (fun h => h)) ?_
    | refine VO.val rfl rfl (OpV.load_own (i := 1) rfl hB Tryd.isAgg3 rfl rfl rfl (fun h => h)) ?_
    | refine VO.val rfl rfl (OpV.load_own (i := 2) rfl hB Tryd.isAgg3 rfl rfl rfl (fun h => h)) ?_
    | refine VO.val rfl rfl (OpV.load_own (i := 3) rfl hB Tryd.isAgg3 rfl rfl rfl (fun h => h)) ?_
  refine VO.op rfl (OpE.make rfl hB rfl Tryd.underlying87 (infoOf Tryd.t4 1 (by kernel_rfl) rfl rfl) (by decide) rfl rfl (n := n) rfl rfl (by omega) (usedL_make rfl) ?_)
  intro g8
  rw [usedL_len]
  refine VO.le _ (Le.front rfl) ?_
  refine VO.op rfl (OpE.alloc rfl hB rfl Tryd.zeroValue87 rfl ?_)
  intro g5
  refine VO.le _ (Le.front rfl) ?_
  first
    | refine VO.op rfl (OpE.store (i := 0) rfl hB rfl Tryd.sizeOf87 rfl rfl rfl rfl rfl rfl (Nat.le_of_ble_eq_true rfl) trivial ?_)
    | refine VO.op rfl (OpE.store (i := 1) rfl hB rfl Tryd.sizeOf87 rfl rfl rfl rfl rfl rfl (Nat.le_of_ble_eq_true rfl) trivial ?_)
    | refine VO.op rfl (OpE.store (i := 2) rfl hB rfl Tryd.sizeOf87 rfl rfl rfl rfl rfl rfl (Nat.le_of_ble_eq_true rfl) trivial ?_)
    | refine VO.op rfl (OpE.store (i := 3) rfl hB rfl Tryd.sizeOf87 rfl rfl rfl rfl rfl rfl (Nat.le_of_ble_eq_true rfl) trivial ?_)
    | refine VO.op rfl (OpE.store (i := 4) rfl hB rfl Tryd.sizeOf87 rfl rfl rfl rfl rfl rfl (Nat.le_of_ble_eq_true rfl) trivial ?_)
    | refine VO.op rfl (OpE.store (i := 5) rfl hB rfl Tryd.sizeOf87 rfl rfl rfl rfl rfl rfl (Nat.le_of_ble_eq_true rfl) trivial ?_)
  refine VO.nil ?_
  show VC _ _ _ _ _
  refine VC.seq ?_
  refine VC.region ?_
  refine VO.op rfl (OpE.alloc rfl hB rfl Tryd.zeroValue1 rfl ?_)
  intro g6
  refine VO.le _ (Le.front rfl) ?_
  refine VO.nil ?_
  show VC _ _ _ _ _
  refine VC.seq ?_
  refine VC.region ?_
  refine VO.val rfl rfl (OpV.makeFunc5 rfl rfl rfl rfl rfl rfl) ?_
  first
    | refine VO.op rfl (OpE.store (i := 0) rfl hB rfl Tryd.sizeOf1 rfl rfl rfl rfl rfl rfl (Nat.le_of_ble_eq_true rfl) trivial ?_)
    | refine VO.op rfl (OpE.store (i := 1) rfl hB rfl Tryd.sizeOf1 rfl rfl rfl rfl rfl rfl (Nat.le_of_ble_eq_true rfl) trivial ?_)
    | refine VO.op rfl (OpE.store (i := 2) rfl hB rfl Tryd.sizeOf1 rfl rfl rfl rfl rfl rfl (Nat.le_of_ble_eq_true rfl) trivial ?_)
    | refine VO.op rfl (OpE.store (i := 3) rfl hB rfl Tryd.sizeOf1 rfl rfl rfl rfl rfl rfl (Nat.le_of_ble_eq_true rfl) trivial ?_)
    | refine VO.op rfl (OpE.store (i := 4) rfl hB rfl Tryd.sizeOf1 rfl rfl rfl rfl rfl rfl (Nat.le_of_ble_eq_true rfl) trivial ?_)
    | refine VO.op rfl (OpE.store (i := 5) rfl hB rfl Tryd.sizeOf1 rfl rfl rfl rfl rfl rfl (Nat.le_of_ble_eq_true rfl) trivial ?_)
    | refine VO.op rfl (OpE.store (i := 6) rfl hB rfl Tryd.sizeOf1 rfl rfl rfl rfl rfl rfl (Nat.le_of_ble_eq_true rfl) trivial ?_)
  refine VO.nil ?_
  show VC _ _ _ _ _
  refine VC.region ?_
  first
    | refine VO.val rfl rfl (OpV.load_at rfl hB OutW.no Tryd.isAgg1 rfl rfl) ?_
    | refine VO.val rfl rfl (OpV.load_own (i := 0) rfl hB Tryd.isAgg1 rfl rfl rfl (fun h => h)) ?_
    | refine VO.val rfl rfl (OpV.load_own (i := 1) rfl hB Tryd.isAgg1 rfl rfl rfl (fun h => h)) ?_
    | refine VO.val rfl rfl (OpV.load_own (i := 2) rfl hB Tryd.isAgg1 rfl rfl rfl (fun h => h)) ?_
    | refine VO.val rfl rfl (OpV.load_own (i := 3) rfl hB Tryd.isAgg1 rfl rfl rfl (fun h => h)) ?_
    | refine VO.val rfl rfl (OpV.load_own (i := 4) rfl hB Tryd.isAgg1 rfl rfl rfl (fun h => h)) ?_
    | refine VO.val rfl rfl (OpV.load_own (i := 5) rfl hB Tryd.isAgg1 rfl rfl rfl (fun h => h)) ?_
    | refine VO.val rfl rfl (OpV.load_own (i := 6) rfl hB Tryd.isAgg1 rfl rfl rfl (fun h => h)) ?_
  refine VO.op rfl (OpE.callH0 rfl hB rfl Tryd.call75 rfl rfl (setup_orders1 hn hcd hdo n [] (.slice none 0 0) h a 0 (Ord.nil n) rfl (Nat.zero_add n) hk) (List.Perm.refl _) (fun _ _ => trivial) ?_)
  rintro _ _ ⟨u3, h3, hk3, rfl⟩
  refine VO.le _ (Le.drop 7) ?_
  refine VO.nil ?_
  exact Exists.intro _ (And.intro (RetV.none Tryd.results56) (⟨h3, hk3, rfl⟩))
set_option maxRecDepth 100000 in
theorem rf_orderings1_step {τ : Type} {K : τ → List Ent → Prop} {step : τ → List Int → τ} {n : Nat} {F : FuncId} {caps : Array Value} {g0 g1 g2 g4 d c : Nat} {o : List Int} {u : Value} {h : List Ent} {a : τ} (hn : n ≤ 1000) (hcd : ∀ us w, (callFunc F us).run Tryd.prog w = .ok (.enter F us) w) (hdo : DoesP n K step Tryd.prog F caps 3) (ih : ∀ d', d = d' + 1 → ∀ (o : List Int) (u : Value) (h : List Ent) (a : τ) (c : Nat), Ord n o → o.length = c → c + d' = n → K a h → SpecH Tryd.prog 78 [pt g0, pt g1, pt g2, pt g4] (ownR n F 78 caps 22 3 86 1 g0 g1 g2 g4 c o u h) (fun y hp' => ∃ u' h', K (ext n step d' o a) h' ∧ hp' = ownR n F 78 caps 22 3 86 1 g0 g1 g2 g4 c o u' h')) (ho : Ord n o) (hoc : o.length = c) (hcd' : c + d = n) (hk : K a h) :
    SpecH Tryd.prog 78 [pt g0, pt g1, pt g2, pt g4] (ownR n F 78 caps 22 3 86 1 g0 g1 g2 g4 c o u h) (fun y hp' => ∃ u' h', K (ext n step d o a) h' ∧ hp' = ownR n F 78 caps 22 3 86 1 g0 g1 g2 g4 c o u' h') := by
  refine SpecH.of_VC Tryd.func78 rfl Tryd.ntmps78 (Nat.le_of_ble_eq_true rfl) fun w A hB => ?_
  have hnew : True := trivial
  refine VC.seq ?_
  refine VC.seq ?_
  refine VC.region ?_
  first
    | refine VO.val rfl rfl (OpV.load_at rfl hB OutW.no Tryd.isAgg22 rfl rfl) ?_
    | refine VO.val rfl rfl (OpV.load_own (i := 0) rfl hB Tryd.isAgg22 rfl rfl rfl (fun h => h)) ?_
    | refine VO.val rfl rfl (OpV.load_own (i := 1) rfl hB Tryd.isAgg22 rfl rfl rfl (fun h => h)) ?_
    | refine VO.val rfl rfl (OpV.load_own (i := 2) rfl hB Tryd.isAgg22 rfl rfl rfl (fun h => h)) ?_
    | refine VO.val rfl rfl (OpV.load_own (i := 3) rfl hB Tryd.isAgg22 rfl rfl rfl (fun h => h)) ?_
    | refine VO.val rfl rfl (OpV.load_own (i := 4) rfl hB Tryd.isAgg22 rfl rfl rfl (fun h => h)) ?_
  first
    | refine VO.val rfl rfl (OpV.len_im rfl Tryd.underlying22 rfl) ?_
    | refine VO.val rfl rfl (OpV.len_v rfl Tryd.underlying22 rfl) ?_
    | refine VO.val rfl rfl (OpV.len_row (i := 0) rfl Tryd.underlying22 rfl rfl) ?_
    | refine VO.val rfl rfl (OpV.len_row (i := 1) rfl Tryd.underlying22 rfl rfl) ?_
    | refine VO.val rfl rfl (OpV.len_row (i := 2) rfl Tryd.underlying22 rfl rfl) ?_
    | refine VO.val rfl rfl (OpV.len_row (i := 3) rfl Tryd.underlying22 rfl rfl) ?_
    | refine VO.val rfl rfl (OpV.len_row (i := 4) rfl Tryd.underlying22 rfl rfl) ?_
  first
    | refine VO.val rfl rfl (OpV.load_at rfl hB OutW.no Tryd.isAgg3 rfl rfl) ?_
    | refine VO.val rfl rfl (OpV.load_own (i := 0) rfl hB Tryd.isAgg3 rfl rfl rfl (fun h => h)) ?_
    | refine VO.val rfl rfl (OpV.load_own (i := 1) rfl hB Tryd.isAgg3 rfl rfl rfl (fun h => h)) ?_
    | refine VO.val rfl rfl (OpV.load_own (i := 2) rfl hB Tryd.isAgg3 rfl rfl rfl (fun h => h)) ?_
    | refine VO.val rfl rfl (OpV.load_own (i := 3) rfl hB Tryd.isAgg3 rfl rfl rfl (fun h => h)) ?_
    | refine VO.val rfl rfl (OpV.load_own (i := 4) rfl hB Tryd.isAgg3 rfl rfl rfl (fun h => h)) ?_
  refine VO.val rfl rfl (OpV.eql rfl rfl rfl) ?_
  refine VO.nil ?_
  show VC _ _ _ _ _
  refine VC.cond rfl (fun h0b => ?_) (fun h0b => ?_)
  · have h0 := h0b
    try simp only [decide_eq_true_eq, decide_eq_false_iff_not, Bool.not_eq_true', Bool.not_eq_false', Int.not_lt, Int.not_le] at h0
    obtain rfl : d = 0 := by omega
    refine VC.seq ?_
    refine VC.region ?_
    first
      | refine VO.val rfl rfl (OpV.load_at rfl hB OutW.no Tryd.isAgg86 rfl rfl) ?_
      | refine VO.val rfl rfl (OpV.load_own (i := 0) rfl hB Tryd.isAgg86 rfl rfl rfl (fun h => h)) ?_
      | refine VO.val rfl rfl (OpV.load_own (i := 1) rfl hB Tryd.isAgg86 rfl rfl rfl (fun h => h)) ?_
      | refine VO.val rfl rfl (OpV.load_own (i := 2) rfl hB Tryd.isAgg86 rfl rfl rfl (fun h => h)) ?_
      | refine VO.val rfl rfl (OpV.load_own (i := 3) rfl hB Tryd.isAgg86 rfl rfl rfl (fun h => h)) ?_
      | refine VO.val rfl rfl (OpV.load_own (i := 4) rfl hB Tryd.isAgg86 rfl rfl rfl (fun h => h)) ?_
    first
      | refine VO.val rfl rfl (OpV.load_at rfl hB OutW.no Tryd.isAgg22 rfl rfl) ?_
      | refine VO.val rfl rfl (OpV.load_own (i := 0) rfl hB Tryd.isAgg22 rfl rfl rfl (fun h => h)) ?_
      | refine VO.val rfl rfl (OpV.load_own (i := 1) rfl hB Tryd.isAgg22 rfl rfl rfl (fun h => h)) ?_
      | refine VO.val rfl rfl (OpV.load_own (i := 2) rfl hB Tryd.isAgg22 rfl rfl rfl (fun h => h)) ?_
      | refine VO.val rfl rfl (OpV.load_own (i := 3) rfl hB Tryd.isAgg22 rfl rfl rfl (fun h => h)) ?_
      | refine VO.val rfl rfl (OpV.load_own (i := 4) rfl hB Tryd.isAgg22 rfl rfl rfl (fun h => h)) ?_
    refine VO.op rfl (OpE.callH rfl hB rfl hcd rfl rfl (hdo o c a h u ho hoc (by omega) hk) (perm_do (A := [_, _]) (R := [_, _])) (fun _ _ => trivial) ?_)
    rintro _ _ ⟨h', hk', rfl⟩
    refine VO.le _ (Le.perm (perm_od (A := [_, _]) (R := [_, _]))) ?_
    refine VO.nil ?_
    show VC _ _ _ _ _
    refine VC.ret ?_
    exact Exists.intro _ (And.intro (RetV.none Tryd.results78) (⟨u, h', hk', rfl⟩))
  · have h0 := h0b
    try simp only [decide_eq_true_eq, decide_eq_false_iff_not, Bool.not_eq_true', Bool.not_eq_false', Int.not_lt, Int.not_le] at h0
    obtain ⟨d', rfl⟩ : ∃ d', d = d' + 1 := ⟨d - 1, by omega⟩
    refine VC.skip ?_
    show VC _ _ _ _ _
    refine VC.seq ?_
    refine VC.region ?_
    first
      | refine VO.val rfl rfl (OpV.load_at rfl hB OutW.no Tryd.isAgg3 rfl rfl) ?_
      | refine VO.val rfl rfl (OpV.load_own (i := 0) rfl hB Tryd.isAgg3 rfl rfl rfl (fun h => h)) ?_
      | refine VO.val rfl rfl (OpV.load_own (i := 1) rfl hB Tryd.isAgg3 rfl rfl rfl (fun h => h)) ?_
      | refine VO.val rfl rfl (OpV.load_own (i := 2) rfl hB Tryd.isAgg3 rfl rfl rfl (fun h => h)) ?_
      | refine VO.val rfl rfl (OpV.load_own (i := 3) rfl hB Tryd.isAgg3 rfl rfl rfl (fun h => h)) ?_
      | refine VO.val rfl rfl (OpV.load_own (i := 4) rfl hB Tryd.isAgg3 rfl rfl rfl (fun h => h)) ?_
    refine VO.val rfl rfl (OpV.move (.inl rfl) rfl) ?_
    refine VO.nil ?_
    show VC _ _ _ _ _
    refine VC.block ?_
    refine VC.loopK [(0, _), (3, _), (12, _)] ⟨rfl, rfl, rfl, trivial⟩ ({t : (Value × List Ent) × Nat // t.2 ≤ n ∧ K (extQ n step d' o a t.2) t.1.2}) (fun (i : {t : (Value × List Ent) × Nat // t.2 ≤ n ∧ K (extQ n step d' o a t.2) t.1.2}) => match i with | ⟨⟨⟨uu, hh⟩, q⟩, hq, hkk⟩ => [(13, avI (q : Int))]) (fun (i : {t : (Value × List Ent) × Nat // t.2 ≤ n ∧ K (extQ n step d' o a t.2) t.1.2}) => match i with | ⟨⟨⟨uu, hh⟩, q⟩, hq, hkk⟩ => ownR n F 78 caps 22 3 86 1 g0 g1 g2 g4 c o uu hh) (fun (i : {t : (Value × List Ent) × Nat // t.2 ≤ n ∧ K (extQ n step d' o a t.2) t.1.2}) => match i with | ⟨⟨⟨uu, hh⟩, q⟩, hq, hkk⟩ => 0) (fun (i : {t : (Value × List Ent) × Nat // t.2 ≤ n ∧ K (extQ n step d' o a t.2) t.1.2}) => match i with | ⟨⟨⟨uu, hh⟩, q⟩, hq, hkk⟩ => n - q) ⟨((u, h), 0), Nat.zero_le _, hk⟩ (Le.mkP hB ⟨rfl, rfl, rfl, rfl, trivial⟩ (List.Sublist.refl _) (List.Perm.refl _) (Nat.le_refl _)) ?_
    rintro ⟨⟨⟨uu, hh⟩, q⟩, hq, hkk⟩
    show VC _ _ _ _ ⟨[(13, avI (q : Int))] ++ [(0, _), (3, _), (12, _)], ownR n F 78 caps 22 3 86 1 g0 g1 g2 g4 c o uu hh, 0⟩
    simp only at hq hkk
    refine VC.seq ?_
    refine VC.region ?_
    refine VO.val rfl rfl (OpV.lss rfl rfl rfl) ?_
    refine VO.nil ?_
    show VC _ _ _ _ _
    refine VC.seq ?_
    refine VC.cond rfl (fun aH1b => ?_) (fun aH1b => ?_)
    · have aH1 := aH1b
      try simp only [decide_eq_true_eq, decide_eq_false_iff_not, Bool.not_eq_true', Bool.not_eq_false', Int.not_lt, Int.not_le] at aH1
      refine VC.skip ?_
      show VC _ _ _ _ _
      refine VC.seq ?_
      refine VC.block ?_
      refine VC.seq ?_
      refine VC.region ?_
      refine VO.val rfl rfl (OpV.move (.inl rfl) rfl) ?_
      refine VO.val rfl rfl (OpV.move (.inr rfl) rfl) ?_
      refine VO.nil ?_
      show VC _ _ _ _ _
      refine VC.seq ?_
      refine VC.region ?_
      first
        | refine VO.val rfl rfl (OpV.load_at rfl hB OutW.no Tryd.isAgg22 rfl rfl) ?_
        | refine VO.val rfl rfl (OpV.load_own (i := 0) rfl hB Tryd.isAgg22 rfl rfl rfl (fun h => h)) ?_
        | refine VO.val rfl rfl (OpV.load_own (i := 1) rfl hB Tryd.isAgg22 rfl rfl rfl (fun h => h)) ?_
        | refine VO.val rfl rfl (OpV.load_own (i := 2) rfl hB Tryd.isAgg22 rfl rfl rfl (fun h => h)) ?_
        | refine VO.val rfl rfl (OpV.load_own (i := 3) rfl hB Tryd.isAgg22 rfl rfl rfl (fun h => h)) ?_
        | refine VO.val rfl rfl (OpV.load_own (i := 4) rfl hB Tryd.isAgg22 rfl rfl rfl (fun h => h)) ?_
      refine VO.val rfl rfl (OpV.move (.inl rfl) rfl) ?_
      refine VO.op rfl (OpE.callL rfl hB rfl Tryd.call61 (slices_Contains_int (by rw [hoc]; omega)) (ArgsP.cons (ArgP.rowI (i := 2) rfl rfl hoc.symm) (ArgsP.cons (ArgP.ev rfl) (ArgsP.nil))) ?_)
      rintro _ rfl
      refine VO.val rfl rfl (OpV.not rfl rfl) ?_
      refine VO.nil ?_
      show VC _ _ _ _ _
      refine VC.cond rfl (fun h2b => ?_) (fun h2b => ?_)
      · have h2 := h2b
        try simp only [decide_eq_true_eq, decide_eq_false_iff_not, Bool.not_eq_true', Bool.not_eq_false', Int.not_lt, Int.not_le] at h2
        have h2' : (q : Int) ∉ o := by simpa using h2b
        refine VC.seq ?_
        refine VC.region ?_
        first
          | refine VO.val rfl rfl (OpV.load_at rfl hB OutW.no Tryd.isAgg22 rfl rfl) ?_
          | refine VO.val rfl rfl (OpV.load_own (i := 0) rfl hB Tryd.isAgg22 rfl rfl rfl (fun h => h)) ?_
          | refine VO.val rfl rfl (OpV.load_own (i := 1) rfl hB Tryd.isAgg22 rfl rfl rfl (fun h => h)) ?_
          | refine VO.val rfl rfl (OpV.load_own (i := 2) rfl hB Tryd.isAgg22 rfl rfl rfl (fun h => h)) ?_
          | refine VO.val rfl rfl (OpV.load_own (i := 3) rfl hB Tryd.isAgg22 rfl rfl rfl (fun h => h)) ?_
          | refine VO.val rfl rfl (OpV.load_own (i := 4) rfl hB Tryd.isAgg22 rfl rfl rfl (fun h => h)) ?_
        refine VO.val rfl rfl (OpV.move (.inl rfl) rfl) ?_
        refine VO.op rfl (OpE.buildSlice (zc := #[.int .i64 0]) rfl hB rfl Tryd.underlying22 Tryd.sizeOf3 Tryd.zeroValue3 (by decide) (by decide) (by kernel_rfl) rfl rfl ?_)
        first
          | refine VO.op rfl (OpE.append1S (i := 0) rfl hB rfl Tryd.underlying22 (infoOf Tryd.t3 1 (by kernel_rfl) rfl rfl) rfl (by decide) (by decide) rfl rfl rfl rfl (intsL_snoc _ _) (by omega) (fun _ _ => trivial) ?_)
          | refine VO.op rfl (OpE.append1S (i := 1) rfl hB rfl Tryd.underlying22 (infoOf Tryd.t3 1 (by kernel_rfl) rfl rfl) rfl (by decide) (by decide) rfl rfl rfl rfl (intsL_snoc _ _) (by omega) (fun _ _ => trivial) ?_)
          | refine VO.op rfl (OpE.append1S (i := 2) rfl hB rfl Tryd.underlying22 (infoOf Tryd.t3 1 (by kernel_rfl) rfl rfl) rfl (by decide) (by decide) rfl rfl rfl rfl (intsL_snoc _ _) (by omega) (fun _ _ => trivial) ?_)
          | refine VO.op rfl (OpE.append1S (i := 3) rfl hB rfl Tryd.underlying22 (infoOf Tryd.t3 1 (by kernel_rfl) rfl rfl) rfl (by decide) (by decide) rfl rfl rfl rfl (intsL_snoc _ _) (by omega) (fun _ _ => trivial) ?_)
          | refine VO.op rfl (OpE.append1S (i := 4) rfl hB rfl Tryd.underlying22 (infoOf Tryd.t3 1 (by kernel_rfl) rfl rfl) rfl (by decide) (by decide) rfl rfl rfl rfl (intsL_snoc _ _) (by omega) (fun _ _ => trivial) ?_)
        intro b2 c2
        first
          | refine VO.op rfl (OpE.store (i := 0) rfl hB rfl Tryd.sizeOf22 rfl rfl rfl rfl rfl rfl (Nat.le_of_ble_eq_true rfl) trivial ?_)
          | refine VO.op rfl (OpE.store (i := 1) rfl hB rfl Tryd.sizeOf22 rfl rfl rfl rfl rfl rfl (Nat.le_of_ble_eq_true rfl) trivial ?_)
          | refine VO.op rfl (OpE.store (i := 2) rfl hB rfl Tryd.sizeOf22 rfl rfl rfl rfl rfl rfl (Nat.le_of_ble_eq_true rfl) trivial ?_)
          | refine VO.op rfl (OpE.store (i := 3) rfl hB rfl Tryd.sizeOf22 rfl rfl rfl rfl rfl rfl (Nat.le_of_ble_eq_true rfl) trivial ?_)
          | refine VO.op rfl (OpE.store (i := 4) rfl hB rfl Tryd.sizeOf22 rfl rfl rfl rfl rfl rfl (Nat.le_of_ble_eq_true rfl) trivial ?_)
        refine VO.nil ?_
        show VC _ _ _ _ _
        refine VC.seq ?_
        refine VC.region ?_
        first
          | refine VO.val rfl rfl (OpV.load_at rfl hB OutW.no Tryd.isAgg1 rfl rfl) ?_
          | refine VO.val rfl rfl (OpV.load_own (i := 0) rfl hB Tryd.isAgg1 rfl rfl rfl (fun h => h)) ?_
          | refine VO.val rfl rfl (OpV.load_own (i := 1) rfl hB Tryd.isAgg1 rfl rfl rfl (fun h => h)) ?_
          | refine VO.val rfl rfl (OpV.load_own (i := 2) rfl hB Tryd.isAgg1 rfl rfl rfl (fun h => h)) ?_
          | refine VO.val rfl rfl (OpV.load_own (i := 3) rfl hB Tryd.isAgg1 rfl rfl rfl (fun h => h)) ?_
          | refine VO.val rfl rfl (OpV.load_own (i := 4) rfl hB Tryd.isAgg1 rfl rfl rfl (fun h => h)) ?_
        refine VO.op rfl (OpE.callH0 rfl hB rfl Tryd.call78 rfl rfl (ih d' rfl (o ++ [(q : Int)]) (.slice b2 (c + 1) c2) hh _ (c + 1) (ho.snoc (by omega) h2') (by rw [List.length_append, hoc]; rfl) (by omega) hkk) (List.Perm.refl _) (fun _ _ => trivial) ?_)
        rintro _ _ ⟨u3, h3, hk3, rfl⟩
        refine VO.nil ?_
        show VC _ _ _ _ _
        refine VC.asBox (i := 2) rfl (Nat.succ_pos _) (fun g cap hu hcap hmx => ?_)
        subst hu
        refine VC.region ?_
        first
          | refine VO.val rfl rfl (OpV.load_at rfl hB OutW.no Tryd.isAgg22 rfl rfl) ?_
          | refine VO.val rfl rfl (OpV.load_own (i := 0) rfl hB Tryd.isAgg22 rfl rfl rfl (fun h => h)) ?_
          | refine VO.val rfl rfl (OpV.load_own (i := 1) rfl hB Tryd.isAgg22 rfl rfl rfl (fun h => h)) ?_
          | refine VO.val rfl rfl (OpV.load_own (i := 2) rfl hB Tryd.isAgg22 rfl rfl rfl (fun h => h)) ?_
          | refine VO.val rfl rfl (OpV.load_own (i := 3) rfl hB Tryd.isAgg22 rfl rfl rfl (fun h => h)) ?_
          | refine VO.val rfl rfl (OpV.load_own (i := 4) rfl hB Tryd.isAgg22 rfl rfl rfl (fun h => h)) ?_
        first
          | refine VO.val rfl rfl (OpV.load_at rfl hB OutW.no Tryd.isAgg22 rfl rfl) ?_
          | refine VO.val rfl rfl (OpV.load_own (i := 0) rfl hB Tryd.isAgg22 rfl rfl rfl (fun h => h)) ?_
          | refine VO.val rfl rfl (OpV.load_own (i := 1) rfl hB Tryd.isAgg22 rfl rfl rfl (fun h => h)) ?_
          | refine VO.val rfl rfl (OpV.load_own (i := 2) rfl hB Tryd.isAgg22 rfl rfl rfl (fun h => h)) ?_
          | refine VO.val rfl rfl (OpV.load_own (i := 3) rfl hB Tryd.isAgg22 rfl rfl rfl (fun h => h)) ?_
          | refine VO.val rfl rfl (OpV.load_own (i := 4) rfl hB Tryd.isAgg22 rfl rfl rfl (fun h => h)) ?_
        first
          | refine VO.val rfl rfl (OpV.len_im rfl Tryd.underlying22 rfl) ?_
          | refine VO.val rfl rfl (OpV.len_v rfl Tryd.underlying22 rfl) ?_
          | refine VO.val rfl rfl (OpV.len_row (i := 0) rfl Tryd.underlying22 rfl rfl) ?_
          | refine VO.val rfl rfl (OpV.len_row (i := 1) rfl Tryd.underlying22 rfl rfl) ?_
          | refine VO.val rfl rfl (OpV.len_row (i := 2) rfl Tryd.underlying22 rfl rfl) ?_
          | refine VO.val rfl rfl (OpV.len_row (i := 3) rfl Tryd.underlying22 rfl rfl) ?_
          | refine VO.val rfl rfl (OpV.len_row (i := 4) rfl Tryd.underlying22 rfl rfl) ?_
        refine VO.val rfl rfl (OpV.sub rfl rfl rfl (by unfold fits; omega)) ?_
        first
          | refine VO.val rfl rfl (OpV.slice_ints (h := c) rfl Tryd.underlying22 Tryd.sizeOf3 rfl rfl ⟨_, _, rfl, by omega⟩ (by omega) (by omega)) ?_
          | refine VO.val rfl rfl (OpV.slice_strs (h := c) rfl Tryd.underlying22 Tryd.sizeOf3 rfl rfl ⟨_, _, rfl, by omega⟩ (by omega) (by omega)) ?_
          | refine VO.val rfl rfl (OpV.slice_M (h := c) rfl Tryd.underlying22 Tryd.sizeOf3 rfl rfl ⟨_, _, rfl, by omega⟩ (by omega) (by omega)) ?_
          | refine VO.val rfl rfl (OpV.slice_L (h := c) rfl Tryd.underlying22 Tryd.sizeOf3 rfl rfl ⟨_, _, rfl, by omega⟩ (by omega) (by omega)) ?_
          | refine VO.val rfl rfl (OpV.slice_im (h := c) rfl Tryd.underlying22 Tryd.sizeOf3 rfl rfl ⟨_, _, rfl, by omega⟩ (by omega) (by omega)) ?_
          | refine VO.val rfl rfl (OpV.slice_own (h := c) rfl Tryd.underlying22 Tryd.sizeOf3 rfl rfl ⟨_, _, rfl, by omega⟩ (by omega) (by omega) (by omega)) ?_
        first
          | refine VO.op rfl (OpE.store (i := 0) rfl hB rfl Tryd.sizeOf22 rfl rfl rfl rfl rfl rfl (Nat.le_of_ble_eq_true rfl) trivial ?_)
          | refine VO.op rfl (OpE.store (i := 1) rfl hB rfl Tryd.sizeOf22 rfl rfl rfl rfl rfl rfl (Nat.le_of_ble_eq_true rfl) trivial ?_)
          | refine VO.op rfl (OpE.store (i := 2) rfl hB rfl Tryd.sizeOf22 rfl rfl rfl rfl rfl rfl (Nat.le_of_ble_eq_true rfl) trivial ?_)
          | refine VO.op rfl (OpE.store (i := 3) rfl hB rfl Tryd.sizeOf22 rfl rfl rfl rfl rfl rfl (Nat.le_of_ble_eq_true rfl) trivial ?_)
          | refine VO.op rfl (OpE.store (i := 4) rfl hB rfl Tryd.sizeOf22 rfl rfl rfl rfl rfl rfl (Nat.le_of_ble_eq_true rfl) trivial ?_)
        refine VO.nil ?_
        show VC _ _ _ _ _
        first
          | refine VC.le _ ((Le.cutBoxE (i := 2) c rfl (intsL_cut hoc)).trans (Le.boxRow (i := 2) (n := c) (sz := 1) (cap := cap) rfl (by rw [intsL_len, hoc, Nat.mul_one]) (by omega) hmx)) ?_
          | skip
        refine VC.region ?_
        refine VO.val rfl rfl (OpV.add rfl rfl rfl (by unfold fits; omega)) ?_
        refine VO.val rfl rfl (OpV.move (.inl rfl) rfl) ?_
        refine VO.nil ?_
        first
          | exact Exists.intro (⟨((.slice (some ⟨g, 0, none⟩) c cap, h3), q + 1), by show q + 1 ≤ n; omega, by rw [extQ_out h2']; exact hk3⟩) (And.intro (Le.mkP hB ⟨rfl, rfl, rfl, rfl, trivial⟩ (List.Sublist.refl _) (List.Perm.refl _) (Nat.le_refl _)) (by first | omega | (show _ < _; omega) | (simp only []; omega)))
          | exact Exists.intro (⟨((uu, hh), q + 1), by show q + 1 ≤ n; omega, by rw [extQ_in h2']; exact hkk⟩) (And.intro (Le.mkP hB ⟨rfl, rfl, rfl, rfl, trivial⟩ (List.Sublist.refl _) (List.Perm.refl _) (Nat.le_refl _)) (by first | omega | (show _ < _; omega) | (simp only []; omega)))
      · have h2 := h2b
        try simp only [decide_eq_true_eq, decide_eq_false_iff_not, Bool.not_eq_true', Bool.not_eq_false', Int.not_lt, Int.not_le] at h2
        have h2' : (q : Int) ∈ o := by simpa using h2b
        refine VC.skip ?_
        show VC _ _ _ _ _
        first
          | refine VC.le _ ((Le.cutBoxE (i := 2) c rfl (intsL_cut hoc)).trans (Le.boxRow (i := 2) (n := c) (sz := 1) (cap := cap) rfl (by rw [intsL_len, hoc, Nat.mul_one]) (by omega) hmx)) ?_
          | skip
        refine VC.region ?_
        refine VO.val rfl rfl (OpV.add rfl rfl rfl (by unfold fits; omega)) ?_
        refine VO.val rfl rfl (OpV.move (.inl rfl) rfl) ?_
        refine VO.nil ?_
        first
          | exact Exists.intro (⟨((.slice (some ⟨g, 0, none⟩) c cap, h3), q + 1), by show q + 1 ≤ n; omega, by rw [extQ_out h2']; exact hk3⟩) (And.intro (Le.mkP hB ⟨rfl, rfl, rfl, rfl, trivial⟩ (List.Sublist.refl _) (List.Perm.refl _) (Nat.le_refl _)) (by first | omega | (show _ < _; omega) | (simp only []; omega)))
          | exact Exists.intro (⟨((uu, hh), q + 1), by show q + 1 ≤ n; omega, by rw [extQ_in h2']; exact hkk⟩) (And.intro (Le.mkP hB ⟨rfl, rfl, rfl, rfl, trivial⟩ (List.Sublist.refl _) (List.Perm.refl _) (Nat.le_refl _)) (by first | omega | (show _ < _; omega) | (simp only []; omega)))
    · have aH1 := aH1b
      try simp only [decide_eq_true_eq, decide_eq_false_iff_not, Bool.not_eq_true', Bool.not_eq_false', Int.not_lt, Int.not_le] at aH1
      obtain rfl : q = n := by omega
      refine VC.exit ?_
      exact Exists.intro _ (And.intro (RetV.none Tryd.results78) (⟨uu, hh, hkk, rfl⟩))
theorem rf_orderings1 {τ : Type} {K : τ → List Ent → Prop} {step : τ → List Int → τ} {n : Nat} {F : FuncId} {caps : Array Value} {g0 g1 g2 g4 : Nat} (hn : n ≤ 1000) (hcd : ∀ us w, (callFunc F us).run Tryd.prog w = .ok (.enter F us) w) (hdo : DoesP n K step Tryd.prog F caps 3) :
    ∀ (d : Nat) (o : List Int) (u : Value) (h : List Ent) (a : τ) (c : Nat), Ord n o → o.length = c → c + d = n → K a h → SpecH Tryd.prog 78 [pt g0, pt g1, pt g2, pt g4] (ownR n F 78 caps 22 3 86 1 g0 g1 g2 g4 c o u h) (fun y hp' => ∃ u' h', K (ext n step d o a) h' ∧ hp' = ownR n F 78 caps 22 3 86 1 g0 g1 g2 g4 c o u' h')
  | 0, o, u, h, a, c, ho, hoc, hc, hk => rf_orderings1_step hn hcd hdo (fun d' e => by omega) ho hoc hc hk
  | d + 1, o, u, h, a, c, ho, hoc, hc, hk => rf_orderings1_step hn hcd hdo (fun d' e => by obtain rfl : d = d' := (by omega); exact rf_orderings1 hn hcd hdo d) ho hoc hc hk
set_option maxRecDepth 100000 in
theorem rf_orderings {τ : Type} {K : τ → List Ent → Prop} {step : τ → List Int → τ} {n : Nat} {F : FuncId} {caps : Array Value} {h : List Ent} {a : τ} (hn : n ≤ 1000) (hcd : ∀ us w, (callFunc F us).run Tryd.prog w = .ok (.enter F us) w) (hdo : DoesP n K step Tryd.prog F caps 3) (hk : K a h) :
    SpecH Tryd.prog 62 [avI (n : Int), .v (.func (.func F) #[] caps)] h (fun y hp' => ∃ h', K (ext n step n [] a) h' ∧ hp' = h') := by
  refine SpecH.of_VC Tryd.func62 rfl Tryd.ntmps62 (Nat.le_of_ble_eq_true rfl) fun w A hB => ?_
  have hnew : True := trivial
  refine VC.seq ?_
  refine VC.region ?_
  refine VO.op rfl (OpE.box rfl hB rfl rfl rfl ?_)
  intro g2
  refine VO.le _ (Le.front rfl) ?_
  refine VO.op rfl (OpE.box rfl hB rfl rfl rfl ?_)
  intro g3
  refine VO.le _ (Le.front rfl) ?_
  refine VO.nil ?_
  show VC _ _ _ _ _
  refine VC.seq ?_
  refine VC.region ?_
  first
    | refine VO.val rfl rfl (OpV.load_at rfl hB OutW.no Tryd.isAgg3 rfl rfl) ?_
    | refine VO.val rfl rfl (OpV.load_own (i := 0) rfl hB Tryd.isAgg3 rfl rfl rfl (fun h => h)) ?_
    | refine VO.val rfl rfl (OpV.load_own (i := 1) rfl hB Tryd.isAgg3 rfl rfl rfl (fun h => h)) ?_
  refine VO.op rfl (OpE.make0 rfl hB rfl Tryd.underlying22 (infoOf Tryd.t3 1 (by kernel_rfl) rfl rfl) (by decide) rfl rfl rfl (by omega) ?_)
  intro u7
  refine VO.le _ (Le.front rfl) ?_
  refine VO.rowIs (i := 0) rfl (fun b7 c7 hu => ?_)
  subst hu
  refine VO.op rfl (OpE.alloc rfl hB rfl Tryd.zeroValue22 rfl ?_)
  intro g4
  refine VO.le _ (Le.front rfl) ?_
  first
    | refine VO.op rfl (OpE.store (i := 0) rfl hB rfl Tryd.sizeOf22 rfl rfl rfl rfl rfl rfl (Nat.le_of_ble_eq_true rfl) trivial ?_)
    | refine VO.op rfl (OpE.store (i := 1) rfl hB rfl Tryd.sizeOf22 rfl rfl rfl rfl rfl rfl (Nat.le_of_ble_eq_true rfl) trivial ?_)
    | refine VO.op rfl (OpE.store (i := 2) rfl hB rfl Tryd.sizeOf22 rfl rfl rfl rfl rfl rfl (Nat.le_of_ble_eq_true rfl) trivial ?_)
    | refine VO.op rfl (OpE.store (i := 3) rfl hB rfl Tryd.sizeOf22 rfl rfl rfl rfl rfl rfl (Nat.le_of_ble_eq_true rfl) trivial ?_)
  refine VO.nil ?_
  show VC _ _ _ _ _
  refine VC.seq ?_
  refine VC.region ?_
  refine VO.op rfl (OpE.alloc rfl hB rfl Tryd.zeroValue1 rfl ?_)
  intro g5
  refine VO.le _ (Le.front rfl) ?_
  refine VO.nil ?_
  show VC _ _ _ _ _
  refine VC.seq ?_
  refine VC.region ?_
  refine VO.val rfl rfl (OpV.makeFunc4 rfl rfl rfl rfl rfl) ?_
  first
    | refine VO.op rfl (OpE.store (i := 0) rfl hB rfl Tryd.sizeOf1 rfl rfl rfl rfl rfl rfl (Nat.le_of_ble_eq_true rfl) trivial ?_)
    | refine VO.op rfl (OpE.store (i := 1) rfl hB rfl Tryd.sizeOf1 rfl rfl rfl rfl rfl rfl (Nat.le_of_ble_eq_true rfl) trivial ?_)
    | refine VO.op rfl (OpE.store (i := 2) rfl hB rfl Tryd.sizeOf1 rfl rfl rfl rfl rfl rfl (Nat.le_of_ble_eq_true rfl) trivial ?_)
    | refine VO.op rfl (OpE.store (i := 3) rfl hB rfl Tryd.sizeOf1 rfl rfl rfl rfl rfl rfl (Nat.le_of_ble_eq_true rfl) trivial ?_)
    | refine VO.op rfl (OpE.store (i := 4) rfl hB rfl Tryd.sizeOf1 rfl rfl rfl rfl rfl rfl (Nat.le_of_ble_eq_true rfl) trivial ?_)
  refine VO.nil ?_
  show VC _ _ _ _ _
  refine VC.region ?_
  first
    | refine VO.val rfl rfl (OpV.load_at rfl hB OutW.no Tryd.isAgg1 rfl rfl) ?_
    | refine VO.val rfl rfl (OpV.load_own (i := 0) rfl hB Tryd.isAgg1 rfl rfl rfl (fun h => h)) ?_
    | refine VO.val rfl rfl (OpV.load_own (i := 1) rfl hB Tryd.isAgg1 rfl rfl rfl (fun h => h)) ?_
    | refine VO.val rfl rfl (OpV.load_own (i := 2) rfl hB Tryd.isAgg1 rfl rfl rfl (fun h => h)) ?_
    | refine VO.val rfl rfl (OpV.load_own (i := 3) rfl hB Tryd.isAgg1 rfl rfl rfl (fun h => h)) ?_
    | refine VO.val rfl rfl (OpV.load_own (i := 4) rfl hB Tryd.isAgg1 rfl rfl rfl (fun h => h)) ?_
  refine VO.op rfl (OpE.callH0 rfl hB rfl Tryd.call78 rfl rfl (rf_orderings1 hn hcd hdo n [] (.slice b7 0 c7) h a 0 (Ord.nil n) rfl (Nat.zero_add n) hk) (List.Perm.refl _) (fun _ _ => trivial) ?_)
  rintro _ _ ⟨u3, h3, hk3, rfl⟩
  refine VO.le _ (Le.drop 5) ?_
  refine VO.nil ?_
  exact Exists.intro _ (And.intro (RetV.none Tryd.results62) (⟨h3, hk3, rfl⟩))
end Go.Proofs.YtpajnlcikmhpdaaDoor
