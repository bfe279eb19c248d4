/- Part 1 of a proof: the walks and laws that it needs. -/
import Derived.Laws.IdiomRangeMap
import Derived.Sort.Walk0
import Derived.Laws.StructEq
import Derived.Test.YtceflkkgmmcieaaGreatDoorProg
import Derived.Test.YtceflkkgmmcieaaGreatDoorZB4
namespace Go.Proofs.YtceflkkgmmcieaaGreatDoor
open Go.RowKit
set_option linter.unusedVariables false
set_option linter.unusedSimpArgs false

theorem bl_irr : ∀ x : List UInt8, Op.bytesLess x x = false
 | [] => rfl
 | a :: x => by
  rw [Op.bytesLess, bl_irr x]
  have : ¬ a < a := by rw [UInt8.lt_iff_toNat_lt]; omega
  simp [this]
theorem bl_trans : ∀ {x y z : List UInt8}, Op.bytesLess x y = true → Op.bytesLess y z = true → Op.bytesLess x z = true
 | _, [], _, h, _ => by simp [Op.bytesLess] at h
 | _, _ :: _, [], _, h => by simp [Op.bytesLess] at h
 | [], _ :: _, _ :: _, _, _ => rfl
 | a :: x, b :: y, c :: z, h1, h2 => by
  simp only [Op.bytesLess, Bool.or_eq_true, decide_eq_true_eq, Bool.and_eq_true, beq_iff_eq, UInt8.lt_iff_toNat_lt] at h1 h2 ⊢
  rcases h1 with h1 | ⟨rfl, h1⟩
  ·rcases h2 with h2 | ⟨rfl, h2⟩
   ·exact .inl (by omega)
   ·exact .inl h1
  ·rcases h2 with h2 | ⟨rfl, h2⟩
   ·exact .inl h2
   ·exact .inr ⟨rfl, bl_trans h1 h2⟩
theorem bl_total : ∀ {x y : List UInt8}, Op.bytesLess x y = false → x ≠ y → Op.bytesLess y x = true
 | [], [], _, h => absurd rfl h
 | _ :: _, [], _, _ => rfl
 | [], _ :: _, h, _ => by simp [Op.bytesLess] at h
 | a :: x, b :: y, h, hne => by
  simp only [Op.bytesLess, Bool.or_eq_false_iff, decide_eq_false_iff_not, Bool.and_eq_false_iff, beq_eq_false_iff_ne, UInt8.lt_iff_toNat_lt, Bool.or_eq_true, decide_eq_true_eq, Bool.and_eq_true, beq_iff_eq] at h ⊢
  by_cases hab : a = b
  ·subst hab
   have h2 : Op.bytesLess x y = false := by rcases h.2 with h2 | h2; exact absurd rfl h2; exact h2
   exact .inr ⟨rfl, bl_total h2 fun e => hne (by rw [e])⟩
  ·left
   have : a.toNat ≠ b.toNat := fun e => hab (UInt8.toNat_inj.1 e)
   omega
theorem sLt_irr (p : ByteArray) : sLt p p = false := bl_irr _
theorem sLt_trans {p q r : ByteArray} (h1 : sLt p q = true) (h2 : sLt q r = true) : sLt p r = true := bl_trans h1 h2
theorem sLt_of_not {p q : ByteArray} (h : sLe p q = false) : sLt q p = true := by
 unfold sLe at h
 rw [Bool.or_eq_false_iff] at h
 refine bl_total h.1 fun e => ?_
 have : sEq p q = true := by unfold sEq; rw [e]; simp
 rw [this] at h; cases h.2
theorem sEq_refl (p : ByteArray) : sEq p p = true := sEq_eq.2 rfl
section
variable {xs : List ByteArray} {v : ByteArray} {i : Nat}
end

end Go.Proofs.YtceflkkgmmcieaaGreatDoor
namespace Go.Proofs.YtceflkkgmmcieaaGreatDoor
set_option linter.unusedVariables false
set_option linter.unusedSimpArgs false
section
variable {α : Type} (lt : α → α → Bool) (d : α)
def OrdL (l : List α) : Prop := l.Pairwise fun a b => lt b a = false
def InvO (l0 : List α) (i : Nat) (l : List α) : Prop := ∃ P R, l = P ++ R ∧ P.length = min i l.length ∧ l.Perm l0 ∧ OrdL lt P
def InvI (l0 : List α) (i j : Nat) (l : List α) : Prop := ∃ P x S R, l = P ++ x :: (S ++ R) ∧ P.length = j ∧ P.length + S.length = i ∧ l.Perm l0 ∧ OrdL lt (P ++ S) ∧ ∀ s ∈ S, lt x s = true
variable {lt d} {l0 l : List α} {i j : Nat}
theorem InvO.len (h : InvO lt l0 i l) : l.length = l0.length := h.choose_spec.choose_spec.2.2.1.length_eq
theorem InvI.len (h : InvI lt l0 i j l) : l.length = l0.length ∧ i < l.length ∧ j ≤ i := by
 obtain ⟨P, x, S, R, h1, h2, h3, h4, _⟩ := h
 refine ⟨h4.length_eq, ?_, by omega⟩
 rw [h1]; simp; omega
theorem InvO.one (l0 : List α) : InvO lt l0 1 l0 := by
 cases l0 with
 | nil => exact ⟨[], [], rfl, by simp, .refl _, .nil⟩
 | cons x r => exact ⟨[x], r, rfl, by simp, .refl _, List.pairwise_singleton _ _⟩
theorem InvO.start (h : InvO lt l0 i l) (hi : i < l.length) : InvI lt l0 i i l := by
 obtain ⟨P, R, h1, h2, h3, h4⟩ := h
 rw [Nat.min_eq_left (by omega)] at h2
 cases R with
 | nil => rw [h1] at hi; simp at hi; omega
 | cons x R => exact ⟨P, x, [], R, h1, h2, by simpa using h2, h3, by simpa using h4, by simp⟩
theorem snocOf {P : List α} (h : 0 < P.length) : ∃ Q y, P = Q ++ [y] := ⟨P.dropLast, P.getLast (by intro e; rw [e] at h; simp at h), (List.dropLast_concat_getLast _).symm⟩
theorem swap_eq {Q T : List α} {x y : α} : ((Q ++ y :: x :: T).set (Q.length + 1) y).set Q.length x = Q ++ x :: y :: T := by
 rw [List.set_append_right _ _ (by omega), show Q.length + 1 - Q.length = 1 by omega, List.set_append_right _ _ (by omega), Nat.sub_self]
 rfl
theorem at0 {Q T : List α} {y : α} : (Q ++ y :: T).getD Q.length d = y := by simp [List.getD_eq_getElem?_getD]
theorem at1 {Q T : List α} {x y : α} : (Q ++ y :: x :: T).getD (Q.length + 1) d = x := by
 simp [List.getD_eq_getElem?_getD, List.getElem?_append_right]
theorem InvI.next (ht : ∀ {a b c : α}, lt a b = true → lt b c = true → lt a c = true) (h : InvI lt l0 i j l) (hj : 0 < j) (hlt : lt (l.getD j d) (l.getD (j - 1) d) = true) :
  InvI lt l0 i (j - 1) ((l.set j (l.getD (j - 1) d)).set (j - 1) (l.getD j d)) := by
 obtain ⟨P, x, S, R, h1, h2, h3, h4, h5, h6⟩ := h
 obtain ⟨Q, y, rfl⟩ := snocOf (P := P) (by omega)
 have hl : l = Q ++ y :: x :: (S ++ R) := by rw [h1]; simp
 have hj' : j = Q.length + 1 := by rw [← h2]; simp
 subst hj'
 rw [hl] at hlt ⊢
 rw [at1, show Q.length + 1 - 1 = Q.length by omega, at0] at hlt
 rw [at1, show Q.length + 1 - 1 = Q.length by omega, at0, swap_eq]
 refine ⟨Q, x, y :: S, R, by simp, rfl, by simp at h3 ⊢; omega, ?_, by simpa using h5, ?_⟩
 ·rw [hl] at h4
  exact ((List.Perm.swap y x (S ++ R)).append_left Q).trans h4
 ·intro s hs
  rcases List.mem_cons.1 hs with rfl | hs
  ·exact hlt
  ·exact h6 s hs
theorem InvI.done (ha : ∀ {a b : α}, lt a b = true → lt b a = false) (hn : ∀ {a b c : α}, lt b a = false → lt c b = false → lt c a = false) (h : InvI lt l0 i j l) (hx : j = 0 ∨ lt (l.getD j d) (l.getD (j - 1) d) = false) : InvO lt l0 (i + 1) l := by
 obtain ⟨P, x, S, R, h1, h2, h3, h4, h5, h6⟩ := h
 refine ⟨P ++ x :: S, R, by rw [h1]; simp, by rw [h1]; simp; omega, h4, ?_⟩
 unfold OrdL at h5 ⊢
 obtain ⟨k1, k2, k3⟩ := List.pairwise_append.1 h5
 refine List.pairwise_append.2 ⟨k1, List.pairwise_cons.2 ⟨fun s hs => ha (h6 s hs), k2⟩, fun a hA b hb => ?_⟩
 rcases List.mem_cons.1 hb with rfl | hb
 ·rcases hx with hx | hx
  ·subst hx; rw [List.eq_nil_of_length_eq_zero h2] at hA; cases hA
  ·obtain ⟨Q, y, rfl⟩ := snocOf (P := P) (List.length_pos_of_mem hA)
   have hl : l = Q ++ y :: b :: (S ++ R) := by rw [h1]; simp
   have hj' : j = Q.length + 1 := by rw [← h2]; simp
   subst hj'
   rw [hl, at1, show Q.length + 1 - 1 = Q.length by omega, at0] at hx
   rcases List.mem_append.1 hA with hA | hA
   ·have := (List.pairwise_append.1 k1).2.2 a hA y (by simp)
    exact hn this hx
   ·simp at hA; subst hA; exact hx
 ·exact k3 a hA b hb
theorem InvO.all (h : InvO lt l0 i l) (hi : l.length ≤ i) : l.Perm l0 ∧ OrdL lt l := by
 obtain ⟨P, R, h1, h2, h3, h4⟩ := h
 rw [Nat.min_eq_right hi] at h2
 have : R = [] := by rw [h1] at h2; simpa using h2
 subst this
 rw [List.append_nil] at h1
 subst h1
 exact ⟨h3, h4⟩
theorem ord_unique : ∀ {l r : List α}, l.Perm r → l.Nodup → (∀ a ∈ l, ∀ b ∈ l, a ≠ b → lt a b = false → lt b a = true) → OrdL lt l → OrdL lt r → l = r
 | [], r, h, _, _, _, _ => (List.nil_perm.1 h).symm
 | x :: l, [], h, _, _, _, _ => by simp at h
 | x :: l, y :: r, h, hd, ht, h1, h2 => by
  obtain ⟨h1a, h1b⟩ := List.pairwise_cons.1 h1
  obtain ⟨h2a, h2b⟩ := List.pairwise_cons.1 h2
  have hxy : x = y := by
   by_cases e : x = y
   ·exact e
   ·exfalso
    have hy : y ∈ l := by
     have := h.symm.subset (List.mem_cons_self (a := y) (l := r))
     rcases List.mem_cons.1 this with e' | h'
     ·exact absurd e'.symm e
     ·exact h'
    have hx : x ∈ r := by
     have := h.subset (List.mem_cons_self (a := x) (l := l))
     rcases List.mem_cons.1 this with e' | h'
     ·exact absurd e' e
     ·exact h'
    have q1 := h1a y hy
    have q2 := h2a x hx
    have := ht x (by simp) y (by simp [hy]) e q2
    rw [this] at q1; cases q1
  subst hxy
  rw [ord_unique ((List.perm_cons x).1 h) (List.nodup_cons.1 hd).2 (fun a ha b hb => ht a (by simp [ha]) b (by simp [hb])) h1b h2b]
end
end Go.Proofs.YtceflkkgmmcieaaGreatDoor
namespace Go.Proofs.YtceflkkgmmcieaaGreatDoor
open Go.RowKit
set_option linter.unusedVariables false
set_option linter.unusedSimpArgs false
def cmpB (a b : ByteArray) : Int := Lib.compareBytes a.data.toList b.data.toList
theorem strings_Compare_S {a b : ByteArray} : SpecN Tryz.prog 123 [avS a, avS b] (fun y => y = avI (cmpB a b)) := by
 intro w us ha
 rw [argsV2 ha]
 refine (Tryz.strings_Compare a b w).mono ?_
 rintro e w' ⟨rfl, rfl⟩
 exact ⟨_, _, rfl, rfl, .v _, Chg.refl _ _, trivial⟩
theorem bits_Len_S {x : Int} (h0 : 0 ≤ x) (h1 : x ≤ 18446744073709551615) : SpecN Tryz.prog 155 [.v (.int .u64 x)] (fun y => ∃ k : Int, y = avI k) := by
 intro w us ha
 rw [args1 ha]
 refine (Tryz.bits_Len x w h0 h1).mono ?_
 rintro e w' ⟨rfl, rfl⟩
 exact ⟨_, _, ⟨_, rfl⟩, rfl, .v _, Chg.refl _ _, trivial⟩

theorem cmp_lt : ∀ x y : List UInt8, decide (Lib.compareBytes x y < 0) = Op.bytesLess x y
 | [], [] => rfl
 | [], _ :: _ => rfl
 | _ :: _, [] => rfl
 | a :: x, b :: y => by
  unfold Lib.compareBytes Op.bytesLess
  have ih := cmp_lt x y
  by_cases h1 : a < b
  ·simp [h1]
  ·by_cases h2 : b < a
   ·simp [h1, h2]
    intro e; subst e; exact absurd h2 (UInt8.lt_irrefl _)
   ·have e : a = b := UInt8.le_antisymm (UInt8.not_lt.1 h2) (UInt8.not_lt.1 h1)
    subst e
    simp [UInt8.lt_irrefl]
    simpa using ih
theorem cmpB_lt (a b : ByteArray) : decide (cmpB a b < 0) = sLt a b := by
 unfold sLt
 rw [Lib.toList_data, Lib.toList_data]
 exact cmp_lt _ _
theorem cmp_eq : ∀ {x y : List UInt8}, Lib.compareBytes x y = 0 ↔ x = y
 | [], [] => by simp [Lib.compareBytes]
 | [], _ :: _ => by simp [Lib.compareBytes]
 | _ :: _, [] => by simp [Lib.compareBytes]
 | a :: x, b :: y => by
  unfold Lib.compareBytes
  by_cases h1 : a < b
  ·simp [h1]
   intro e; subst e; exact absurd h1 (UInt8.lt_irrefl _)
  ·by_cases h2 : b < a
   ·simp [h1, h2]
    intro e; subst e; exact absurd h2 (UInt8.lt_irrefl _)
   ·have e : a = b := UInt8.le_antisymm (UInt8.not_lt.1 h2) (UInt8.not_lt.1 h1)
    subst e
    simp [UInt8.lt_irrefl, cmp_eq]
theorem cmpB_eq {a b : ByteArray} : cmpB a b = 0 ↔ a = b := by
 unfold cmpB
 rw [cmp_eq]
 constructor
 ·intro h
  cases a; cases b
  simpa using h
 ·intro h; rw [h]
theorem sLt_total {a b : ByteArray} (h : sLt a b = false) (hne : a ≠ b) : sLt b a = true := by
 unfold sLt at h ⊢
 rw [Lib.toList_data, Lib.toList_data] at h ⊢
 exact bl_total h fun e => hne (by cases a; cases b; simpa using e)
section
variable {α : Type} {k : α → ByteArray}
end
end Go.Proofs.YtceflkkgmmcieaaGreatDoor
namespace Go.Proofs.YtceflkkgmmcieaaGreatDoor
open Go.RowKit
set_option linter.unusedVariables false
set_option linter.unusedSimpArgs false
section
variable {P : Program}
theorem run_next_it (w : World) (ty : TypeId) (m g clk : Nat) (sb : Array Nat) (c : Array MapEntry) (hg : w.heap[g]? = some (.mapIter (some m) clk sb clk)) (hm : w.heap[m]? = some (.map c clk)) (hold : ∀ x ∈ c.toList, x.born < clk) :
    ((leftOf c sb).size = 0 ∧ (Instr.next (.pointer (some ⟨g, 0, none⟩)) false ty).run P w = .ok (.tuple #[.bool false]) w) ∨
    ∃ e ∈ (leftOf c sb).toList, ∃ w1 : World, (w1 = w ∨ w1 = w.drew) ∧ (Instr.next (.pointer (some ⟨g, 0, none⟩)) false ty).run P w = .ok (.tuple #[.bool true, e.key, e.val]) { w1 with heap := w1.heap.setIfInBounds g (.mapIter (some m) clk (sb.push e.born) clk) } := by
  simp only [Instr.next, getObj, Sem.run_bind, Sem.run, hg, hm, Result.andThen, next_test_false sb c clk clk hold (Nat.le_refl _), Bool.false_eq_true, if_false]
  unfold leftOf
  have hmem : ∀ x ∈ (Array.filter (fun e => !sb.contains e.born) c).toList, x.born < clk := fun x hx => hold x (by simp at hx ⊢; exact hx.1)
  generalize Array.filter (fun e => !sb.contains e.born) c = L at hmem ⊢
  have e1 : L.filter (fun x => decide (x.born < clk)) = L := Array.filter_eq_self.2 (fun x hx => by simpa using hmem x (by simpa using hx))
  have e2 : L.filter (fun x => decide (x.born ≥ clk)) = #[] := by
    rw [Array.filter_eq_empty_iff]
    intro x hx
    have := hmem x (by simpa using hx)
    simp
    omega
  simp only [e1, e2, Array.append_empty]
  by_cases h0 : L.size = 0
  · left
    have : L = #[] := Array.eq_empty_of_size_eq_zero h0
    subst this
    refine ⟨rfl, ?_⟩
    simp [choose, Sem.run, Question.forced]
  · right
    have hne : L.isEmpty = false := by simp [Array.isEmpty, h0]
    simp only [hne, Bool.false_eq_true, if_false, Array.empty_append, Array.size_map]
    have hch : ∃ (j : Nat) (w1 : World), j < L.size ∧ (w1 = w ∨ w1 = w.drew) ∧ (choose (Question.mapNext L.size)).run P w = .ok j w1 := by
      by_cases hf : L.size ≤ 1
      · exact ⟨0, w, by omega, .inl rfl, by simp [choose, Sem.run, Question.forced, hf]⟩
      · exact ⟨_, w.drew, Nat.mod_lt _ (by omega), .inr rfl, by
          simp only [choose, Sem.run, Question.forced, decide_eq_true_eq, hf, if_false, Question.cut]
          rfl⟩
    obtain ⟨j, w1, hj, hal, hrun⟩ := hch
    refine ⟨L[j], by simp, w1, hal, ?_⟩
    have hg1 : w1.heap[g]? = some (.mapIter (some m) clk sb clk) := by rcases hal with rfl | rfl <;> exact hg
    simp only [hrun, Array.getElem?_map, Array.getElem?_eq_getElem hj, Option.map_some, Sem.run_bind, setObj, Sem.run, hg1, Result.andThen]
    rfl
theorem run_entry_it (w : World) (m g clk : Nat) (sb : Array Nat) (c : Array MapEntry) (e : MapEntry) (hg : w.heap[g]? = some (.mapIter (some m) clk sb clk)) (hm : w.heap[m]? = some (.map c clk)) (he : e ∈ c.toList) (hn : (c.toList.map (·.born)).Nodup) (hb : sb.back? = some e.born) :
  (Instr.entry (.pointer (some ⟨g, 0, none⟩))).run P w = .ok (.tuple #[e.key, e.val]) w := by
 have hf : c.find? (·.born == e.born) = some e := by rw [← Array.find?_toList]; exact find_born e c.toList hn he
 simp only [Instr.entry, getObj, Sem.run_bind, Sem.run, hg, hm, Result.andThen, hb, bne_self_eq_false, Bool.false_eq_true, if_false, hf]
 rfl
end
section
variable {κ α : Type} [Inhabited κ] [Inhabited α] {P : Program} {B : Bs} {W : Nat → Prop} {s : St'} {o : Oper} {K : St' → Prop} {kv : κ → Value} {E : α → AV}
abbrev avMap (kv : κ → Value) (E : α → AV) (l : List (κ × α)) : AV := .mpv l.length (fun j => kv (l.getD j default).1) (fun j => E (l.getD j default).2)
theorem getD_lt' {β : Type} [Inhabited β] (l : List β) {j : Nat} (h : j < l.length) : l.getD j default = l[j] := by rw [List.getD_eq_getElem?_getD, List.getElem?_eq_getElem h]; rfl
theorem born_nodup {c : Array MapEntry} {n : Nat} (hn : c.size = n) (h : ∀ j, j < n → (c[j]!).born = j) : (c.toList.map (·.born)).Nodup := by
 have : c.toList.map (·.born) = List.range n := by
  apply List.ext_getElem (by simp [hn])
  intro i h1 h2
  simp at h1 h2
  have := h i h2
  rw [getElem!_pos c i h1] at this
  simpa using this
 rw [this]; exact List.nodup_range
theorem Le.freezeM {t i g : Nat} {l : List (κ × α)} (hB : B.Ok) (hnew : True) (ht : look s.sl t = some (.v (.map (some g)))) (hi : s.hp[i]? = some (mapE kv g E l)) : Le B s ⟨(t, avMap kv E l) :: s.sl, s.hp.eraseIdx i, s.k⟩ := fun a w hr => by
 have hm := List.mem_of_getElem? hi
 have hr' := hr.erase i
 refine hr'.over t ?_
 have hu : a.tmps.getD t undef = _ := (hr.slots t _ ht).eq_v
 rw [hu]
 obtain ⟨c, h1, h2, h3⟩ := EntR.toMap (hr.blocks _ hm)
 refine .mpv _ _ _ g c l.length (hr.erased hB hi rfl) h1 h2 (fun j hj => ?_) (born_nodup h2 fun j hj => (h3 j hj).2.1) fun j hj => ?_
 ·obtain ⟨k1, k2, _⟩ := h3 j hj
  rw [k1, k2, getD_lt' l hj]; exact ⟨rfl, hj⟩
 ·obtain ⟨_, _, k3⟩ := h3 j hj
  rw [getD_lt' l hj]
  exact k3.keep fun b hb _ => ⟨rfl, hb.1, fun p hp => hb.2.1 p ((List.eraseIdx_sublist s.hp i).subset hp), hb.2.2⟩
end
section
variable {P : Program} {B : Bs} {W : Nat → Prop} {s : St'} {o : Oper} {K : St' → Prop} {n : Nat} {ks : Nat → Value} {f : Nat → AV}
theorem OpE.rangeM {t kt e : TypeId} {x : Operand} (ho : o.op = .range t x) (hB : B.Ok) (hd : okd B.nt o.dst = true) (hu : P.underlying t = some (.map kt e)) (hx : evO s x = some (.mpv n ks f))
  (hK : ∀ g, K ((St'.mk s.sl (s.hp ++ [.it g n ks f []]) s.k).put o.dst (.v (.pointer (some ⟨g, 0, none⟩))))) : OpE P B W s o K := by
 intro a w hr next Qx hn
 have hv := hr.ev hx
 generalize hxe : a.eval x = v at hv
 cases hv with
 | mpv n ks f b es clk hZ hb hes hk hdd hrr =>
  have hlt : b < w.heap.size := hZ.1
  have h1 := hr.new hB (.mapIter (some b) clk #[] clk) (.it w.heap.size n ks f []) rfl ⟨b, es, clk, clk, #[], by
    refine ⟨by simp; omega, fun p hp => ?_, hZ.2.2⟩
    rcases List.mem_append.1 hp with hp | hp
    ·exact hZ.2.1 p hp
    ·simp at hp; subst hp; intro h; simp [Ent.blk] at h; omega, by rw [@Go.heap_alloc_old w _ _ hlt]; exact hb, hes, hdd, fun j hj => ⟨(hk j hj).1, (hk j hj).2, (hrr j hj).keep fun b' hb' hl' => ⟨Below.heap_alloc _ _ _ hl', by simp; omega, fun p hp => by
     rcases List.mem_append.1 hp with hp | hp
     ·exact hb'.2.1 p hp
     ·simp at hp; subst hp; intro h; simp [Ent.blk] at h; omega, hb'.2.2⟩⟩, Go.heap_alloc_new w _, ⟨rfl, fun j h => by simp at h⟩, fun j hj => by simp⟩
  have hrun : (execOp a.eval o).run P w = .ok (.value (.pointer (some ⟨w.heap.size, 0, none⟩))) (w.alloc (.mapIter (some b) clk #[] clk)) := by
   simp [execOp, ho, hxe, run_range_map w t kt e b es clk hu hb]
  unfold Oper.wp
  rw [hrun]
  exact hn _ _ _ (hK _) (h1.put _ hd _ _ (.v _)) (.ofN ((Chg.refl _ _).alloc _))
theorem OpE.nextM {x : Operand} {g i : Nat} {seen : List Nat} (ho : o.op = .next x false) (hB : B.Ok) (hd : okd B.nt o.dst = true) (hx : evO s x = some (.v (.pointer (some ⟨g, 0, none⟩)))) (hi : s.hp[i]? = some (.it g n ks f seen)) (hW : W g)
  (h0 : (∀ j, j < n → j ∈ seen) → K (s.put o.dst (.tup [avB false])))
  (h1 : ∀ j, j < n → j ∉ seen → K ((St'.mk s.sl (s.hp.set i (.it g n ks f (j :: seen))) s.k).put o.dst (.tup [avB true, .v (ks j), f j]))) : OpE P B W s o K := by
 intro a w hr next Qx hn
 have hm := List.mem_of_getElem? hi
 obtain ⟨m, c, clk, last, sb, hZ, hmm, hc, hdd, hk, hg, ⟨rfl, hl2⟩, hs⟩ := hr.blocks _ hm
 have hxe : a.eval x = _ := (hr.ev hx).eq_v
 have hold : ∀ x ∈ c.toList, x.born < last := fun x hx => by
  obtain ⟨j, hj, rfl⟩ := List.getElem_of_mem hx
  have := (hk j (by simpa [hc] using hj)).2.1
  rw [getElem!_pos c j (by simpa using hj)] at this
  simpa using this
 unfold Oper.wp
 rcases run_next_it (P := P) w o.type m g last sb c hg hmm hold with ⟨hz, hrun⟩ | ⟨e, he, w1, hw1, hrun⟩
 ·have hex : (execOp a.eval o).run P w = .ok (.value (.tuple #[.bool false])) w := by simp [execOp, ho, hxe, hrun]
  rw [hex]
  refine hn _ _ _ (h0 fun j hj => ?_) (hr.put _ hd _ _ (.tup _ _ rfl fun q hq => ?_)) (.ofN (Chg.refl _ _))
  ·by_cases hb : sb.contains (c[j]!).born = true
   ·exact (hs j hj).1 hb
   ·exfalso
    have hjc : j < c.size := by omega
    have : c[j]! ∈ leftOf c sb := by
     unfold leftOf
     rw [Array.mem_filter]
     refine ⟨by rw [getElem!_pos c j hjc]; exact Array.getElem_mem hjc, by rw [Bool.not_eq_true] at hb; rw [hb]; rfl⟩
    have := Array.size_pos_of_mem this
    omega
  ·simp at hq; subst hq; exact .v _
 ·obtain ⟨he1, he2⟩ := mem_left he
  obtain ⟨j, hj, rfl⟩ := List.getElem_of_mem he1
  have hjc : j < c.size := by simpa using hj
  have hjn : j < n := by omega
  have hej : c.toList[j] = c[j]! := by rw [getElem!_pos c j hjc]; simp
  rw [hej] at hrun he2 he
  have hnot : j ∉ seen := fun h => by have := (hs j hjn).2 h; rw [this] at he2; cases he2
  have hgl : g < w.heap.size := hr.lt _ hm g rfl
  generalize hw2 : ({ w1 with heap := w1.heap.setIfInBounds g (.mapIter (some m) last (sb.push (c[j]!).born) last) } : World) = w2 at hrun
  have hch : Chg (fun b => b = g) w w2 := by
   subst hw2
   rcases hw1 with rfl | rfl
   ·exact ⟨rfl, rfl, rfl, by simp, fun b hb hne => by simp [Array.getElem?_setIfInBounds]; intro e; exact absurd e.symm hne⟩
   ·exact ⟨rfl, rfl, rfl, by show w.heap.size ≤ (w.heap.setIfInBounds g _).size; simp, fun b hb hne => by show (w.heap.setIfInBounds g _)[b]? = w.heap[b]?; rw [Array.getElem?_setIfInBounds_ne (Ne.symm hne)]⟩
  have hg2 : w2.heap[g]? = some (.mapIter (some m) last (sb.push (c[j]!).born) last) := by
   subst hw2
   rcases hw1 with rfl | rfl
   ·simp [hgl]
   ·show (w.heap.setIfInBounds g _)[g]? = _
    simp [hgl]
  have hz : ∀ b, Zn B s.hp w b → w2.heap[b]? = w.heap[b]? ∧ Zn B (s.hp.set i (.it g n ks f (j :: seen))) w2 b := fun b hb => by
   have hbg : b ≠ g := fun e => by subst e; exact hb.2.1 _ hm rfl
   refine ⟨hch.block b hb.1 hbg, Nat.lt_of_lt_of_le hb.1 hch.size, fun p hp hpb => ?_, hb.2.2⟩
   rcases List.mem_or_eq_of_mem_set hp with h | h
   ·exact hb.2.1 p h hpb
   ·subst h; exact hb.2.1 _ hm hpb
  have hex : (execOp a.eval o).run P w = .ok (.value (.tuple #[.bool true, (c[j]!).key, (c[j]!).val])) w2 := by simp [execOp, ho, hxe, hrun]
  rw [hex]
  have h2 := hr.set hB (e' := .it g n ks f (j :: seen)) hi (hch.mono fun b _ hb => by subst hb; rfl) (.inl rfl) ⟨m, c, last, last, sb.push (c[j]!).born, (hz m hZ).2, (hz m hZ).1.trans hmm, hc, hdd, fun q hq => ⟨(hk q hq).1, (hk q hq).2.1, (hk q hq).2.2.keep fun b hb _ => hz b hb⟩, hg2, ⟨rfl, fun q hq => by
    simp at hq; subst hq; exact ⟨hjn, by simp⟩⟩, fun q hq => by
    rw [contains_push, Bool.or_eq_true, hs q hq, List.mem_cons, beq_iff_eq, or_comm]
    refine or_congr ⟨fun e => ?_, fun e => by rw [e]⟩ Iff.rfl
    have hqc : q < c.size := by omega
    have n1 := List.pairwise_iff_getElem.1 hdd
    have eb : ∀ r (hr : r < c.size), (c.toList.map (·.born))[r]'(by simpa using hr) = (c[r]!).born := fun r hr => by rw [getElem!_pos c r hr]; simp
    rcases Nat.lt_trichotomy q j with h | h | h
    ·exact absurd (by rw [eb q hqc, eb j hjc]; exact e) (n1 q j (by simpa using hqc) (by simpa using hjc) h)
    ·exact h
    ·exact absurd (by rw [eb q hqc, eb j hjc]; exact e.symm) (n1 j q (by simpa using hjc) (by simpa using hqc) h)⟩
  refine hn _ _ _ (h1 j hjn hnot) (h2.put _ hd _ _ (.tup _ _ rfl fun q hq => ?_)) (hch.mono fun b _ hb => by subst hb; exact .inr hW)
  match q, hq with
  | 0, _ => exact .v _
  | 1, _ => show Rep _ _ (.v (ks j)) (c[j]!).key; rw [(hk j hjn).1]; exact .v _
  | 2, _ => exact (hk j hjn).2.2.keep fun b hb _ => hz b hb
theorem OpV.entryM {x : Operand} {g i j : Nat} {seen : List Nat} (ho : o.op = .entry x) (hB : B.Ok) (hx : evO s x = some (.v (.pointer (some ⟨g, 0, none⟩)))) (hi : s.hp[i]? = some (.it g n ks f (j :: seen))) : OpV P B NoB s o (.tup [.v (ks j), f j]) := by
 intro a w hr
 have hm := List.mem_of_getElem? hi
 obtain ⟨m, c, clk, last, sb, hZ, hmm, hc, hdd, hk, hg, ⟨rfl, hl2⟩, hs⟩ := hr.blocks _ hm
 have hxe : a.eval x = _ := (hr.ev hx).eq_v
 obtain ⟨hjn, hb⟩ := hl2 j rfl
 have hjc : j < c.size := by omega
 refine ⟨.tuple #[(c[j]!).key, (c[j]!).val], fun w' hcw => ?_, .tup _ _ rfl fun q hq => ?_⟩
 ·have hg' : w'.heap[g]? = _ := (hcw.block g (hr.lt _ hm g rfl) fun h => h.elim (hr.notStr hB hm rfl) (fun h => h)).trans hg
  have hm' : w'.heap[m]? = _ := (hcw.block m hZ.1 fun h => h.elim (fun h => by
   obtain ⟨h1, h2⟩ := hB.str m h
   exact absurd h ((hZ.2.2 (hB.low m h1)).2)) (fun h => h)).trans hmm
  have := run_entry_it (P := P) w' m g last sb c (c[j]!) hg' hm' (by rw [getElem!_pos c j hjc]; simp) hdd hb
  simp [execOp, ho, hxe, this]
 ·match q, hq with
  | 0, _ => show Rep _ _ (.v (ks j)) (c[j]!).key; rw [(hk j hjn).1]; exact .v _
  | 1, _ => exact (hk j hjn).2.2
end
end Go.Proofs.YtceflkkgmmcieaaGreatDoor
namespace Go.Proofs.YtceflkkgmmcieaaGreatDoor
open Go.RowKit
set_option linter.unusedVariables false
set_option linter.unusedSimpArgs false
def needsM (l : List (ByteArray × Int)) : List NeedS := (sKeys l).map fun k => ⟨k, mgetD l k 0⟩
def ndOf (p : ByteArray × Int) : NeedS := ⟨p.1, p.2⟩
def pickN (l : List (ByteArray × Int)) (seen : List Nat) : List NeedS := seen.reverse.map fun j => ndOf (l.getD j default)
theorem pickN_cons (l : List (ByteArray × Int)) (j : Nat) (seen : List Nat) : pickN l (j :: seen) = pickN l seen ++ [ndOf (l.getD j default)] := by simp [pickN]
theorem pickN_len (l : List (ByteArray × Int)) (seen : List Nat) : (pickN l seen).length = seen.length := by simp [pickN]
theorem seen_len {n : Nat} {seen : List Nat} (hd : seen.Nodup) (hs : ∀ j ∈ seen, j < n) : seen.length ≤ n := by
 have := hd.length_le_of_subset (l₂ := List.range n) (fun j hj => List.mem_range.2 (hs j hj))
 simpa using this
theorem seen_perm {n : Nat} {seen : List Nat} (hd : seen.Nodup) (hs : ∀ j ∈ seen, j < n) (ha : ∀ j, j < n → j ∈ seen) : seen.Perm (List.range n) :=
 (List.perm_ext_iff_of_nodup hd List.nodup_range).2 fun j => ⟨fun h => List.mem_range.2 (hs j h), fun h => ha j (List.mem_range.1 h)⟩
theorem range_getD {α β : Type} [Inhabited α] (l : List α) (f : α → β) : (List.range l.length).map (fun j => f (l.getD j default)) = l.map f := by
 apply List.ext_getElem (by simp)
 intro i h1 h2
 simp at h1 h2
 simp [List.getD_eq_getElem?_getD, h1]
theorem pickN_perm {l : List (ByteArray × Int)} {seen : List Nat} (hd : seen.Nodup) (hs : ∀ j ∈ seen, j < l.length) (ha : ∀ j, j < l.length → j ∈ seen) : (pickN l seen).Perm (l.map ndOf) := by
 have h1 := (seen_perm hd hs ha).map fun j => ndOf (l.getD j default)
 rw [range_getD l ndOf] at h1
 refine List.Perm.trans ?_ h1
 exact (List.reverse_perm seen).map _
theorem mget_mem : ∀ {l : List (ByteArray × Int)} {p : ByteArray × Int}, (l.map (·.1)).Nodup → p ∈ l → mgetD l p.1 0 = p.2 := fun {l p} hd hp => by
 have h1 : mpos l p.1 < l.length := mpos_mem.2 (List.mem_map.2 ⟨p, hp, rfl⟩)
 have h2 := mpos_key l p.1 h1
 have hx : l[mpos l p.1] = p := by
  obtain ⟨j, hj, rfl⟩ := List.getElem_of_mem hp
  have := (List.getElem_inj (h₀ := by simpa using h1) (h₁ := by simpa using hj) hd).1 (by simpa using h2)
  simp [this]
 unfold mgetD
 rw [mget_pos, List.getElem?_eq_getElem h1, hx]; rfl
theorem bytesOf_toList (k : ByteArray) : bytesOf k.data.toList = k := by simp [bytesOf]
theorem sKeys_perm {α : Type} (l : List (ByteArray × α)) : (sKeys l).Perm (l.map (·.1)) := by
 have h := (List.mergeSort_perm (l.map fun p => p.1.data.toList) (fun x y => decide (x ≤ y))).map bytesOf
 rw [List.map_map] at h
 have e : (l.map fun p => p.1.data.toList).map bytesOf = l.map (·.1) := by
  rw [List.map_map]; exact List.map_congr_left fun p _ => bytesOf_toList p.1
 rw [List.map_map] at e
 rw [e] at h
 exact h
theorem sKeys_nodup {α : Type} {l : List (ByteArray × α)} (h : (l.map (·.1)).Nodup) : (sKeys l).Nodup := (sKeys_perm l).nodup_iff.2 h
theorem sKeys_ord {α : Type} (l : List (ByteArray × α)) : (sKeys l).Pairwise fun a b => sLt b a = false := by
 have h : ((l.map fun p => p.1.data.toList).mergeSort (fun x y => decide (x ≤ y))).Pairwise fun x y => decide (x ≤ y) = true := by
  refine List.pairwise_mergeSort ?_ ?_ _
  ·intro a b c h1 h2
   simp only [decide_eq_true_eq] at *
   exact List.le_trans h1 h2
  ·intro a b
   simp only [Bool.or_eq_true, decide_eq_true_eq]
   exact List.le_total a b
 unfold sKeys
 rw [List.pairwise_map]
 refine h.imp fun {a b} hab => ?_
 rw [← cmpB_lt, show cmpB (bytesOf b) (bytesOf a) = Lib.compareBytes b a by simp [cmpB, bytesOf], cmp_lt, bytesLess_eq]
 simp only [decide_eq_true_eq] at hab
 exact decide_eq_false (List.not_lt.2 hab)
theorem needsM_perm {l : List (ByteArray × Int)} (h : (l.map (·.1)).Nodup) : (needsM l).Perm (l.map ndOf) := by
 have h1 := (sKeys_perm l).map fun k => (⟨k, mgetD l k 0⟩ : NeedS)
 refine h1.trans (List.Perm.of_eq ?_)
 rw [List.map_map]
 refine List.map_congr_left fun p hp => ?_
 show (⟨p.1, mgetD l p.1 0⟩ : NeedS) = ndOf p
 rw [mget_mem h hp]; rfl
abbrev ltN (x z : NeedS) : Bool := decide (cmpB x.key z.key < 0)
theorem ltN_sLt (x z : NeedS) : ltN x z = sLt x.key z.key := cmpB_lt _ _
theorem needsM_ord (l : List (ByteArray × Int)) : OrdL ltN (needsM l) := by
 unfold OrdL needsM
 rw [List.pairwise_map]
 exact (sKeys_ord l).imp fun h => by rw [ltN_sLt]; exact h
theorem needsM_nodup {l : List (ByteArray × Int)} (h : (l.map (·.1)).Nodup) : (needsM l).Nodup := by
 have h2 := sKeys_nodup h
 unfold needsM
 unfold List.Nodup at h2 ⊢
 rw [List.pairwise_map]
 exact h2.imp fun hab e => hab (by injection e)
theorem sLt_tot {a b : ByteArray} (h : sLt a b = false) (hne : a ≠ b) : sLt b a = true := by
 refine sLt_of_not ?_
 unfold sLe
 rw [h]
 have : sEq a b = false := Bool.eq_false_iff.2 fun e => hne (sEq_eq.1 e)
 rw [this]; rfl
theorem needsM_tot {l : List (ByteArray × Int)} : ∀ a ∈ needsM l, ∀ b ∈ needsM l, a ≠ b → ltN a b = false → ltN b a = true := fun a ha b hb hne h => by
 rw [ltN_sLt] at h ⊢
 obtain ⟨k, _, rfl⟩ := List.mem_map.1 ha
 obtain ⟨k', _, rfl⟩ := List.mem_map.1 hb
 exact sLt_tot h fun e => hne (by simp only at e; rw [e])
theorem needsM_one {l : List (ByteArray × Int)} {seen : List Nat} {r : List NeedS} (h : (l.map (·.1)).Nodup) (hd : seen.Nodup) (hs : ∀ j ∈ seen, j < l.length) (ha : ∀ j, j < l.length → j ∈ seen) (hr : r.Perm (pickN l seen)) (ho : OrdL ltN r) : needsM l = r :=
 ord_unique ((needsM_perm h).trans ((pickN_perm hd hs ha).symm.trans hr.symm)) (needsM_nodup h) needsM_tot (needsM_ord l) ho
theorem ltN_trans {a b d : NeedS} (h1 : ltN a b = true) (h2 : ltN b d = true) : ltN a d = true := by
 rw [ltN_sLt] at *; exact sLt_trans h1 h2
theorem ltN_as {a b : NeedS} (h : ltN a b = true) : ltN b a = false := by
 rw [ltN_sLt] at *
 cases hb : sLt b.key a.key with
 | false => rfl
 | true => have := sLt_trans h hb; rw [sLt_irr] at this; cases this
theorem ltN_neg {a b d : NeedS} (h1 : ltN b a = false) (h2 : ltN d b = false) : ltN d a = false := by
 rw [ltN_sLt] at *
 cases h : sLt d.key a.key with
 | false => rfl
 | true =>
  by_cases e : a.key = b.key
  ·rw [e, h2] at h; cases h
  ·have := sLt_trans h (sLt_tot h1 (fun e' => e e'.symm))
   rw [this] at h2; cases h2
end Go.Proofs.YtceflkkgmmcieaaGreatDoor
namespace Go.Proofs.YtceflkkgmmcieaaGreatDoor
open Go.RowKit
set_option linter.unusedVariables false
set_option linter.unusedSimpArgs false

inductive EqFs (P : Program) : Nat → List Field → List AV → List AV → Bool → Prop where
 | nil (off : Nat) : EqFs P off [] [] [] true
 | int {off : Nat} {f : Field} {fs : List Field} {k k' : IntKind} {a b : Int} {xs ys : List AV} {r : Bool} (hu : P.underlying f.type = some (.int k')) (hag : ∀ w, (isAgg f.type).run P w = .ok false w) (ho : f.offset = off) (hn : f.name ≠ "_") (h : EqFs P (off + 1) fs xs ys r) :
   EqFs P off (f :: fs) (.v (.int k a) :: xs) (.v (.int k b) :: ys) (decide (a = b) && r)
 | str {off : Nat} {f : Field} {fs : List Field} {a b : ByteArray} {xs ys : List AV} {r : Bool} (hu : P.underlying f.type = some .string) (hag : ∀ w, (isAgg f.type).run P w = .ok false w) (ho : f.offset = off) (hn : f.name ≠ "_") (h : EqFs P (off + 1) fs xs ys r) :
   EqFs P off (f :: fs) (.v (.string a) :: xs) (.v (.string b) :: ys) (sEq a b && r)
 | bool {off : Nat} {f : Field} {fs : List Field} {a b : Bool} {xs ys : List AV} {r : Bool} (hu : P.underlying f.type = some .bool) (hag : ∀ w, (isAgg f.type).run P w = .ok false w) (ho : f.offset = off) (hn : f.name ≠ "_") (h : EqFs P (off + 1) fs xs ys r) :
   EqFs P off (f :: fs) (.v (.bool a) :: xs) (.v (.bool b) :: ys) ((a == b) && r)

theorem EqFs.run {P : Program} {w : World} {Z : Nat → Prop} {us vs : Array Value} {d : Nat} : ∀ {off : Nat} {fs : List Field} {xs ys : List AV} {r : Bool}, EqFs P off fs xs ys r →
  (∀ j, (h : j < xs.length) → off + j < us.size ∧ Rep w Z xs[j] (us.getD (off + j) undef)) → (∀ j, (h : j < ys.length) → off + j < vs.size ∧ Rep w Z ys[j] (vs.getD (off + j) undef)) → ∀ w', (Op.eqFields (d + 1) us vs fs).run P w' = .ok r w' := by
 intro off fs xs ys r h
 have cellP : ∀ (t : TypeId) (us : Array Value) (off : Nat) (v : Value) (w' : World), (∀ w, (isAgg t).run P w = .ok false w) → off < us.size → us.getD off undef = v → (part t us off).run P w' = .ok v w' := fun t us off v w' hag hl hv => by
  have : us[off]? = some v := by rw [← hv, Array.getD_eq_getD_getElem?, Array.getElem?_eq_getElem hl]; rfl
  simp [part, hag, this]
 have sh : ∀ n j : Nat, n + (j + 1) = n + 1 + j := fun n j => by omega
 induction h with
 | nil off => intro _ _ w'; rfl
 | int hu hag ho hn h ih =>
  intro h1 h2 w'
  obtain ⟨k1, k2⟩ := h1 0 (by simp)
  obtain ⟨k3, k4⟩ := h2 0 (by simp)
  subst ho
  have e1 := cellP _ us _ _ w' hag k1 k2.eq_v
  have e2 := cellP _ vs _ _ w' hag k3 k4.eq_v
  have ih' := ih (fun j hj => by have := h1 (j + 1) (by simpa using hj); rw [sh] at this; exact this) (fun j hj => by have := h2 (j + 1) (by simpa using hj); rw [sh] at this; exact this) w'
  simp only [Nat.add_zero] at e1 e2
  rename_i a b _ _ _
  have e3 := fun k => run_equalIn_int (P := P) w' d _ k _ a b hu
  simp only [Op.eqFields, hn, ne_eq, not_false_eq_true, if_true, Sem.run_bind, e1, e2, e3, Result.andThen_ok]
  by_cases hab : a = b
  ·subst hab; simpa using ih'
  ·simp [hab]
 | str hu hag ho hn h ih =>
  intro h1 h2 w'
  obtain ⟨k1, k2⟩ := h1 0 (by simp)
  obtain ⟨k3, k4⟩ := h2 0 (by simp)
  subst ho
  have e1 := cellP _ us _ _ w' hag k1 k2.eq_v
  have e2 := cellP _ vs _ _ w' hag k3 k4.eq_v
  have ih' := ih (fun j hj => by have := h1 (j + 1) (by simpa using hj); rw [sh] at this; exact this) (fun j hj => by have := h2 (j + 1) (by simpa using hj); rw [sh] at this; exact this) w'
  simp only [Nat.add_zero] at e1 e2
  rename_i a b _ _ _
  have e3 := run_equalIn_string (P := P) w' d _ a b hu
  simp only [Op.eqFields, hn, ne_eq, not_false_eq_true, if_true, Sem.run_bind, e1, e2, e3, Result.andThen_ok]
  cases hab : sEq a b with
  | true => unfold sEq at hab; rw [hab]; simpa using ih'
  | false => unfold sEq at hab; rw [hab]; simp
 | bool hu hag ho hn h ih =>
  intro h1 h2 w'
  obtain ⟨k1, k2⟩ := h1 0 (by simp)
  obtain ⟨k3, k4⟩ := h2 0 (by simp)
  subst ho
  have e1 := cellP _ us _ _ w' hag k1 k2.eq_v
  have e2 := cellP _ vs _ _ w' hag k3 k4.eq_v
  have ih' := ih (fun j hj => by have := h1 (j + 1) (by simpa using hj); rw [sh] at this; exact this) (fun j hj => by have := h2 (j + 1) (by simpa using hj); rw [sh] at this; exact this) w'
  simp only [Nat.add_zero] at e1 e2
  rename_i a b _ _ _
  have e3 := run_equalIn_bool' (P := P) w' d _ a b hu
  simp only [Op.eqFields, hn, ne_eq, not_false_eq_true, if_true, Sem.run_bind, e1, e2, e3, Result.andThen_ok]
  cases hab : (a == b) with
  | true => simpa using ih'
  | false => simp

section
variable {P : Program} {B : Bs} {W : Nat → Prop} {s : St'} {o : Oper}
theorem agg_eq {w : World} {Z : Nat → Prop} {t : TypeId} {xs ys : List AV} {u v : Value} {r : Bool} (hu : P.underlying t = some (.struct (P.fieldsOf t))) (hs : P.stoodInHeld t = false) (h : EqFs P 0 (P.fieldsOf t).toList xs ys r) (hx : Rep w Z (.agg xs) u) (hy : Rep w Z (.agg ys) v) :
  ∃ us vs, u = .agg us ∧ v = .agg vs ∧ ∀ w', (Op.equalIn 10000 t u v).run P w' = .ok r w' := by
 cases hx with
 | agg _ us l1 r1 =>
  cases hy with
  | agg _ vs l2 r2 =>
   refine ⟨us, vs, rfl, rfl, fun w' => ?_⟩
   rw [run_equalIn_struct w' 9999 t us vs hu hs]
   exact h.run (w := w) (Z := Z) (fun j hj => ⟨by omega, by rw [Nat.zero_add]; exact r1 j hj⟩) (fun j hj => ⟨by omega, by rw [Nat.zero_add]; exact r2 j hj⟩) w'
theorem OpV.aeql {x y : Operand} {t u : TypeId} {xs ys : List AV} {r : Bool} (ho : o.op = .binOp .eql t x y u) (hu : P.underlying t = some (.struct (P.fieldsOf t))) (hs : P.stoodInHeld t = false) (hg : P.eqGuardType P.depth t = false)
  (hx : evO s x = some (.agg xs)) (hy : evO s y = some (.agg ys)) (h : EqFs P 0 (P.fieldsOf t).toList xs ys r) : OpV P B W s o (avB r) := fun a w hr => by
 obtain ⟨us, vs, e1, e2, e3⟩ := agg_eq hu hs h (hr.ev hx) (hr.ev hy)
 rw [e1, e2] at e3
 refine ⟨_, fun w' _ => ?_, .v _⟩
 simp only [execOp, ho, e1, e2, Sem.run_bind, run_eqGuard_agg w' _ t x y us vs hg, run_eql_struct, e3, Result.andThen_ok, Sem.run_pure]
theorem OpV.aneq {x y : Operand} {t u : TypeId} {xs ys : List AV} {r : Bool} (ho : o.op = .binOp .neq t x y u) (hu : P.underlying t = some (.struct (P.fieldsOf t))) (hs : P.stoodInHeld t = false) (hg : P.eqGuardType P.depth t = false)
  (hx : evO s x = some (.agg xs)) (hy : evO s y = some (.agg ys)) (h : EqFs P 0 (P.fieldsOf t).toList xs ys r) : OpV P B W s o (avB (!r)) := fun a w hr => by
 obtain ⟨us, vs, e1, e2, e3⟩ := agg_eq hu hs h (hr.ev hx) (hr.ev hy)
 rw [e1, e2] at e3
 refine ⟨_, fun w' _ => ?_, .v _⟩
 simp only [execOp, ho, e1, e2, Sem.run_bind, run_eqGuard_agg w' _ t x y us vs hg, run_neq_struct, e3, Result.andThen_ok, Sem.run_pure]
end
end Go.Proofs.YtceflkkgmmcieaaGreatDoor
namespace Go.Proofs.YtceflkkgmmcieaaGreatDoor
open Go.RowKit
set_option linter.unusedVariables false
set_option linter.unusedSimpArgs false
set_option maxRecDepth 100000 in
theorem panel_isSize {n : Int}  :
  SpecN Tryz.prog 83 [avI n] (fun y => y = avB (!outR n 1 500000)) := by
 refine SpecN.of_VCN Tryz.func83 rfl Tryz.ntmps83 (Nle rfl) fun w A hB => ?_
 have hnew : True := trivial
 refine VC.sr ?_
 refine VO.ma rfl rfl rfl rfl ?_
 refine VO.nil ?_
 refine VC.sr ?_
 refine VO.mv rfl rfl rfl rfl ?_
 refine VO.op rfl (OpE.call rfl hB rfl Tryz.call131 rfl (SpecN.spec (kit_Outside)) ?_)
 rintro _ rfl
 refine VO.val rfl rfl (OpV.not rfl rfl) ?_
 refine VO.ma rfl rfl rfl rfl ?_
 refine VO.nil ?_
 refine VC.ret ?_
 exact Exists.intro _ (And.intro (RetN.one Tryz.results83 (ResN.v rfl)) (rfl))
set_option maxRecDepth 100000 in
theorem panel_placementFault {p : ProdS} {i : Nat} (hs : SmP p) (hi : i < p.places.length) :
  SpecN Tryz.prog 84 [avProd p, avI (i : Int)] (fun y => y = avI (placeE p i)) := by
 refine SpecN.of_VCN Tryz.func84 rfl Tryz.ntmps84 (Nle rfl) fun w A hB => ?_
 have hnew : True := trivial
 refine VC.seq ?_
 have hl := hs.len
 refine VC.region ?_
 refine VO.op rfl (OpE.box rfl hB rfl rfl rfl ?_)
 intro g2
 refine VO.ma rfl rfl rfl rfl ?_
 refine VO.nil ?_
 refine VC.sr ?_
 refine VO.val rfl rfl (OpV.fieldAddrO 3 rfl Tryz.underlying28 rfl rfl Tryz.sizeOf26 rfl) ?_
 refine VO.val rfl rfl (OpV.load_own (i := 0) rfl hB Tryz.isAgg26 rfl rfl rfl (fun h => h)) ?_
 refine VO.mv rfl rfl rfl rfl ?_
 refine VO.val rfl rfl (OpV.indexAddr_E rfl Tryz.underlying26 Tryz.sizeOf50 rfl rfl rfl (by omega)) ?_
 refine VO.val rfl rfl (OpV.loadK_at rfl hB OutW.no Tryz.isAgg50 Tryz.sizeOf50 rfl rfl) ?_
 refine VO.op rfl (OpE.alloc rfl hB rfl Tryz.zeroValue50 rfl ?_)
 intro g5
 refine VO.op rfl (OpE.store (i := 1) rfl hB rfl Tryz.sizeOf50 rfl rfl rfl rfl rfl rfl (Nle rfl) trivial ?_)
 refine VO.nil ?_
 refine VC.seq ?_
 refine VC.block ?_
 refine VC.sr ?_
 refine VO.val rfl rfl (OpV.fieldAddrO 0 rfl Tryz.underlying50 rfl rfl Tryz.sizeOf9 rfl) ?_
 refine VO.val rfl rfl (OpV.load_own (i := 1) rfl hB Tryz.isAgg9 rfl rfl rfl (fun h => h)) ?_
 refine VO.op rfl (OpE.call rfl hB rfl Tryz.call82 rfl (SpecN.spec (kit_IsKey (by have := hs.name i; omega))) ?_)
 rintro _ rfl
 refine VO.val rfl rfl (OpV.not rfl rfl) ?_
 refine VO.mv rfl rfl rfl rfl ?_
 refine VO.opG rfl rfl rfl rfl (fun aK1b => ?_) (fun aK1b => ?_)
 ·replace aK1b : _ = false := aK1b
  have aK1 := aK1b
  try simp only [qqT, qqF, qqN, qqM, qqL, qqE] at aK1
  refine OpE.val (W := NoB) (OpV.fieldAddrO 1 rfl Tryz.underlying50 rfl rfl Tryz.sizeOf9 rfl) rfl ?_
  refine VO.opY rfl rfl rfl rfl aK1b ?_
  refine OpE.val (W := NoB) (OpV.load_own (i := 1) rfl hB Tryz.isAgg9 rfl rfl rfl (fun h => h)) rfl ?_
  refine VO.opY rfl rfl rfl rfl aK1b ?_
  refine OpE.call rfl hB rfl Tryz.call82 rfl (SpecN.spec (kit_IsKey (by have := hs.part i; omega))) ?_
  rintro _ rfl
  refine VO.opY rfl rfl rfl rfl aK1b ?_
  refine OpE.val (W := NoB) (OpV.not rfl rfl) rfl ?_
  refine VO.val rfl rfl (OpV.pickF rfl rfl rfl rfl aK1b) ?_
  refine VO.ma rfl rfl rfl rfl ?_
  refine VO.nil ?_
  refine VC.cond rfl (fun aH2b => ?_) (fun aH2b => ?_)
  ·have aH2 := aH2b
   try simp only [qqT, qqF, qqN, qqM, qqL, qqE] at aH2
   refine VC.sr ?_
   refine VO.ma rfl rfl rfl rfl ?_
   refine VO.nil ?_
   refine VC.ret ?_
   exact Exists.intro _ (And.intro (RetN.one Tryz.results84 (ResN.v rfl)) (by first | rw [placeE_5a (by assumption)] | rw [placeE_5b (by assumption)]))
  ·have aH2 := aH2b
   try simp only [qqT, qqF, qqN, qqM, qqL, qqE] at aH2
   refine VC.seq ?_
   refine VC.draw (fun _ => NoB) hB (by kernel_rfl) ?_
   refine VA.take (i := 0) rfl (by kernel_rfl) (by kernel_rfl) (by kernel_rfl) rfl rfl (OpV.move (.inl rfl) rfl) ?_
   refine VA.take (i := 1) rfl (by kernel_rfl) (by kernel_rfl) (by kernel_rfl) rfl rfl (OpV.gtr rfl rfl rfl) ?_
   refine VA.take (i := 2) rfl (by kernel_rfl) (by kernel_rfl) (by kernel_rfl) rfl rfl (OpV.move (.inl rfl) rfl) ?_
   refine VA.split (t := 25) rfl (fun aK3b => ?_) (fun aK3b => ?_)
   ·have aK3 := aK3b
    try simp only [qqT, qqF, qqN, qqM, qqL, qqE] at aK3
    refine VA.takeY (i := 3) rfl (by kernel_rfl) (by kernel_rfl) (by kernel_rfl) rfl rfl rfl rfl aK3b (OpV.fieldAddrO 0 rfl Tryz.underlying50 rfl rfl Tryz.sizeOf9 rfl) ?_
    refine VA.takeY (i := 4) rfl (by kernel_rfl) (by kernel_rfl) (by kernel_rfl) rfl rfl rfl rfl aK3b (OpV.load_own (i := 1) rfl hB Tryz.isAgg9 rfl rfl rfl Wi.not0) ?_
    refine VA.takeY (i := 5) rfl (by kernel_rfl) (by kernel_rfl) (by kernel_rfl) rfl rfl rfl rfl aK3b (OpV.fieldAddrO 3 rfl Tryz.underlying28 rfl rfl Tryz.sizeOf26 rfl) ?_
    refine VA.takeY (i := 6) rfl (by kernel_rfl) (by kernel_rfl) (by kernel_rfl) rfl rfl rfl rfl aK3b (OpV.load_own (i := 0) rfl hB Tryz.isAgg26 rfl rfl rfl Wi.not0) ?_
    refine VA.takeY (i := 7) rfl (by kernel_rfl) (by kernel_rfl) (by kernel_rfl) rfl rfl rfl rfl aK3b (OpV.move (.inl rfl) rfl) ?_
    refine VA.takeY (i := 8) rfl (by kernel_rfl) (by kernel_rfl) (by kernel_rfl) rfl rfl rfl rfl aK3b (OpV.sub rfl rfl rfl (by unfold fits; omega)) ?_
    refine VA.takeY (i := 9) rfl (by kernel_rfl) (by kernel_rfl) (by kernel_rfl) rfl rfl rfl rfl aK3b (OpV.indexAddr_E rfl Tryz.underlying26 Tryz.sizeOf50 rfl rfl (show ((i : Int) - 1) = ((i - 1 : Nat) : Int) by omega) (by omega)) ?_
    refine VA.takeY (i := 10) rfl (by kernel_rfl) (by kernel_rfl) (by kernel_rfl) rfl rfl rfl rfl aK3b (OpV.fieldAddr_atO 0 rfl Tryz.underlying50 rfl rfl Tryz.sizeOf9 rfl rfl) ?_
    refine VA.takeY (i := 11) rfl (by kernel_rfl) (by kernel_rfl) (by kernel_rfl) rfl rfl rfl rfl aK3b (OpV.load_at rfl hB OutW.wi0 Tryz.isAgg9 rfl rfl) ?_
    refine VA.takeY (i := 12) rfl (by kernel_rfl) (by kernel_rfl) (by kernel_rfl) rfl rfl rfl rfl aK3b (OpV.sleq rfl rfl rfl) ?_
    refine VA.take (i := 13) rfl (by kernel_rfl) (by kernel_rfl) (by kernel_rfl) rfl rfl (OpV.pickT rfl rfl rfl rfl aK3b) ?_
    refine VA.take (i := 14) rfl (by kernel_rfl) (by kernel_rfl) (by kernel_rfl) rfl rfl (OpV.move (.inr rfl) rfl) ?_
    refine VA.done (by kernel_rfl) ?_
    refine VC.cond rfl (fun aH4b => ?_) (fun aH4b => ?_)
    ·have aH4 := aH4b
     try simp only [qqT, qqF, qqN, qqM, qqL, qqE] at aH4
     refine VC.sr ?_
     refine VO.ma rfl rfl rfl rfl ?_
     refine VO.nil ?_
     refine VC.ret ?_
     exact Exists.intro _ (And.intro (RetN.one Tryz.results84 (ResN.v rfl)) (by rw [placeE_7 (by assumption) (by assumption) (by omega) (by assumption)]))
    ·have aH4 := aH4b
     try simp only [qqT, qqF, qqN, qqM, qqL, qqE] at aH4
     refine VC.sr ?_
     refine VO.val rfl rfl (OpV.fieldAddrO 2 rfl Tryz.underlying50 rfl rfl Tryz.sizeOf3 rfl) ?_
     refine VO.val rfl rfl (OpV.load_own (i := 1) rfl hB Tryz.isAgg3 rfl rfl rfl (fun h => h)) ?_
     refine VO.val rfl rfl (OpV.fieldAddrO 1 rfl Tryz.underlying28 rfl rfl Tryz.sizeOf3 rfl) ?_
     refine VO.val rfl rfl (OpV.load_own (i := 0) rfl hB Tryz.isAgg3 rfl rfl rfl (fun h => h)) ?_
     refine VO.op rfl (OpE.call rfl hB rfl Tryz.call131 rfl (SpecN.spec (kit_Outside)) ?_)
     rintro _ rfl
     refine VO.mv rfl rfl rfl rfl ?_
     refine VO.opG rfl rfl rfl rfl (fun aK5b => ?_) (fun aK5b => ?_)
     ·replace aK5b : _ = false := aK5b
      have aK5 := aK5b
      try simp only [qqT, qqF, qqN, qqM, qqL, qqE] at aK5
      refine OpE.val (W := NoB) (OpV.fieldAddrO 3 rfl Tryz.underlying50 rfl rfl Tryz.sizeOf3 rfl) rfl ?_
      refine VO.opY rfl rfl rfl rfl aK5b ?_
      refine OpE.val (W := NoB) (OpV.load_own (i := 1) rfl hB Tryz.isAgg3 rfl rfl rfl (fun h => h)) rfl ?_
      refine VO.opY rfl rfl rfl rfl aK5b ?_
      refine OpE.val (W := NoB) (OpV.fieldAddrO 2 rfl Tryz.underlying28 rfl rfl Tryz.sizeOf3 rfl) rfl ?_
      refine VO.opY rfl rfl rfl rfl aK5b ?_
      refine OpE.val (W := NoB) (OpV.load_own (i := 0) rfl hB Tryz.isAgg3 rfl rfl rfl (fun h => h)) rfl ?_
      refine VO.opY rfl rfl rfl rfl aK5b ?_
      refine OpE.call rfl hB rfl Tryz.call131 rfl (SpecN.spec (kit_Outside)) ?_
      rintro _ rfl
      refine VO.val rfl rfl (OpV.pickF rfl rfl rfl rfl aK5b) ?_
      refine VO.mv rfl rfl rfl rfl ?_
      refine VO.opG rfl rfl rfl rfl (fun aK6b => ?_) (fun aK6b => ?_)
      ·replace aK6b : _ = false := aK6b
       have aK6 := aK6b
       try simp only [qqT, qqF, qqN, qqM, qqL, qqE] at aK6
       refine OpE.val (W := NoB) (OpV.fieldAddrO 4 rfl Tryz.underlying50 rfl rfl Tryz.sizeOf3 rfl) rfl ?_
       refine VO.opY rfl rfl rfl rfl aK6b ?_
       refine OpE.val (W := NoB) (OpV.load_own (i := 1) rfl hB Tryz.isAgg3 rfl rfl rfl (fun h => h)) rfl ?_
       refine VO.opY rfl rfl rfl rfl aK6b ?_
       refine OpE.call rfl hB rfl Tryz.call131 rfl (SpecN.spec (kit_Outside)) ?_
       rintro _ rfl
       refine VO.val rfl rfl (OpV.pickF rfl rfl rfl rfl aK6b) ?_
       refine VO.ma rfl rfl rfl rfl ?_
       refine VO.nil ?_
       refine VC.cond rfl (fun aH7b => ?_) (fun aH7b => ?_)
       ·have aH7 := aH7b
        try simp only [qqT, qqF, qqN, qqM, qqL, qqE] at aH7
        refine VC.sr ?_
        refine VO.ma rfl rfl rfl rfl ?_
        refine VO.nil ?_
        refine VC.ret ?_
        exact Exists.intro _ (And.intro (RetN.one Tryz.results84 (ResN.v rfl)) (by first | rw [placeE_1 (by assumption) (by assumption) (by first | (left; omega) | (right; assumption)) (by first | exact or3a (by assumption) | exact or3b (by assumption) | exact or3c (by assumption))]))
       ·have aH7 := aH7b
        try simp only [qqT, qqF, qqN, qqM, qqL, qqE] at aH7
        refine VC.skip ?_
        refine VC.sr ?_
        refine VO.ma rfl rfl rfl rfl ?_
        refine VO.nil ?_
        refine VC.ret ?_
        exact Exists.intro _ (And.intro (RetN.one Tryz.results84 (ResN.v rfl)) (by rw [placeE_0 (by assumption) (by assumption) (by first | (left; omega) | (right; assumption)) (or3f (by assumption) (by assumption) (by assumption))]))
      ·replace aK6b : _ = true := aK6b
       have aK6 := aK6b
       try simp only [qqT, qqF, qqN, qqM, qqL, qqE] at aK6
       refine VO.opX rfl rfl rfl rfl aK6b ?_
       refine VO.opX rfl rfl rfl rfl aK6b ?_
       refine VO.val rfl rfl (OpV.pickT rfl rfl rfl rfl aK6b) ?_
       refine VO.ma rfl rfl rfl rfl ?_
       refine VO.nil ?_
       refine VC.condT rfl rfl ?_
       refine VC.sr ?_
       refine VO.ma rfl rfl rfl rfl ?_
       refine VO.nil ?_
       refine VC.ret ?_
       exact Exists.intro _ (And.intro (RetN.one Tryz.results84 (ResN.v rfl)) (by first | rw [placeE_1 (by assumption) (by assumption) (by first | (left; omega) | (right; assumption)) (by first | exact or3a (by assumption) | exact or3b (by assumption) | exact or3c (by assumption))]))
     ·replace aK5b : _ = true := aK5b
      have aK5 := aK5b
      try simp only [qqT, qqF, qqN, qqM, qqL, qqE] at aK5
      refine VO.opX rfl rfl rfl rfl aK5b ?_
      refine VO.opX rfl rfl rfl rfl aK5b ?_
      refine VO.opX rfl rfl rfl rfl aK5b ?_
      refine VO.opX rfl rfl rfl rfl aK5b ?_
      refine VO.val rfl rfl (OpV.pickT rfl rfl rfl rfl aK5b) ?_
      refine VO.mv rfl rfl rfl rfl ?_
      refine VO.opX rfl rfl rfl rfl rfl ?_
      refine VO.opX rfl rfl rfl rfl rfl ?_
      refine VO.opX rfl rfl rfl rfl rfl ?_
      refine VO.val rfl rfl (OpV.pickT rfl rfl rfl rfl rfl) ?_
      refine VO.ma rfl rfl rfl rfl ?_
      refine VO.nil ?_
      refine VC.condT rfl rfl ?_
      refine VC.sr ?_
      refine VO.ma rfl rfl rfl rfl ?_
      refine VO.nil ?_
      refine VC.ret ?_
      exact Exists.intro _ (And.intro (RetN.one Tryz.results84 (ResN.v rfl)) (by first | rw [placeE_1 (by assumption) (by assumption) (by first | (left; omega) | (right; assumption)) (by first | exact or3a (by assumption) | exact or3b (by assumption) | exact or3c (by assumption))]))
   ·have aK3 := aK3b
    try simp only [qqT, qqF, qqN, qqM, qqL, qqE] at aK3
    refine VA.takeX (i := 3) rfl (by kernel_rfl) (by kernel_rfl) (by kernel_rfl) rfl rfl rfl rfl aK3b ?_
    refine VA.takeX (i := 4) rfl (by kernel_rfl) (by kernel_rfl) (by kernel_rfl) rfl rfl rfl rfl aK3b ?_
    refine VA.takeX (i := 5) rfl (by kernel_rfl) (by kernel_rfl) (by kernel_rfl) rfl rfl rfl rfl aK3b ?_
    refine VA.takeX (i := 6) rfl (by kernel_rfl) (by kernel_rfl) (by kernel_rfl) rfl rfl rfl rfl aK3b ?_
    refine VA.takeX (i := 7) rfl (by kernel_rfl) (by kernel_rfl) (by kernel_rfl) rfl rfl rfl rfl aK3b ?_
    refine VA.takeX (i := 8) rfl (by kernel_rfl) (by kernel_rfl) (by kernel_rfl) rfl rfl rfl rfl aK3b ?_
    refine VA.takeX (i := 9) rfl (by kernel_rfl) (by kernel_rfl) (by kernel_rfl) rfl rfl rfl rfl aK3b ?_
    refine VA.takeX (i := 10) rfl (by kernel_rfl) (by kernel_rfl) (by kernel_rfl) rfl rfl rfl rfl aK3b ?_
    refine VA.takeX (i := 11) rfl (by kernel_rfl) (by kernel_rfl) (by kernel_rfl) rfl rfl rfl rfl aK3b ?_
    refine VA.takeX (i := 12) rfl (by kernel_rfl) (by kernel_rfl) (by kernel_rfl) rfl rfl rfl rfl aK3b ?_
    refine VA.take (i := 13) rfl (by kernel_rfl) (by kernel_rfl) (by kernel_rfl) rfl rfl (OpV.pickF rfl rfl rfl rfl aK3b) ?_
    refine VA.take (i := 14) rfl (by kernel_rfl) (by kernel_rfl) (by kernel_rfl) rfl rfl (OpV.move (.inr rfl) rfl) ?_
    refine VA.done (by kernel_rfl) ?_
    refine VC.condF rfl rfl ?_
    refine VC.sr ?_
    refine VO.val rfl rfl (OpV.fieldAddrO 2 rfl Tryz.underlying50 rfl rfl Tryz.sizeOf3 rfl) ?_
    refine VO.val rfl rfl (OpV.load_own (i := 1) rfl hB Tryz.isAgg3 rfl rfl rfl (fun h => h)) ?_
    refine VO.val rfl rfl (OpV.fieldAddrO 1 rfl Tryz.underlying28 rfl rfl Tryz.sizeOf3 rfl) ?_
    refine VO.val rfl rfl (OpV.load_own (i := 0) rfl hB Tryz.isAgg3 rfl rfl rfl (fun h => h)) ?_
    refine VO.op rfl (OpE.call rfl hB rfl Tryz.call131 rfl (SpecN.spec (kit_Outside)) ?_)
    rintro _ rfl
    refine VO.mv rfl rfl rfl rfl ?_
    refine VO.opG rfl rfl rfl rfl (fun aK8b => ?_) (fun aK8b => ?_)
    ·replace aK8b : _ = false := aK8b
     have aK8 := aK8b
     try simp only [qqT, qqF, qqN, qqM, qqL, qqE] at aK8
     refine OpE.val (W := NoB) (OpV.fieldAddrO 3 rfl Tryz.underlying50 rfl rfl Tryz.sizeOf3 rfl) rfl ?_
     refine VO.opY rfl rfl rfl rfl aK8b ?_
     refine OpE.val (W := NoB) (OpV.load_own (i := 1) rfl hB Tryz.isAgg3 rfl rfl rfl (fun h => h)) rfl ?_
     refine VO.opY rfl rfl rfl rfl aK8b ?_
     refine OpE.val (W := NoB) (OpV.fieldAddrO 2 rfl Tryz.underlying28 rfl rfl Tryz.sizeOf3 rfl) rfl ?_
     refine VO.opY rfl rfl rfl rfl aK8b ?_
     refine OpE.val (W := NoB) (OpV.load_own (i := 0) rfl hB Tryz.isAgg3 rfl rfl rfl (fun h => h)) rfl ?_
     refine VO.opY rfl rfl rfl rfl aK8b ?_
     refine OpE.call rfl hB rfl Tryz.call131 rfl (SpecN.spec (kit_Outside)) ?_
     rintro _ rfl
     refine VO.val rfl rfl (OpV.pickF rfl rfl rfl rfl aK8b) ?_
     refine VO.mv rfl rfl rfl rfl ?_
     refine VO.opG rfl rfl rfl rfl (fun aK9b => ?_) (fun aK9b => ?_)
     ·replace aK9b : _ = false := aK9b
      have aK9 := aK9b
      try simp only [qqT, qqF, qqN, qqM, qqL, qqE] at aK9
      refine OpE.val (W := NoB) (OpV.fieldAddrO 4 rfl Tryz.underlying50 rfl rfl Tryz.sizeOf3 rfl) rfl ?_
      refine VO.opY rfl rfl rfl rfl aK9b ?_
      refine OpE.val (W := NoB) (OpV.load_own (i := 1) rfl hB Tryz.isAgg3 rfl rfl rfl (fun h => h)) rfl ?_
      refine VO.opY rfl rfl rfl rfl aK9b ?_
      refine OpE.call rfl hB rfl Tryz.call131 rfl (SpecN.spec (kit_Outside)) ?_
      rintro _ rfl
      refine VO.val rfl rfl (OpV.pickF rfl rfl rfl rfl aK9b) ?_
      refine VO.ma rfl rfl rfl rfl ?_
      refine VO.nil ?_
      refine VC.cond rfl (fun aH10b => ?_) (fun aH10b => ?_)
      ·have aH10 := aH10b
       try simp only [qqT, qqF, qqN, qqM, qqL, qqE] at aH10
       refine VC.sr ?_
       refine VO.ma rfl rfl rfl rfl ?_
       refine VO.nil ?_
       refine VC.ret ?_
       exact Exists.intro _ (And.intro (RetN.one Tryz.results84 (ResN.v rfl)) (by first | rw [placeE_1 (by assumption) (by assumption) (by first | (left; omega) | (right; assumption)) (by first | exact or3a (by assumption) | exact or3b (by assumption) | exact or3c (by assumption))]))
      ·have aH10 := aH10b
       try simp only [qqT, qqF, qqN, qqM, qqL, qqE] at aH10
       refine VC.skip ?_
       refine VC.sr ?_
       refine VO.ma rfl rfl rfl rfl ?_
       refine VO.nil ?_
       refine VC.ret ?_
       exact Exists.intro _ (And.intro (RetN.one Tryz.results84 (ResN.v rfl)) (by rw [placeE_0 (by assumption) (by assumption) (by first | (left; omega) | (right; assumption)) (or3f (by assumption) (by assumption) (by assumption))]))
     ·replace aK9b : _ = true := aK9b
      have aK9 := aK9b
      try simp only [qqT, qqF, qqN, qqM, qqL, qqE] at aK9
      refine VO.opX rfl rfl rfl rfl aK9b ?_
      refine VO.opX rfl rfl rfl rfl aK9b ?_
      refine VO.val rfl rfl (OpV.pickT rfl rfl rfl rfl aK9b) ?_
      refine VO.ma rfl rfl rfl rfl ?_
      refine VO.nil ?_
      refine VC.condT rfl rfl ?_
      refine VC.sr ?_
      refine VO.ma rfl rfl rfl rfl ?_
      refine VO.nil ?_
      refine VC.ret ?_
      exact Exists.intro _ (And.intro (RetN.one Tryz.results84 (ResN.v rfl)) (by first | rw [placeE_1 (by assumption) (by assumption) (by first | (left; omega) | (right; assumption)) (by first | exact or3a (by assumption) | exact or3b (by assumption) | exact or3c (by assumption))]))
    ·replace aK8b : _ = true := aK8b
     have aK8 := aK8b
     try simp only [qqT, qqF, qqN, qqM, qqL, qqE] at aK8
     refine VO.opX rfl rfl rfl rfl aK8b ?_
     refine VO.opX rfl rfl rfl rfl aK8b ?_
     refine VO.opX rfl rfl rfl rfl aK8b ?_
     refine VO.opX rfl rfl rfl rfl aK8b ?_
     refine VO.val rfl rfl (OpV.pickT rfl rfl rfl rfl aK8b) ?_
     refine VO.mv rfl rfl rfl rfl ?_
     refine VO.opX rfl rfl rfl rfl rfl ?_
     refine VO.opX rfl rfl rfl rfl rfl ?_
     refine VO.opX rfl rfl rfl rfl rfl ?_
     refine VO.val rfl rfl (OpV.pickT rfl rfl rfl rfl rfl) ?_
     refine VO.ma rfl rfl rfl rfl ?_
     refine VO.nil ?_
     refine VC.condT rfl rfl ?_
     refine VC.sr ?_
     refine VO.ma rfl rfl rfl rfl ?_
     refine VO.nil ?_
     refine VC.ret ?_
     exact Exists.intro _ (And.intro (RetN.one Tryz.results84 (ResN.v rfl)) (by first | rw [placeE_1 (by assumption) (by assumption) (by first | (left; omega) | (right; assumption)) (by first | exact or3a (by assumption) | exact or3b (by assumption) | exact or3c (by assumption))]))
 ·replace aK1b : _ = true := aK1b
  have aK1 := aK1b
  try simp only [qqT, qqF, qqN, qqM, qqL, qqE] at aK1
  refine VO.opX rfl rfl rfl rfl aK1b ?_
  refine VO.opX rfl rfl rfl rfl aK1b ?_
  refine VO.opX rfl rfl rfl rfl aK1b ?_
  refine VO.val rfl rfl (OpV.pickT rfl rfl rfl rfl aK1b) ?_
  refine VO.ma rfl rfl rfl rfl ?_
  refine VO.nil ?_
  refine VC.condT rfl rfl ?_
  refine VC.sr ?_
  refine VO.ma rfl rfl rfl rfl ?_
  refine VO.nil ?_
  refine VC.ret ?_
  exact Exists.intro _ (And.intro (RetN.one Tryz.results84 (ResN.v rfl)) (by first | rw [placeE_5a (by assumption)] | rw [placeE_5b (by assumption)]))
set_option maxRecDepth 100000 in
theorem panel_CheckProduct {p : ProdS} (hs : SmP p) :
  SpecN Tryz.prog 26 [avProd p] (fun y => y = avI (prodF p)) := by
 refine SpecN.of_VCN Tryz.func26 rfl Tryz.ntmps26 (Nle rfl) fun w A hB => ?_
 have hnew : True := trivial
 refine VC.seq ?_
 have hl := hs.len
 refine VC.region ?_
 refine VO.op rfl (OpE.box rfl hB rfl rfl rfl ?_)
 intro g1
 refine VO.ma rfl rfl rfl rfl ?_
 refine VO.nil ?_
 refine VC.seq ?_
 refine VC.block ?_
 refine VC.sr ?_
 refine VO.val rfl rfl (OpV.fieldAddrO 0 rfl Tryz.underlying28 rfl rfl Tryz.sizeOf9 rfl) ?_
 refine VO.val rfl rfl (OpV.load_own (i := 0) rfl hB Tryz.isAgg9 rfl rfl rfl (fun h => h)) ?_
 refine VO.op rfl (OpE.call rfl hB rfl Tryz.call82 rfl (SpecN.spec (kit_IsKey (by have := hs.key; omega))) ?_)
 rintro _ rfl
 refine VO.val rfl rfl (OpV.not rfl rfl) ?_
 refine VO.ma rfl rfl rfl rfl ?_
 refine VO.nil ?_
 refine VC.cond rfl (fun k0b => ?_) (fun k0b => ?_)
 ·have k0 := k0b
  try simp only [qqT, qqF, qqN, qqM, qqL, qqE] at k0
  refine VC.sr ?_
  refine VO.ma rfl rfl rfl rfl ?_
  refine VO.nil ?_
  refine VC.ret ?_
  exact Exists.intro _ (And.intro (RetN.one Tryz.results26 (ResN.v rfl)) (by rw [prodF_5 (by assumption)]))
 ·have k0 := k0b
  try simp only [qqT, qqF, qqN, qqM, qqL, qqE] at k0
  refine VC.sr ?_
  refine VO.val rfl rfl (OpV.fieldAddrO 1 rfl Tryz.underlying28 rfl rfl Tryz.sizeOf3 rfl) ?_
  refine VO.val rfl rfl (OpV.load_own (i := 0) rfl hB Tryz.isAgg3 rfl rfl rfl (fun h => h)) ?_
  refine VO.op rfl (OpE.call rfl hB rfl Tryz.call83 rfl (SpecN.spec (panel_isSize)) ?_)
  rintro _ rfl
  refine VO.val rfl rfl (OpV.not rfl rfl) ?_
  refine VO.mv rfl rfl rfl rfl ?_
  refine VO.opG rfl rfl rfl rfl (fun aK1b => ?_) (fun aK1b => ?_)
  ·replace aK1b : _ = false := aK1b
   have aK1 := aK1b
   try simp only [qqT, qqF, qqN, qqM, qqL, qqE] at aK1
   refine OpE.val (W := NoB) (OpV.fieldAddrO 2 rfl Tryz.underlying28 rfl rfl Tryz.sizeOf3 rfl) rfl ?_
   refine VO.opY rfl rfl rfl rfl aK1b ?_
   refine OpE.val (W := NoB) (OpV.load_own (i := 0) rfl hB Tryz.isAgg3 rfl rfl rfl (fun h => h)) rfl ?_
   refine VO.opY rfl rfl rfl rfl aK1b ?_
   refine OpE.call rfl hB rfl Tryz.call83 rfl (SpecN.spec (panel_isSize)) ?_
   rintro _ rfl
   refine VO.opY rfl rfl rfl rfl aK1b ?_
   refine OpE.val (W := NoB) (OpV.not rfl rfl) rfl ?_
   refine VO.val rfl rfl (OpV.pickF rfl rfl rfl rfl aK1b) ?_
   refine VO.ma rfl rfl rfl rfl ?_
   refine VO.nil ?_
   refine VC.cond rfl (fun k1b => ?_) (fun k1b => ?_)
   ·have k1 := k1b
    try simp only [qqT, qqF, qqN, qqM, qqL, qqE] at k1
    refine VC.sr ?_
    refine VO.ma rfl rfl rfl rfl ?_
    refine VO.nil ?_
    refine VC.ret ?_
    exact Exists.intro _ (And.intro (RetN.one Tryz.results26 (ResN.v rfl)) (by first | rw [prodF_1 k0 (or2a (by assumption))] | rw [prodF_1 k0 (or2b (by assumption))]))
   ·have k1 := k1b
    try simp only [qqT, qqF, qqN, qqM, qqL, qqE] at k1
    refine VC.sr ?_
    refine VO.val rfl rfl (OpV.fieldAddrO 3 rfl Tryz.underlying28 rfl rfl Tryz.sizeOf26 rfl) ?_
    refine VO.val rfl rfl (OpV.load_own (i := 0) rfl hB Tryz.isAgg26 rfl rfl rfl (fun h => h)) ?_
    refine VO.val rfl rfl (OpV.len_im rfl Tryz.underlying26 rfl) ?_
    refine VO.val rfl rfl (OpV.gtr rfl rfl rfl) ?_
    refine VO.ma rfl rfl rfl rfl ?_
    refine VO.nil ?_
    refine VC.cond rfl (fun k2b => ?_) (fun k2b => ?_)
    ·have k2 := k2b
     try simp only [qqT, qqF, qqN, qqM, qqL, qqE] at k2
     refine VC.sr ?_
     refine VO.ma rfl rfl rfl rfl ?_
     refine VO.nil ?_
     refine VC.ret ?_
     exact Exists.intro _ (And.intro (RetN.one Tryz.results26 (ResN.v rfl)) (by rw [prodF_2 k0 (or2f (by assumption) (by assumption)) (by omega)]))
    ·have k2 := k2b
     try simp only [qqT, qqF, qqN, qqM, qqL, qqE] at k2
     refine VC.skip ?_
     refine VC.seq ?_
     refine VC.sr ?_
     refine VO.val rfl rfl (OpV.fieldAddrO 3 rfl Tryz.underlying28 rfl rfl Tryz.sizeOf26 rfl) ?_
     refine VO.val rfl rfl (OpV.load_own (i := 0) rfl hB Tryz.isAgg26 rfl rfl rfl (fun h => h)) ?_
     refine VO.val rfl rfl (OpV.len_im rfl Tryz.underlying26 rfl) ?_
     refine VO.mv rfl rfl rfl rfl ?_
     refine VO.nil ?_
     refine VC.block ?_
     refine VC.loopK [(1, _), (28, _)] ⟨rfl, rfl, trivial⟩ ({q : Nat // q ≤ p.places.length ∧ ∀ j, j < q → placeE p j = 0}) (fun (iZ : {q : Nat // q ≤ p.places.length ∧ ∀ j, j < q → placeE p j = 0}) => match iZ with | ⟨q, hq, hn⟩ => [(29, avI (q : Int))]) (fun (iZ : {q : Nat // q ≤ p.places.length ∧ ∀ j, j < q → placeE p j = 0}) => match iZ with | ⟨q, hq, hn⟩ => [boxProd g1 p 28]) (fun (iZ : {q : Nat // q ≤ p.places.length ∧ ∀ j, j < q → placeE p j = 0}) => match iZ with | ⟨q, hq, hn⟩ => 0) (fun (iZ : {q : Nat // q ≤ p.places.length ∧ ∀ j, j < q → placeE p j = 0}) => match iZ with | ⟨q, hq, hn⟩ => p.places.length - q) ⟨0, Nat.zero_le _, fun j hj => absurd hj (Nat.not_lt_zero j)⟩ (Le.mk hB [0] ⟨rfl, rfl, rfl, trivial⟩ rfl rfl (Nat.le_refl _)) ?_
     rintro ⟨q, hq, hn⟩
     show VC _ _ _ _ ⟨[(29, avI (q : Int))] ++ [(1, _), (28, _)], [boxProd g1 p 28], 0⟩
     refine VC.sr ?_
     refine VO.val rfl rfl (OpV.lss rfl rfl rfl) ?_
     refine VO.nil ?_
     refine VC.seq ?_
     refine VC.cond rfl (fun aH2b => ?_) (fun aH2b => ?_)
     ·have aH2 := aH2b
      try simp only [qqT, qqF, qqN, qqM, qqL, qqE] at aH2
      refine VC.skip ?_
      refine VC.seq ?_
      refine VC.block ?_
      refine VC.sr ?_
      refine VO.mv rfl rfl rfl rfl ?_
      refine VO.ma rfl rfl rfl rfl ?_
      refine VO.nil ?_
      refine VC.sr ?_
      refine VO.val rfl rfl (OpV.loadK_own (i := 0) rfl hB Tryz.isAgg28 Tryz.sizeOf28 rfl rfl rfl (fun h => h)) ?_
      refine VO.mv rfl rfl rfl rfl ?_
      refine VO.op rfl (OpE.call rfl hB rfl Tryz.call84 rfl (SpecN.spec (panel_placementFault hs (by omega))) ?_)
      rintro _ rfl
      refine VO.ma rfl rfl rfl rfl ?_
      refine VO.nil ?_
      refine VC.sr ?_
      refine VO.mv rfl rfl rfl rfl ?_
      refine VO.val rfl rfl (OpV.neq rfl rfl rfl) ?_
      refine VO.nil ?_
      refine VC.cond rfl (fun k4b => ?_) (fun k4b => ?_)
      ·have k4 := k4b
       try simp only [qqT, qqF, qqN, qqM, qqL, qqE] at k4
       refine VC.sr ?_
       refine VO.mv rfl rfl rfl rfl ?_
       refine VO.ma rfl rfl rfl rfl ?_
       refine VO.nil ?_
       refine VC.ret ?_
       exact Exists.intro _ (And.intro (RetN.one Tryz.results26 (ResN.v rfl)) (by rw [prodF_at k0 (or2f (by assumption) (by assumption)) (by omega) (by omega) hn rfl k4]))
      ·have k4 := k4b
       try simp only [qqT, qqF, qqN, qqM, qqL, qqE] at k4
       refine VC.skip ?_
       refine VC.region ?_
       refine VO.val rfl rfl (OpV.add rfl rfl rfl (by unfold fits; omega)) ?_
       refine VO.mv rfl rfl rfl rfl ?_
       refine VO.nil ?_
       exact Exists.intro (⟨q + 1, by omega, lt_succ_cases hn ((by omega))⟩) (And.intro (Le.mk hB [0] ⟨rfl, rfl, rfl, trivial⟩ rfl rfl (Nat.le_refl _)) (by first | omega | (show _ < _; omega) | (simp only []; omega)))
     ·have aH2 := aH2b
      try simp only [qqT, qqF, qqN, qqM, qqL, qqE] at aH2
      refine VC.exit ?_
      refine VC.sr ?_
      refine VO.ma rfl rfl rfl rfl ?_
      refine VO.nil ?_
      refine VC.ret ?_
      exact Exists.intro _ (And.intro (RetN.one Tryz.results26 (ResN.v rfl)) (by rw [prodF_ok k0 (or2f (by assumption) (by assumption)) (by omega) (fun j hj => hn j (by omega))]))
  ·replace aK1b : _ = true := aK1b
   have aK1 := aK1b
   try simp only [qqT, qqF, qqN, qqM, qqL, qqE] at aK1
   refine VO.opX rfl rfl rfl rfl aK1b ?_
   refine VO.opX rfl rfl rfl rfl aK1b ?_
   refine VO.opX rfl rfl rfl rfl aK1b ?_
   refine VO.val rfl rfl (OpV.pickT rfl rfl rfl rfl aK1b) ?_
   refine VO.ma rfl rfl rfl rfl ?_
   refine VO.nil ?_
   refine VC.condT rfl rfl ?_
   refine VC.sr ?_
   refine VO.ma rfl rfl rfl rfl ?_
   refine VO.nil ?_
   refine VC.ret ?_
   exact Exists.intro _ (And.intro (RetN.one Tryz.results26 (ResN.v rfl)) (by first | rw [prodF_1 k0 (or2a (by assumption))] | rw [prodF_1 k0 (or2b (by assumption))]))
end Go.Proofs.YtceflkkgmmcieaaGreatDoor
namespace Go.Proofs.YtceflkkgmmcieaaGreatDoor
open Go.RowKit
set_option linter.unusedVariables false
set_option linter.unusedSimpArgs false
abbrev kvS : ByteArray → Value := fun k => Value.string k
abbrev eI : Int → AV := fun n => avI n
theorem flat_need (xs : List NeedS) : FlatA (rowL xs) := flat_rowL (fun x j hj => by
 match j, hj with
 | 0, _ => exact ⟨_, rfl⟩
 | 1, _ => exact ⟨_, rfl⟩) xs
theorem cnt_key_small {p : ProdS} (hs : SmP p) (q : Nat) : ∀ x ∈ cntP (p.places.take q), x.1.size ≤ maxLen := fun x hx => by
 have : x.1 ∈ (cntP (p.places.take q)).map (·.1) := List.mem_map.2 ⟨x, hx, rfl⟩
 obtain ⟨y, hy, e⟩ := cntP_mem.1 this
 obtain ⟨j, hj, rfl⟩ := List.getElem_of_mem hy
 rw [← e]
 have h1 := hs.part j
 simp only [List.length_take] at hj
 rw [List.getElem_take]
 rw [List.getD_eq_getElem?_getD, List.getElem?_eq_getElem (by omega)] at h1
 simp only [maxLen]
 exact Nat.le_trans h1 (by decide)
theorem needs_take {p : ProdS} {r : Nat} (h : r < (sKeys (cntP p.places)).length) : (needsL p).take (r + 1) = (needsL p).take r ++ [⟨(sKeys (cntP p.places)).getD r ByteArray.empty, mgetD (cntP p.places) ((sKeys (cntP p.places)).getD r ByteArray.empty) 0⟩] := by
 rw [take_snocD (by simpa [needsL] using h) default]
 congr 2
 simp [needsL, List.getD_eq_getElem?_getD, h]
set_option maxRecDepth 100000 in
set_option maxHeartbeats 4000000 in
theorem panel_Needs {p : ProdS} (hs : SmP p) :
  SpecN Tryz.prog 15 [avProd p] (fun y => y = .tup [avL (needsR p), avI (prodF p)]) := by
 refine SpecN.of_VCN Tryz.func15 rfl Tryz.ntmps15 (Nle rfl) fun w A hB => ?_
 have hnew : True := trivial
 refine VC.seq ?_
 have hl := hs.len
 refine VC.region ?_
 refine VO.op rfl (OpE.box rfl hB rfl rfl rfl ?_)
 intro g1
 refine VO.ma rfl rfl rfl rfl ?_
 refine VO.ma rfl rfl rfl rfl ?_
 refine VO.nil ?_
 refine VC.seq ?_
 refine VC.sr ?_
 refine VO.val rfl rfl (OpV.loadK_own (i := 0) rfl hB Tryz.isAgg28 Tryz.sizeOf28 rfl rfl rfl (fun h => h)) ?_
 refine VO.op rfl (OpE.call rfl hB rfl Tryz.call26 rfl (SpecN.spec (panel_CheckProduct hs)) ?_)
 rintro _ rfl
 refine VO.ma rfl rfl rfl rfl ?_
 refine VO.nil ?_
 refine VC.sr ?_
 refine VO.mv rfl rfl rfl rfl ?_
 refine VO.val rfl rfl (OpV.neq rfl rfl rfl) ?_
 refine VO.nil ?_
 refine VC.cond rfl (fun h0b => ?_) (fun h0b => ?_)
 ·have h0 := h0b
  try simp only [qqT, qqF, qqN, qqM, qqL, qqE] at h0
  refine VC.sr ?_
  refine VO.mv rfl rfl rfl rfl ?_
  refine VO.ma rfl rfl rfl rfl ?_
  refine VO.ma rfl rfl rfl rfl ?_
  refine VO.nil ?_
  refine VC.ret ?_
  exact Exists.intro _ (And.intro (RetN.two Tryz.results15 (ResN.nilE rfl) (ResN.v rfl)) (by first | (rw [needsR, if_neg h0]; rfl) | (rw [needsR, if_pos h00, h00])))
 ·have h0 := h0b
  try simp only [qqT, qqF, qqN, qqM, qqL, qqE] at h0
  have h00 : prodF p = 0 := by omega
  have hok := prodOk h00
  have hlen := hok.len
  refine VC.skip ?_
  refine VC.sr ?_
  refine VO.op rfl (OpE.makeMap (kvS) (eI) rfl hB rfl ?_)
  intro g16
  refine VO.ma rfl rfl rfl rfl ?_
  refine VO.nil ?_
  refine VC.seq ?_
  refine VC.sr ?_
  refine VO.val rfl rfl (OpV.fieldAddrO 3 rfl Tryz.underlying28 rfl rfl Tryz.sizeOf26 rfl) ?_
  refine VO.val rfl rfl (OpV.load_own (i := 0) rfl hB Tryz.isAgg26 rfl rfl rfl (fun h => h)) ?_
  refine VO.val rfl rfl (OpV.len_im rfl Tryz.underlying26 rfl) ?_
  refine VO.mv rfl rfl rfl rfl ?_
  refine VO.nil ?_
  refine VC.block ?_
  refine VC.loopK [(5, _), (18, _), (19, _)] ⟨rfl, rfl, rfl, trivial⟩ ({q : Nat // q ≤ p.places.length}) (fun (iZ : {q : Nat // q ≤ p.places.length}) => match iZ with | ⟨q, hq⟩ => [(20, avI (q : Int))]) (fun (iZ : {q : Nat // q ≤ p.places.length}) => match iZ with | ⟨q, hq⟩ => [boxProd g1 p 28, mapE kvS g16 eI (cntP (p.places.take q))]) (fun (iZ : {q : Nat // q ≤ p.places.length}) => match iZ with | ⟨q, hq⟩ => 0) (fun (iZ : {q : Nat // q ≤ p.places.length}) => match iZ with | ⟨q, hq⟩ => p.places.length - q) ⟨0, Nat.zero_le _⟩ (Le.mk hB [0, 1] ⟨rfl, rfl, rfl, rfl, trivial⟩ rfl rfl (Nat.le_refl _)) ?_
  rintro ⟨q, hq⟩
  show VC _ _ _ _ ⟨[(20, avI (q : Int))] ++ [(5, _), (18, _), (19, _)], [boxProd g1 p 28, mapE kvS g16 eI (cntP (p.places.take q))], 0⟩
  refine VC.sr ?_
  refine VO.val rfl rfl (OpV.lss rfl rfl rfl) ?_
  refine VO.nil ?_
  refine VC.seq ?_
  refine VC.cond rfl (fun aH1b => ?_) (fun aH1b => ?_)
  ·have aH1 := aH1b
   try simp only [qqT, qqF, qqN, qqM, qqL, qqE] at aH1
   refine VC.skip ?_
   refine VC.seq ?_
   refine VC.block ?_
   refine VC.sr ?_
   refine VO.val rfl rfl (OpV.indexAddr_E rfl Tryz.underlying26 Tryz.sizeOf50 rfl rfl rfl (by omega)) ?_
   refine VO.val rfl rfl (OpV.loadK_at rfl hB OutW.no Tryz.isAgg50 Tryz.sizeOf50 rfl rfl) ?_
   refine VO.op rfl (OpE.alloc rfl hB rfl Tryz.zeroValue50 rfl ?_)
   intro g7
   refine VO.op rfl (OpE.store (i := 2) rfl hB rfl Tryz.sizeOf50 rfl rfl rfl rfl rfl rfl (Nle rfl) trivial ?_)
   refine VO.nil ?_
   refine VC.region ?_
   refine VO.mv rfl rfl rfl rfl ?_
   refine VO.val rfl rfl (OpV.fieldAddrO 1 rfl Tryz.underlying50 rfl rfl Tryz.sizeOf9 rfl) ?_
   refine VO.val rfl rfl (OpV.load_own (i := 2) rfl hB Tryz.isAgg9 rfl rfl rfl (fun h => h)) ?_
   refine VO.val rfl rfl (OpV.lookup_own (i := 1) rfl hB Tryz.underlying128 (KeyOk.str Tryz.underlying9) Tryz.zeroValue3 rfl (KeyE.v rfl) rfl (fun h => h)) ?_
   refine VO.le _ (Le.recast (t := 27) (y := avI (mgetD (cntP (p.places.take q)) (p.places.getD q default).part 0)) rfl (fun w Z u h => by unfold mgetD; revert h; cases mget (cntP (p.places.take q)) (p.places.getD q default).part <;> exact id)) ?_
   refine VO.val rfl rfl (OpV.add rfl rfl rfl (by have h := cntP_bd (p.places.take q) (p.places.getD q default).part; have h2 := List.length_take_le q p.places; unfold fits; omega)) ?_
   refine VO.op rfl (OpE.mapUpdate (i := 1) (xx := mgetD (cntP (p.places.take q)) (p.places.getD q default).part 0 + 1) rfl hB rfl Tryz.underlying128 (KeyOk.str Tryz.underlying9) rfl (KeyE.v rfl) rfl rfl trivial ?_)
   refine VO.nil ?_
   refine VC.region ?_
   refine VO.val rfl rfl (OpV.add rfl rfl rfl (by unfold fits; omega)) ?_
   refine VO.mv rfl rfl rfl rfl ?_
   refine VO.nil ?_
   exact Exists.intro (⟨q + 1, by omega⟩) (And.intro (Le.mk hB [0, 1] ⟨rfl, rfl, rfl, rfl, trivial⟩ rfl (by dsimp only; rw [cntP_take (by omega)]; rfl) (Nat.le_refl _)) (by first | omega | (show _ < _; omega) | (simp only []; omega)))
  ·have aH1 := aH1b
   try simp only [qqT, qqF, qqN, qqM, qqL, qqE] at aH1
   refine VC.exit ?_
   refine VC.seq ?_
   have hqe : p.places.take q = p.places := List.take_of_length_le (by omega)
   rw [hqe]
   have hcl := cntP_len p.places
   refine VC.region ?_
   refine VO.ma rfl rfl rfl rfl ?_
   refine VO.nil ?_
   refine VC.seq ?_
   refine VC.sr ?_
   refine VO.mv rfl rfl rfl rfl ?_
   refine VO.op rfl (OpE.callH rfl hB rfl Tryz.call72 rfl rfl (maps_Keys_int (some g16)) (List.Perm.refl _) (fun _ _ => trivial) ?_)
   rintro _ _ ⟨g31, rfl, rfl⟩
   refine VO.op rfl (OpE.callH (rest := [_]) rfl hB rfl Tryz.call71 rfl rfl (slices_Sorted_int (l := cntP p.places) (E := eI) (cntP_nodup _) (by have := cnt_key_small hs p.places.length; rwa [List.take_length] at this) (by omega)) (List.Perm.cons _ (List.Perm.swap _ _ _)) (fun _ _ => trivial) ?_)
   rintro _ _ ⟨u32, rfl, rfl⟩
   refine VO.le _ (Le.rowS (t := 32) (i := 0) hB hnew rfl rfl (sKeys_len _).symm) ?_
   obtain ⟨m, hm⟩ : ∃ m, cntP p.places = m := ⟨_, rfl⟩
   obtain ⟨ks, hks⟩ : ∃ ks, sKeys (cntP p.places) = ks := ⟨_, rfl⟩
   have hkl : ks.length = (cntP p.places).length := by rw [← hks, sKeys_len]
   rw [hks]
   refine VO.val rfl rfl (OpV.len_im rfl Tryz.underlying81 rfl) ?_
   refine VO.mv rfl rfl rfl rfl ?_
   refine VO.nil ?_
   refine VC.block ?_
   refine VC.le _ (Le.nilRow 2 60) ?_
   refine VC.loopK [(5, _), (32, _), (33, _)] ⟨rfl, rfl, rfl, trivial⟩ ({z : Value × Nat // z.2 ≤ ks.length}) (fun (iZ : {z : Value × Nat // z.2 ≤ ks.length}) => match iZ with | ⟨⟨u, r⟩, hr⟩ => [(8, .v u), (34, avI (r : Int))]) (fun (iZ : {z : Value × Nat // z.2 ≤ ks.length}) => match iZ with | ⟨⟨u, r⟩, hr⟩ => [mapE kvS g16 eI (cntP p.places), .row u r 2 (rowL ((needsL p).take r)) 60]) (fun (iZ : {z : Value × Nat // z.2 ≤ ks.length}) => match iZ with | ⟨⟨u, r⟩, hr⟩ => 0) (fun (iZ : {z : Value × Nat // z.2 ≤ ks.length}) => match iZ with | ⟨⟨u, r⟩, hr⟩ => ks.length - r) ⟨(.slice none 0 0, 0), Nat.zero_le _⟩ (Le.mk hB [1, 3] ⟨rfl, rfl, rfl, rfl, rfl, trivial⟩ rfl rfl (Nat.le_refl _)) ?_
   rintro ⟨⟨u, r⟩, hr⟩
   show VC _ _ _ _ ⟨[(8, .v u), (34, avI (r : Int))] ++ [(5, _), (32, _), (33, _)], [mapE kvS g16 eI (cntP p.places), .row u r 2 (rowL ((needsL p).take r)) 60], 0⟩
   simp only at hr
   refine VC.sr ?_
   refine VO.val rfl rfl (OpV.lss rfl rfl rfl) ?_
   refine VO.nil ?_
   refine VC.seq ?_
   refine VC.cond rfl (fun aH2b => ?_) (fun aH2b => ?_)
   ·have aH2 := aH2b
    try simp only [qqT, qqF, qqN, qqM, qqL, qqE] at aH2
    refine VC.skip ?_
    refine VC.seq ?_
    refine VC.block ?_
    refine VC.sr ?_
    refine VO.val rfl rfl (OpV.indexAddr_1 rfl Tryz.underlying81 Tryz.sizeOf9 rfl rfl rfl (by omega)) ?_
    refine VO.val rfl rfl (OpV.load_at rfl hB OutW.no Tryz.isAgg9 rfl rfl) ?_
    refine VO.ma rfl rfl rfl rfl ?_
    refine VO.nil ?_
    refine VC.region ?_
    refine VO.mv rfl rfl rfl rfl ?_
    refine VO.mv rfl rfl rfl rfl ?_
    refine VO.mv rfl rfl rfl rfl ?_
    refine VO.mv rfl rfl rfl rfl ?_
    refine VO.val rfl rfl (OpV.lookup_own (i := 0) rfl hB Tryz.underlying128 (KeyOk.str Tryz.underlying9) Tryz.zeroValue3 rfl (KeyE.v rfl) rfl (fun h => h)) ?_
    refine VO.le _ (Le.recast (t := 42) (y := avI (mgetD (cntP p.places) (ks.getD r ByteArray.empty) 0)) rfl (fun w Z u h => by unfold mgetD; revert h; cases mget (cntP p.places) (ks.getD r ByteArray.empty) <;> exact id)) ?_
    refine VO.val rfl rfl (OpV.build (pls := #[(0, 1), (1, 1)]) rfl Tryz.zeroValue60 Tryz.underlying60 (fun w => by kernel_rfl) rfl rfl) ?_
    refine VO.op rfl (OpE.buildSlice (zc := #[.string ⟨#[]⟩, .int .i64 0]) rfl hB rfl Tryz.underlying36 Tryz.sizeOf60 Tryz.zeroValue60 (by decide) (by decide) (by kernel_rfl) rfl rfl ?_)
    refine VO.op rfl (OpE.append1 (i := 1) rfl hB rfl Tryz.underlying36 (infoOf Tryz.t60 2 (by kernel_rfl) rfl rfl) rfl (by decide) (by decide) rfl rfl rfl rfl (rowL_snoc _ (⟨ks.getD r ByteArray.empty, mgetD (cntP p.places) (ks.getD r ByteArray.empty) 0⟩ : NeedS)) (by omega) (fun _ _ => trivial) ?_)
    intro u2
    refine VO.ma rfl rfl rfl rfl ?_
    refine VO.nil ?_
    refine VC.region ?_
    refine VO.val rfl rfl (OpV.add rfl rfl rfl (by unfold fits; omega)) ?_
    refine VO.mv rfl rfl rfl rfl ?_
    refine VO.nil ?_
    exact Exists.intro (⟨(u2, r + 1), by show r + 1 ≤ _; omega⟩) (And.intro (Le.mk hB [0, 1] ⟨rfl, rfl, rfl, rfl, rfl, trivial⟩ rfl (by dsimp only; rw [needs_take (by rw [hks]; omega), hks]; rfl) (Nat.le_refl _)) (by first | omega | (show _ < _; omega) | (simp only []; omega)))
   ·have aH2 := aH2b
    try simp only [qqT, qqF, qqN, qqM, qqL, qqE] at aH2
    refine VC.exit ?_
    refine VC.seq ?_
    have hre : r = (needsL p).length := by rw [needsL_len]; omega
    have hrt : (needsL p).take r = needsL p := List.take_of_length_le (by omega)
    rw [hrt]
    refine VC.region ?_
    refine VO.mv rfl rfl rfl rfl ?_
    refine VO.ma rfl rfl rfl rfl ?_
    refine VO.ma rfl rfl rfl rfl ?_
    refine VO.nil ?_
    refine VC.ret ?_
    exact Exists.intro _ (And.intro (RetN.two Tryz.results15 (ResN.rowT (i := 1) (xs := needsL p) rfl rfl hre (flat_need _)) (ResN.v rfl)) (by first | (rw [needsR, if_neg h0]; rfl) | (rw [needsR, if_pos h00, h00])))
end Go.Proofs.YtceflkkgmmcieaaGreatDoor
namespace Go.Proofs.YtceflkkgmmcieaaGreatDoor
open Go.RowKit
set_option linter.unusedVariables false
set_option linter.unusedSimpArgs false
theorem sEq_dec (a b : ByteArray) : sEq a b = decide (a = b) := by
 by_cases h : a = b
 ·rw [decide_eq_true h]; exact sEq_eq.2 h
 ·rw [decide_eq_false h]
  cases e : sEq a b with
  | false => rfl
  | true => exact absurd (sEq_eq.1 e) h
section
variable {P : Program} {kt : TypeId} {f1 f2 : Field} (hu : P.underlying kt = some (.struct (P.fieldsOf kt))) (hs : P.stoodInHeld kt = false) (hf : P.fieldsOf kt = #[f1, f2]) (h1 : P.underlying f1.type = some .string) (h2 : P.underlying f2.type = some .string)
 (a1 : ∀ w, (isAgg f1.type).run P w = .ok false w) (a2 : ∀ w, (isAgg f2.type).run P w = .ok false w) (o1 : f1.offset = 0) (o2 : f2.offset = 1) (n1 : f1.name ≠ "_") (n2 : f2.name ≠ "_")
include hu hs hf h1 h2 a1 a2 o1 o2 n1 n2
end
end Go.Proofs.YtceflkkgmmcieaaGreatDoor
namespace Go.Proofs.YtceflkkgmmcieaaGreatDoor
set_option linter.unusedVariables false
set_option linter.unusedSimpArgs false
def lowK {α : Type} (key : α → ByteArray) (l : List α) (k : ByteArray) : Nat := (l.takeWhile fun x => sLt (key x) k).length
theorem lowK_le {α : Type} {key : α → ByteArray} {l : List α} {k : ByteArray} : lowK key l k ≤ l.length := by
 unfold lowK
 exact (List.takeWhile_sublist _).length_le
section
variable {α : Type} [Inhabited α] (key : α → ByteArray) (l : List α) (k : ByteArray)
def RiseK : Prop := ∀ j, 0 < j → j < l.length → sLe (key (l.getD j default)) (key (l.getD (j - 1) default)) = false
variable {key l k}
theorem takeWhile_at {p : α → Bool} : ∀ (l : List α) (j : Nat), j < (l.takeWhile p).length → p (l.getD j default) = true
 | [], j, h => by simp at h
 | x :: l, j, h => by
  rw [List.takeWhile_cons] at h
  split at h
  ·rename_i hx
   cases j with
   | zero => simpa using hx
   | succ j => simpa using takeWhile_at l j (by simpa using h)
  ·simp at h
theorem takeWhile_end {p : α → Bool} : ∀ (l : List α), (l.takeWhile p).length < l.length → p (l.getD (l.takeWhile p).length default) = false
 | [], h => by simp at h
 | x :: l, h => by
  rw [List.takeWhile_cons] at h ⊢
  split
  ·rename_i hx
   rw [if_pos hx] at h
   simpa using takeWhile_end l (by simpa using h)
  ·rename_i hx
   simpa using hx
theorem lowK_lt {j : Nat} (h : j < lowK key l k) : sLt (key (l.getD j default)) k = true := takeWhile_at (p := fun x => sLt (key x) k) l j h
theorem rise_step {a b : ByteArray} (h : sLe b a = false) : sLt a b = true := by
 unfold sLe at h
 rw [Bool.or_eq_false_iff] at h
 exact sLt_total h.1 fun e => by rw [e, sEq_eq.2 rfl] at h; cases h.2
theorem rise_lt (hr : RiseK key l) : ∀ (i j : Nat), i < j → j < l.length → sLt (key (l.getD i default)) (key (l.getD j default)) = true
 | i, 0, h, _ => by omega
 | i, j + 1, h, hl => by
  have h1 := rise_step (hr (j + 1) (by omega) hl)
  rw [Nat.add_sub_cancel] at h1
  by_cases e : i = j
  ·subst e; exact h1
  ·exact sLt_trans (rise_lt hr i j (by omega) (by omega)) h1
theorem lowK_ge (hr : RiseK key l) {j : Nat} (h : lowK key l k ≤ j) (hj : j < l.length) : sLt (key (l.getD j default)) k = false := by
 have h0 : sLt (key (l.getD (lowK key l k) default)) k = false := takeWhile_end (p := fun x => sLt (key x) k) l (Nat.lt_of_le_of_lt h hj)
 by_cases e : j = lowK key l k
 ·rw [e]; exact h0
 ·have h1 := rise_lt hr (lowK key l k) j (by omega) hj
  cases h2 : sLt (key (l.getD j default)) k with
  | false => rfl
  | true => rw [sLt_trans h1 h2] at h0; cases h0
theorem lowK_any (hr : RiseK key l) : (decide (lowK key l k < l.length) && sEq (key (l.getD (lowK key l k) default)) k) = l.any fun x => sEq (key x) k := by
 cases hb : l.any (fun x => sEq (key x) k) with
 | true =>
  obtain ⟨x, hx, he⟩ := List.any_eq_true.1 hb
  obtain ⟨j, hj, rfl⟩ := List.getElem_of_mem hx
  have hd : l.getD j default = l[j] := by rw [List.getD_eq_getElem?_getD, List.getElem?_eq_getElem hj]; rfl
  have he' : key (l.getD j default) = k := by rw [hd]; exact sEq_eq.1 he
  have h1 : lowK key l k ≤ j := by
   rcases Nat.lt_or_ge j (lowK key l k) with h | h
   ·have := lowK_lt h; rw [he', sLt_irr] at this; cases this
   ·exact h
  have h2 : lowK key l k = j := by
   by_cases e : lowK key l k = j
   ·exact e
   ·have := rise_lt hr (lowK key l k) j (by omega) hj
    rw [he'] at this
    have := lowK_ge hr (k := k) (Nat.le_refl _) (by omega)
    simp_all
  rw [h2, he', decide_eq_true hj, sEq_eq.2 rfl]; rfl
 | false =>
  cases hc : (decide (lowK key l k < l.length) && sEq (key (l.getD (lowK key l k) default)) k) with
  | false => rfl
  | true =>
   rw [Bool.and_eq_true, decide_eq_true_eq] at hc
   rw [List.any_eq_false] at hb
   have := hb _ (List.getElem_mem hc.1)
   have hc1 := hc.1
   have hd : l.getD (lowK key l k) default = l[lowK key l k]'hc1 := by rw [List.getD_eq_getElem?_getD, List.getElem?_eq_getElem hc1]; rfl
   have hc2 := hc.2
   rw [hd] at hc2
   exact absurd hc2 this
theorem find_first {p : α → Bool} : ∀ (l : List α) (j : Nat), j < l.length → p (l.getD j default) = true → (∀ i, i < j → p (l.getD i default) = false) → (l.find? p).getD default = l.getD j default
 | [], j, h, _, _ => by simp at h
 | x :: l, 0, _, h, _ => by simp at h; simp [h]
 | x :: l, j + 1, hj, h, hn => by
  have h0 := hn 0 (by omega)
  simp at h0
  simp only [List.find?_cons, h0]
  rw [find_first l j (by simpa using hj) (by simpa using h) (fun i hi => by simpa using hn (i + 1) (by omega))]
  simp
theorem lowK_find (hr : RiseK key l) (h1 : lowK key l k < l.length) (h2 : sEq (key (l.getD (lowK key l k) default)) k = true) : (l.find? fun x => sEq (key x) k).getD default = l.getD (lowK key l k) default :=
 find_first l _ h1 h2 fun i hi => by
  have := lowK_lt hi
  cases e : sEq (key (l.getD i default)) k with
  | false => rfl
  | true => rw [sEq_eq.1 e, sLt_irr] at this; cases this
theorem lowK_cmp (hr : RiseK key l) : (∀ j, j < lowK key l k → cmpB (key (l.getD j default)) k < 0) ∧ (∀ j, lowK key l k ≤ j → j < l.length → 0 ≤ cmpB (key (l.getD j default)) k) := by
 refine ⟨fun j hj => ?_, fun j hj hl => ?_⟩
 ·have := lowK_lt hj
  rw [← cmpB_lt, decide_eq_true_eq] at this; exact this
 ·have := lowK_ge hr hj hl
  rw [← cmpB_lt, decide_eq_false_iff_not] at this; omega
theorem cmp_zero (a b : ByteArray) : decide (cmpB a b = 0) = sEq a b := by
 rw [sEq_dec]
 by_cases h : a = b
 ·rw [decide_eq_true h, decide_eq_true (cmpB_eq.2 h)]
 ·rw [decide_eq_false h, decide_eq_false fun e => h (cmpB_eq.1 e)]
end
theorem bsf_lo {f : Nat → Int} {s0 n h : Nat} (hhi : ∀ j, s0 ≤ j → j < n → 0 ≤ f j) (hn : h < n) (hc : f h < 0) : h + 1 ≤ s0 := by
 rcases Nat.lt_or_ge h s0 with h1 | h1
 ·exact h1
 ·have := hhi h h1 hn; omega
theorem bsf_hi {f : Nat → Int} {s0 h : Nat} (hlo : ∀ j, j < s0 → f j < 0) (hc : 0 ≤ f h) : s0 ≤ h := by
 rcases Nat.lt_or_ge h s0 with h1 | h1
 ·have := hlo h h1; omega
 ·exact h1
end Go.Proofs.YtceflkkgmmcieaaGreatDoor
namespace Go.Proofs.YtceflkkgmmcieaaGreatDoor
open Go.RowKit
set_option linter.unusedVariables false
set_option linter.unusedSimpArgs false
structure SpotS where
 slot : Int
 name : ByteArray
 x : Int
 y : Int
 quarter : Int
instance : Inhabited SpotS := ⟨⟨0, ByteArray.empty, 0, 0, 0⟩⟩
instance : Sxc SpotS where
 k := 5
 pos := by decide
 cell m j := match j with
  | 0 => avI m.slot
  | 1 => avS m.name
  | 2 => avI m.x
  | 3 => avI m.y
  | 4 => avI m.quarter
  | _ => .any
abbrev avSpot (x : SpotS) : AV := .agg [avI x.slot, avS x.name, avI x.x, avI x.y, avI x.quarter]
abbrev avPl (x : PlaceS) : AV := .agg [avS x.name, avS x.part, avI x.x, avI x.y, avI x.quarter]
def spotS (p : ProdS) (i : Int) (s : SlotS) (c : PlaceS) : SpotS := ⟨i, c.name, s.x + plX p s.quarter c.x c.y, s.y + plY p s.quarter c.x c.y, Int.tmod (s.quarter + c.quarter) 4⟩
def spotF (p : ProdS) (n : PanS) (i : Nat) (c : PlaceS) : SpotS := spotS p (i : Int) (n.slots.getD i default) c
def spotQ (p : ProdS) (n : PanS) (q : Nat) : List SpotS := (List.range q).flatMap fun i => if (n.slots.getD i default).skip = true then [] else p.places.map (spotF p n i)
def spotsR (p : ProdS) (n : PanS) : List SpotS := if panelF p n = 0 then spotQ p n n.slots.length else []
theorem spotQ_skip {p : ProdS} {n : PanS} {q : Nat} (h : (n.slots.getD q default).skip = true) : spotQ p n (q + 1) = spotQ p n q := by
 rw [spotQ, List.range_succ, List.flatMap_append]
 simp only [List.flatMap_cons, List.flatMap_nil, if_pos h, List.append_nil]
 rfl
theorem spotQ_some {p : ProdS} {n : PanS} {q : Nat} (h : (n.slots.getD q default).skip = false) : spotQ p n (q + 1) = spotQ p n q ++ p.places.map (spotF p n q) := by
 rw [spotQ, List.range_succ, List.flatMap_append]
 simp only [List.flatMap_cons, List.flatMap_nil, if_neg (show ¬ (n.slots.getD q default).skip = true by rw [h]; simp), List.append_nil]
 rfl
theorem place_snoc {α : Type} {l : List PlaceS} {q : Nat} (f : PlaceS → α) (h : q < l.length) : (l.take (q + 1)).map f = (l.take q).map f ++ [f (l.getD q default)] := by
 rw [List.take_add_one, List.map_append, List.getD_eq_getElem?_getD, List.getElem?_eq_getElem h]; rfl
def boardN (n : PanS) (q : Nat) : Nat := ((n.slots.take q).filter fun s => !s.skip).length
theorem boardN_le (n : PanS) (q : Nat) : boardN n q ≤ q := by
 unfold boardN
 have := List.length_filter_le (fun s : SlotS => !s.skip) (n.slots.take q)
 rw [List.length_take] at this
 omega
theorem boardN_succ {n : PanS} {q : Nat} (h : q < n.slots.length) : boardN n (q + 1) = boardN n q + if (n.slots.getD q default).skip = true then 0 else 1 := by
 unfold boardN
 rw [List.take_add_one, List.getElem?_eq_getElem h, List.filter_append, List.length_append]
 have : n.slots.getD q default = n.slots[q] := by rw [List.getD_eq_getElem?_getD, List.getElem?_eq_getElem h]; rfl
 rw [this]
 cases hs : n.slots[q].skip <;> simp [hs]
theorem spotQ_len {p : ProdS} {n : PanS} : ∀ q, q ≤ n.slots.length → (spotQ p n q).length = boardN n q * p.places.length
 | 0, _ => by simp [spotQ, boardN]
 | q + 1, h => by
  rw [boardN_succ (by omega)]
  cases hs : (n.slots.getD q default).skip with
  | true => rw [spotQ_skip hs, spotQ_len q (by omega)]; simp
  | false => rw [spotQ_some hs, List.length_append, spotQ_len q (by omega), List.length_map]; simp [Nat.add_mul]
theorem spotQ_bd {p : ProdS} {n : PanS} {q : Nat} (h : q ≤ n.slots.length) (hn : n.slots.length ≤ 100) (hp : p.places.length ≤ 1000) : (spotQ p n q).length ≤ 100000 := by
 rw [spotQ_len q h]
 have := boardN_le n q
 exact Nat.le_trans (Nat.mul_le_mul (show boardN n q ≤ 100 by omega) hp) (by decide)
def hasN (p : ProdS) (k : ByteArray) : Bool := p.places.any fun x => sEq x.name k
def placeO (p : ProdS) (k : ByteArray) : PlaceS := (p.places.find? fun x => sEq x.name k).getD default
def atE (p : ProdS) (n : PanS) (i : Int) (k : ByteArray) : Int := if panelF p n ≠ 0 then panelF p n else if (decide (i < 0) || (decide ((n.slots.length : Int) ≤ i) || !hasN p k)) = true then 8 else 0
def zeroSp : SpotS := ⟨0, ⟨#[]⟩, 0, 0, 0⟩
def atR (p : ProdS) (n : PanS) (i : Int) (k : ByteArray) : SpotS := if atE p n i k = 0 then spotF p n i.toNat (placeO p k) else zeroSp
theorem atE_1 {p : ProdS} {n : PanS} {i : Int} {k : ByteArray} (h : panelF p n ≠ 0) : atE p n i k = panelF p n := by rw [atE, if_pos h]
theorem atE_8 {p : ProdS} {n : PanS} {i : Int} {k : ByteArray} (h : panelF p n = 0) (h1 : (decide (i < 0) || (decide ((n.slots.length : Int) ≤ i) || !hasN p k)) = true) : atE p n i k = 8 := by rw [atE, if_neg (by omega), if_pos h1]
theorem atE_0 {p : ProdS} {n : PanS} {i : Int} {k : ByteArray} (h : panelF p n = 0) (h1 : (decide (i < 0) || (decide ((n.slots.length : Int) ≤ i) || !hasN p k)) = false) : atE p n i k = 0 := by rw [atE, if_neg (by omega), if_neg (by rw [h1]; simp)]
theorem atR_no {p : ProdS} {n : PanS} {i : Int} {k : ByteArray} (h : atE p n i k ≠ 0) : atR p n i k = zeroSp := by rw [atR, if_neg h]
theorem atR_ok {p : ProdS} {n : PanS} {i : Int} {k : ByteArray} (h : atE p n i k = 0) : atR p n i k = spotF p n i.toNat (placeO p k) := by rw [atR, if_pos h]
theorem placeE_name {p : ProdS} {i : Nat} (h : placeE p i = 0) (hi : 0 < i) : sLe (p.places.getD i default).name (p.places.getD (i - 1) default).name = false := by
 unfold placeE at h
 split at h
 ·cases h
 ·split at h
  ·cases h
  ·rename_i h2
   rw [decide_eq_true hi, Bool.true_and] at h2
   simpa using h2
theorem places_rise {p : ProdS} (h : prodF p = 0) : RiseK PlaceS.name p.places := fun j h0 hj => placeE_name ((prodOk h).all j hj) h0
theorem plX_bd {p : ProdS} {q x y : Int} (hw : 1 ≤ p.wide ∧ p.wide ≤ 500000) (hh : 1 ≤ p.high ∧ p.high ≤ 500000) (hx : 0 ≤ x ∧ x ≤ p.wide) (hy : 0 ≤ y ∧ y ≤ p.high) : (0 ≤ plX p q x y ∧ plX p q x y ≤ 500000) ∧ 0 ≤ plY p q x y ∧ plY p q x y ≤ 500000 := by
 unfold plX plY
 repeat' split
 all_goals omega
end Go.Proofs.YtceflkkgmmcieaaGreatDoor
namespace Go.Proofs.YtceflkkgmmcieaaGreatDoor
open Go.RowKit
set_option linter.unusedVariables false
set_option linter.unusedSimpArgs false
def lastP (p : ProdS) (q : Nat) : ByteArray := if q = 0 then ⟨#[]⟩ else (p.places.getD (q - 1) default).name
theorem lastP_succ (p : ProdS) (q : Nat) : lastP p (q + 1) = (p.places.getD q default).name := by simp [lastP]
theorem placeE_7' {p : ProdS} {i : Nat} (h1 : keyF (p.places.getD i default).name = true) (h2 : keyF (p.places.getD i default).part = true) (hs : sLe (p.places.getD i default).name (lastP p i) = true) : placeE p i = 7 := by
 by_cases hq : i = 0
 ·rw [lastP, if_pos hq, sLe_empty h1] at hs; cases hs
 ·rw [lastP, if_neg hq] at hs; exact placeE_7 h1 h2 (by omega) hs
theorem lastP_ne {p : ProdS} {i : Nat} (hs : sLe (p.places.getD i default).name (lastP p i) = false) : i = 0 ∨ sLe (p.places.getD i default).name (p.places.getD (i - 1) default).name = false := by
 by_cases hq : i = 0
 ·exact .inl hq
 ·rw [lastP, if_neg hq] at hs; exact .inr hs
theorem oin {n a b : Int} {v : Bool} (h : (!(decide (a ≤ n) && decide (n ≤ b))) = v) : outR n a b = v := (outR_in n a b).trans h
set_option maxRecDepth 100000 in
theorem rf_ProductFault {p : ProdS} (hs : SmP p) :
    SpecN Tryz.prog 18 [avProd p] (fun y => y = avI (prodF p)) := by
  refine SpecN.of_VCN Tryz.func18 rfl Tryz.ntmps18 (Nle rfl) fun w A hB => ?_
  have hnew : True := trivial
  refine VC.seq ?_
  have hl := hs.len
  refine VC.region ?_
  refine VO.op rfl (OpE.box rfl hB rfl rfl rfl ?_)
  intro g1
  refine VO.ma rfl rfl rfl rfl ?_
  refine VO.nil ?_
  refine VC.seq ?_
  refine VC.block ?_
  refine VC.sr ?_
  refine VO.val rfl rfl (OpV.fieldAddrO 0 rfl Tryz.underlying28 rfl rfl Tryz.sizeOf9 rfl) ?_
  refine VO.val rfl rfl (OpV.load_own (i := 0) rfl hB Tryz.isAgg9 rfl rfl rfl (fun h => h)) ?_
  refine VO.op rfl (OpE.call rfl hB rfl Tryz.call75 rfl (SpecN.spec (rf_Key (by have := hs.key; omega))) ?_)
  rintro _ rfl
  refine VO.val rfl rfl (OpV.not rfl rfl) ?_
  refine VO.ma rfl rfl rfl rfl ?_
  refine VO.nil ?_
  refine VC.cond rfl (fun k0b => ?_) (fun k0b => ?_)
  · have k0 := k0b
    try simp only [qqT, qqF, qqN, qqM, qqL, qqE] at k0
    refine VC.sr ?_
    refine VO.ma rfl rfl rfl rfl ?_
    refine VO.nil ?_
    refine VC.ret ?_
    exact Exists.intro _ (And.intro (RetN.one Tryz.results18 (ResN.v rfl)) (by rw [prodF_5 (by assumption)]))
  · have k0 := k0b
    try simp only [qqT, qqF, qqN, qqM, qqL, qqE] at k0
    refine VC.sr ?_
    refine VO.val rfl rfl (OpV.fieldAddrO 1 rfl Tryz.underlying28 rfl rfl Tryz.sizeOf3 rfl) ?_
    refine VO.val rfl rfl (OpV.load_own (i := 0) rfl hB Tryz.isAgg3 rfl rfl rfl (fun h => h)) ?_
    refine VO.op rfl (OpE.call rfl hB rfl Tryz.call76 rfl (SpecN.spec (rf_in)) ?_)
    rintro _ rfl
    refine VO.val rfl rfl (OpV.not rfl rfl) ?_
    refine VO.mv rfl rfl rfl rfl ?_
    refine VO.opG rfl rfl rfl rfl (fun aK1b => ?_) (fun aK1b => ?_)
    · replace aK1b : _ = false := aK1b
      have aK1 := aK1b
      try simp only [qqT, qqF, qqN, qqM, qqL, qqE] at aK1
      refine OpE.val (W := NoB) (OpV.fieldAddrO 2 rfl Tryz.underlying28 rfl rfl Tryz.sizeOf3 rfl) rfl ?_
      refine VO.opY rfl rfl rfl rfl aK1b ?_
      refine OpE.val (W := NoB) (OpV.load_own (i := 0) rfl hB Tryz.isAgg3 rfl rfl rfl (fun h => h)) rfl ?_
      refine VO.opY rfl rfl rfl rfl aK1b ?_
      refine OpE.call rfl hB rfl Tryz.call76 rfl (SpecN.spec (rf_in)) ?_
      rintro _ rfl
      refine VO.opY rfl rfl rfl rfl aK1b ?_
      refine OpE.val (W := NoB) (OpV.not rfl rfl) rfl ?_
      refine VO.val rfl rfl (OpV.pickF rfl rfl rfl rfl aK1b) ?_
      refine VO.ma rfl rfl rfl rfl ?_
      refine VO.nil ?_
      refine VC.cond rfl (fun aH2b => ?_) (fun aH2b => ?_)
      · have aH2 := aH2b
        try simp only [qqT, qqF, qqN, qqM, qqL, qqE] at aH2
        refine VC.sr ?_
        refine VO.ma rfl rfl rfl rfl ?_
        refine VO.nil ?_
        refine VC.ret ?_
        exact Exists.intro _ (And.intro (RetN.one Tryz.results18 (ResN.v rfl)) (by first | rw [prodF_1 k0 (or2a (oin (by assumption)))] | rw [prodF_1 k0 (or2b (oin (by assumption)))]))
      · have aH2 := aH2b
        try simp only [qqT, qqF, qqN, qqM, qqL, qqE] at aH2
        refine VC.sr ?_
        refine VO.val rfl rfl (OpV.fieldAddrO 3 rfl Tryz.underlying28 rfl rfl Tryz.sizeOf26 rfl) ?_
        refine VO.val rfl rfl (OpV.load_own (i := 0) rfl hB Tryz.isAgg26 rfl rfl rfl (fun h => h)) ?_
        refine VO.val rfl rfl (OpV.len_im rfl Tryz.underlying26 rfl) ?_
        refine VO.val rfl rfl (OpV.gtr rfl rfl rfl) ?_
        refine VO.ma rfl rfl rfl rfl ?_
        refine VO.nil ?_
        refine VC.cond rfl (fun aH3b => ?_) (fun aH3b => ?_)
        · have aH3 := aH3b
          try simp only [qqT, qqF, qqN, qqM, qqL, qqE] at aH3
          refine VC.sr ?_
          refine VO.ma rfl rfl rfl rfl ?_
          refine VO.nil ?_
          refine VC.ret ?_
          exact Exists.intro _ (And.intro (RetN.one Tryz.results18 (ResN.v rfl)) (by rw [prodF_2 k0 (or2f (oin (by assumption)) (oin (by assumption))) (by omega)]))
        · have aH3 := aH3b
          try simp only [qqT, qqF, qqN, qqM, qqL, qqE] at aH3
          refine VC.skip ?_
          refine VC.sr ?_
          refine VO.ma rfl rfl rfl rfl ?_
          refine VO.nil ?_
          refine VC.seq ?_
          refine VC.sr ?_
          refine VO.val rfl rfl (OpV.fieldAddrO 3 rfl Tryz.underlying28 rfl rfl Tryz.sizeOf26 rfl) ?_
          refine VO.val rfl rfl (OpV.load_own (i := 0) rfl hB Tryz.isAgg26 rfl rfl rfl (fun h => h)) ?_
          refine VO.val rfl rfl (OpV.len_im rfl Tryz.underlying26 rfl) ?_
          refine VO.mv rfl rfl rfl rfl ?_
          refine VO.nil ?_
          refine VC.block ?_
          refine VC.loopK [(1, _), (28, _), (29, _)] ⟨rfl, rfl, rfl, trivial⟩ ({q : Nat // q ≤ p.places.length ∧ ∀ j, j < q → placeE p j = 0}) (fun (iZ : {q : Nat // q ≤ p.places.length ∧ ∀ j, j < q → placeE p j = 0}) => match iZ with | ⟨q, hq, hn⟩ => [(3, avS (lastP p q)), (30, avI (q : Int))]) (fun (iZ : {q : Nat // q ≤ p.places.length ∧ ∀ j, j < q → placeE p j = 0}) => match iZ with | ⟨q, hq, hn⟩ => [boxProd g1 p 28]) (fun (iZ : {q : Nat // q ≤ p.places.length ∧ ∀ j, j < q → placeE p j = 0}) => match iZ with | ⟨q, hq, hn⟩ => 0) (fun (iZ : {q : Nat // q ≤ p.places.length ∧ ∀ j, j < q → placeE p j = 0}) => match iZ with | ⟨q, hq, hn⟩ => p.places.length - q) ⟨0, Nat.zero_le _, fun j hj => absurd hj (Nat.not_lt_zero j)⟩ (Le.mk hB [0] ⟨rfl, rfl, rfl, rfl, rfl, trivial⟩ rfl rfl (Nat.le_refl _)) ?_
          rintro ⟨q, hq, hn⟩
          show VC _ _ _ _ ⟨[(3, avS (lastP p q)), (30, avI (q : Int))] ++ [(1, _), (28, _), (29, _)], [boxProd g1 p 28], 0⟩
          refine VC.sr ?_
          refine VO.val rfl rfl (OpV.lss rfl rfl rfl) ?_
          refine VO.nil ?_
          refine VC.seq ?_
          refine VC.cond rfl (fun aH4b => ?_) (fun aH4b => ?_)
          · have aH4 := aH4b
            try simp only [qqT, qqF, qqN, qqM, qqL, qqE] at aH4
            refine VC.skip ?_
            refine VC.seq ?_
            refine VC.block ?_
            refine VC.sr ?_
            refine VO.val rfl rfl (OpV.indexAddr_E rfl Tryz.underlying26 Tryz.sizeOf50 rfl rfl rfl (by omega)) ?_
            refine VO.val rfl rfl (OpV.loadK_at rfl hB OutW.no Tryz.isAgg50 Tryz.sizeOf50 rfl rfl) ?_
            refine VO.op rfl (OpE.alloc rfl hB rfl Tryz.zeroValue50 rfl ?_)
            intro g5
            refine VO.op rfl (OpE.store (i := 1) rfl hB rfl Tryz.sizeOf50 rfl rfl rfl rfl rfl rfl (Nle rfl) trivial ?_)
            refine VO.nil ?_
            refine VC.seq ?_
            refine VC.block ?_
            refine VC.sr ?_
            refine VO.val rfl rfl (OpV.fieldAddrO 0 rfl Tryz.underlying50 rfl rfl Tryz.sizeOf9 rfl) ?_
            refine VO.val rfl rfl (OpV.load_own (i := 1) rfl hB Tryz.isAgg9 rfl rfl rfl (fun h => h)) ?_
            refine VO.op rfl (OpE.call rfl hB rfl Tryz.call75 rfl (SpecN.spec (rf_Key (by have := hs.name q; omega))) ?_)
            rintro _ rfl
            refine VO.val rfl rfl (OpV.not rfl rfl) ?_
            refine VO.mv rfl rfl rfl rfl ?_
            refine VO.opG rfl rfl rfl rfl (fun aK5b => ?_) (fun aK5b => ?_)
            · replace aK5b : _ = false := aK5b
              have aK5 := aK5b
              try simp only [qqT, qqF, qqN, qqM, qqL, qqE] at aK5
              refine OpE.val (W := NoB) (OpV.fieldAddrO 1 rfl Tryz.underlying50 rfl rfl Tryz.sizeOf9 rfl) rfl ?_
              refine VO.opY rfl rfl rfl rfl aK5b ?_
              refine OpE.val (W := NoB) (OpV.load_own (i := 1) rfl hB Tryz.isAgg9 rfl rfl rfl (fun h => h)) rfl ?_
              refine VO.opY rfl rfl rfl rfl aK5b ?_
              refine OpE.call rfl hB rfl Tryz.call75 rfl (SpecN.spec (rf_Key (by have := hs.part q; omega))) ?_
              rintro _ rfl
              refine VO.opY rfl rfl rfl rfl aK5b ?_
              refine OpE.val (W := NoB) (OpV.not rfl rfl) rfl ?_
              refine VO.val rfl rfl (OpV.pickF rfl rfl rfl rfl aK5b) ?_
              refine VO.ma rfl rfl rfl rfl ?_
              refine VO.nil ?_
              refine VC.cond rfl (fun aH6b => ?_) (fun aH6b => ?_)
              · have aH6 := aH6b
                try simp only [qqT, qqF, qqN, qqM, qqL, qqE] at aH6
                refine VC.sr ?_
                refine VO.ma rfl rfl rfl rfl ?_
                refine VO.nil ?_
                refine VC.ret ?_
                exact Exists.intro _ (And.intro (RetN.one Tryz.results18 (ResN.v rfl)) (by first | rw [prodF_at k0 (or2f (oin (by assumption)) (oin (by assumption))) (by omega) (by omega) hn (placeE_5a (by assumption)) (by decide)] | rw [prodF_at k0 (or2f (oin (by assumption)) (oin (by assumption))) (by omega) (by omega) hn (placeE_5b (by assumption)) (by decide)]))
              · have aH6 := aH6b
                try simp only [qqT, qqF, qqN, qqM, qqL, qqE] at aH6
                refine VC.sr ?_
                refine VO.val rfl rfl (OpV.fieldAddrO 0 rfl Tryz.underlying50 rfl rfl Tryz.sizeOf9 rfl) ?_
                refine VO.val rfl rfl (OpV.load_own (i := 1) rfl hB Tryz.isAgg9 rfl rfl rfl (fun h => h)) ?_
                refine VO.mv rfl rfl rfl rfl ?_
                refine VO.val rfl rfl (OpV.sleq rfl rfl rfl) ?_
                refine VO.ma rfl rfl rfl rfl ?_
                refine VO.nil ?_
                refine VC.cond rfl (fun aH7b => ?_) (fun aH7b => ?_)
                · have aH7 := aH7b
                  try simp only [qqT, qqF, qqN, qqM, qqL, qqE] at aH7
                  refine VC.sr ?_
                  refine VO.ma rfl rfl rfl rfl ?_
                  refine VO.nil ?_
                  refine VC.ret ?_
                  exact Exists.intro _ (And.intro (RetN.one Tryz.results18 (ResN.v rfl)) (by rw [prodF_at k0 (or2f (oin (by assumption)) (oin (by assumption))) (by omega) (by omega) hn (placeE_7' (by assumption) (by assumption) (by assumption)) (by decide)]))
                · have aH7 := aH7b
                  try simp only [qqT, qqF, qqN, qqM, qqL, qqE] at aH7
                  refine VC.sr ?_
                  refine VO.val rfl rfl (OpV.fieldAddrO 2 rfl Tryz.underlying50 rfl rfl Tryz.sizeOf3 rfl) ?_
                  refine VO.val rfl rfl (OpV.load_own (i := 1) rfl hB Tryz.isAgg3 rfl rfl rfl (fun h => h)) ?_
                  refine VO.val rfl rfl (OpV.fieldAddrO 1 rfl Tryz.underlying28 rfl rfl Tryz.sizeOf3 rfl) ?_
                  refine VO.val rfl rfl (OpV.load_own (i := 0) rfl hB Tryz.isAgg3 rfl rfl rfl (fun h => h)) ?_
                  refine VO.op rfl (OpE.call rfl hB rfl Tryz.call76 rfl (SpecN.spec (rf_in)) ?_)
                  rintro _ rfl
                  refine VO.val rfl rfl (OpV.not rfl rfl) ?_
                  refine VO.mv rfl rfl rfl rfl ?_
                  refine VO.opG rfl rfl rfl rfl (fun aK8b => ?_) (fun aK8b => ?_)
                  · replace aK8b : _ = false := aK8b
                    have aK8 := aK8b
                    try simp only [qqT, qqF, qqN, qqM, qqL, qqE] at aK8
                    refine OpE.val (W := NoB) (OpV.fieldAddrO 3 rfl Tryz.underlying50 rfl rfl Tryz.sizeOf3 rfl) rfl ?_
                    refine VO.opY rfl rfl rfl rfl aK8b ?_
                    refine OpE.val (W := NoB) (OpV.load_own (i := 1) rfl hB Tryz.isAgg3 rfl rfl rfl (fun h => h)) rfl ?_
                    refine VO.opY rfl rfl rfl rfl aK8b ?_
                    refine OpE.val (W := NoB) (OpV.fieldAddrO 2 rfl Tryz.underlying28 rfl rfl Tryz.sizeOf3 rfl) rfl ?_
                    refine VO.opY rfl rfl rfl rfl aK8b ?_
                    refine OpE.val (W := NoB) (OpV.load_own (i := 0) rfl hB Tryz.isAgg3 rfl rfl rfl (fun h => h)) rfl ?_
                    refine VO.opY rfl rfl rfl rfl aK8b ?_
                    refine OpE.call rfl hB rfl Tryz.call76 rfl (SpecN.spec (rf_in)) ?_
                    rintro _ rfl
                    refine VO.opY rfl rfl rfl rfl aK8b ?_
                    refine OpE.val (W := NoB) (OpV.not rfl rfl) rfl ?_
                    refine VO.val rfl rfl (OpV.pickF rfl rfl rfl rfl aK8b) ?_
                    refine VO.mv rfl rfl rfl rfl ?_
                    refine VO.opG rfl rfl rfl rfl (fun aK9b => ?_) (fun aK9b => ?_)
                    · replace aK9b : _ = false := aK9b
                      have aK9 := aK9b
                      try simp only [qqT, qqF, qqN, qqM, qqL, qqE] at aK9
                      refine OpE.val (W := NoB) (OpV.fieldAddrO 4 rfl Tryz.underlying50 rfl rfl Tryz.sizeOf3 rfl) rfl ?_
                      refine VO.opY rfl rfl rfl rfl aK9b ?_
                      refine OpE.val (W := NoB) (OpV.load_own (i := 1) rfl hB Tryz.isAgg3 rfl rfl rfl (fun h => h)) rfl ?_
                      refine VO.opY rfl rfl rfl rfl aK9b ?_
                      refine OpE.call rfl hB rfl Tryz.call76 rfl (SpecN.spec (rf_in)) ?_
                      rintro _ rfl
                      refine VO.opY rfl rfl rfl rfl aK9b ?_
                      refine OpE.val (W := NoB) (OpV.not rfl rfl) rfl ?_
                      refine VO.val rfl rfl (OpV.pickF rfl rfl rfl rfl aK9b) ?_
                      refine VO.ma rfl rfl rfl rfl ?_
                      refine VO.nil ?_
                      refine VC.cond rfl (fun aH10b => ?_) (fun aH10b => ?_)
                      · have aH10 := aH10b
                        try simp only [qqT, qqF, qqN, qqM, qqL, qqE] at aH10
                        refine VC.sr ?_
                        refine VO.ma rfl rfl rfl rfl ?_
                        refine VO.nil ?_
                        refine VC.ret ?_
                        exact Exists.intro _ (And.intro (RetN.one Tryz.results18 (ResN.v rfl)) (by first | rw [prodF_at k0 (or2f (oin (by assumption)) (oin (by assumption))) (by omega) (by omega) hn (placeE_1 (by assumption) (by assumption) (lastP_ne (by assumption)) (or3a (oin (by assumption)))) (by decide)] | rw [prodF_at k0 (or2f (oin (by assumption)) (oin (by assumption))) (by omega) (by omega) hn (placeE_1 (by assumption) (by assumption) (lastP_ne (by assumption)) (or3b (oin (by assumption)))) (by decide)] | rw [prodF_at k0 (or2f (oin (by assumption)) (oin (by assumption))) (by omega) (by omega) hn (placeE_1 (by assumption) (by assumption) (lastP_ne (by assumption)) (or3c (oin (by assumption)))) (by decide)]))
                      · have aH10 := aH10b
                        try simp only [qqT, qqF, qqN, qqM, qqL, qqE] at aH10
                        refine VC.skip ?_
                        refine VC.region ?_
                        refine VO.val rfl rfl (OpV.fieldAddrO 0 rfl Tryz.underlying50 rfl rfl Tryz.sizeOf9 rfl) ?_
                        refine VO.val rfl rfl (OpV.load_own (i := 1) rfl hB Tryz.isAgg9 rfl rfl rfl (fun h => h)) ?_
                        refine VO.ma rfl rfl rfl rfl ?_
                        refine VO.nil ?_
                        refine VC.region ?_
                        refine VO.val rfl rfl (OpV.add rfl rfl rfl (by unfold fits; omega)) ?_
                        refine VO.mv rfl rfl rfl rfl ?_
                        refine VO.nil ?_
                        exact Exists.intro (⟨q + 1, by omega, lt_succ_cases hn (placeE_0 (by assumption) (by assumption) (lastP_ne (by assumption)) (or3f (oin (by assumption)) (oin (by assumption)) (oin (by assumption))))⟩) (And.intro (Le.mk hB [0] ⟨(by rw [lastP_succ]; rfl), rfl, rfl, rfl, rfl, trivial⟩ rfl rfl (Nat.le_refl _)) (by first | omega | (show _ < _; omega) | (simp only []; omega)))
                    · replace aK9b : _ = true := aK9b
                      have aK9 := aK9b
                      try simp only [qqT, qqF, qqN, qqM, qqL, qqE] at aK9
                      refine VO.opX rfl rfl rfl rfl aK9b ?_
                      refine VO.opX rfl rfl rfl rfl aK9b ?_
                      refine VO.opX rfl rfl rfl rfl aK9b ?_
                      refine VO.val rfl rfl (OpV.pickT rfl rfl rfl rfl aK9b) ?_
                      refine VO.ma rfl rfl rfl rfl ?_
                      refine VO.nil ?_
                      refine VC.condT rfl rfl ?_
                      refine VC.sr ?_
                      refine VO.ma rfl rfl rfl rfl ?_
                      refine VO.nil ?_
                      refine VC.ret ?_
                      exact Exists.intro _ (And.intro (RetN.one Tryz.results18 (ResN.v rfl)) (by first | rw [prodF_at k0 (or2f (oin (by assumption)) (oin (by assumption))) (by omega) (by omega) hn (placeE_1 (by assumption) (by assumption) (lastP_ne (by assumption)) (or3a (oin (by assumption)))) (by decide)] | rw [prodF_at k0 (or2f (oin (by assumption)) (oin (by assumption))) (by omega) (by omega) hn (placeE_1 (by assumption) (by assumption) (lastP_ne (by assumption)) (or3b (oin (by assumption)))) (by decide)] | rw [prodF_at k0 (or2f (oin (by assumption)) (oin (by assumption))) (by omega) (by omega) hn (placeE_1 (by assumption) (by assumption) (lastP_ne (by assumption)) (or3c (oin (by assumption)))) (by decide)]))
                  · replace aK8b : _ = true := aK8b
                    have aK8 := aK8b
                    try simp only [qqT, qqF, qqN, qqM, qqL, qqE] at aK8
                    refine VO.opX rfl rfl rfl rfl aK8b ?_
                    refine VO.opX rfl rfl rfl rfl aK8b ?_
                    refine VO.opX rfl rfl rfl rfl aK8b ?_
                    refine VO.opX rfl rfl rfl rfl aK8b ?_
                    refine VO.opX rfl rfl rfl rfl aK8b ?_
                    refine VO.val rfl rfl (OpV.pickT rfl rfl rfl rfl aK8b) ?_
                    refine VO.mv rfl rfl rfl rfl ?_
                    refine VO.opX rfl rfl rfl rfl rfl ?_
                    refine VO.opX rfl rfl rfl rfl rfl ?_
                    refine VO.opX rfl rfl rfl rfl rfl ?_
                    refine VO.opX rfl rfl rfl rfl rfl ?_
                    refine VO.val rfl rfl (OpV.pickT rfl rfl rfl rfl rfl) ?_
                    refine VO.ma rfl rfl rfl rfl ?_
                    refine VO.nil ?_
                    refine VC.condT rfl rfl ?_
                    refine VC.sr ?_
                    refine VO.ma rfl rfl rfl rfl ?_
                    refine VO.nil ?_
                    refine VC.ret ?_
                    exact Exists.intro _ (And.intro (RetN.one Tryz.results18 (ResN.v rfl)) (by first | rw [prodF_at k0 (or2f (oin (by assumption)) (oin (by assumption))) (by omega) (by omega) hn (placeE_1 (by assumption) (by assumption) (lastP_ne (by assumption)) (or3a (oin (by assumption)))) (by decide)] | rw [prodF_at k0 (or2f (oin (by assumption)) (oin (by assumption))) (by omega) (by omega) hn (placeE_1 (by assumption) (by assumption) (lastP_ne (by assumption)) (or3b (oin (by assumption)))) (by decide)] | rw [prodF_at k0 (or2f (oin (by assumption)) (oin (by assumption))) (by omega) (by omega) hn (placeE_1 (by assumption) (by assumption) (lastP_ne (by assumption)) (or3c (oin (by assumption)))) (by decide)]))
            · replace aK5b : _ = true := aK5b
              have aK5 := aK5b
              try simp only [qqT, qqF, qqN, qqM, qqL, qqE] at aK5
              refine VO.opX rfl rfl rfl rfl aK5b ?_
              refine VO.opX rfl rfl rfl rfl aK5b ?_
              refine VO.opX rfl rfl rfl rfl aK5b ?_
              refine VO.val rfl rfl (OpV.pickT rfl rfl rfl rfl aK5b) ?_
              refine VO.ma rfl rfl rfl rfl ?_
              refine VO.nil ?_
              refine VC.condT rfl rfl ?_
              refine VC.sr ?_
              refine VO.ma rfl rfl rfl rfl ?_
              refine VO.nil ?_
              refine VC.ret ?_
              exact Exists.intro _ (And.intro (RetN.one Tryz.results18 (ResN.v rfl)) (by first | rw [prodF_at k0 (or2f (oin (by assumption)) (oin (by assumption))) (by omega) (by omega) hn (placeE_5a (by assumption)) (by decide)] | rw [prodF_at k0 (or2f (oin (by assumption)) (oin (by assumption))) (by omega) (by omega) hn (placeE_5b (by assumption)) (by decide)]))
          · have aH4 := aH4b
            try simp only [qqT, qqF, qqN, qqM, qqL, qqE] at aH4
            refine VC.exit ?_
            refine VC.sr ?_
            refine VO.ma rfl rfl rfl rfl ?_
            refine VO.nil ?_
            refine VC.ret ?_
            exact Exists.intro _ (And.intro (RetN.one Tryz.results18 (ResN.v rfl)) (by rw [prodF_ok k0 (or2f (oin (by assumption)) (oin (by assumption))) (by omega) (fun j hj => hn j (by omega))]))
    · replace aK1b : _ = true := aK1b
      have aK1 := aK1b
      try simp only [qqT, qqF, qqN, qqM, qqL, qqE] at aK1
      refine VO.opX rfl rfl rfl rfl aK1b ?_
      refine VO.opX rfl rfl rfl rfl aK1b ?_
      refine VO.opX rfl rfl rfl rfl aK1b ?_
      refine VO.val rfl rfl (OpV.pickT rfl rfl rfl rfl aK1b) ?_
      refine VO.ma rfl rfl rfl rfl ?_
      refine VO.nil ?_
      refine VC.condT rfl rfl ?_
      refine VC.sr ?_
      refine VO.ma rfl rfl rfl rfl ?_
      refine VO.nil ?_
      refine VC.ret ?_
      exact Exists.intro _ (And.intro (RetN.one Tryz.results18 (ResN.v rfl)) (by first | rw [prodF_1 k0 (or2a (oin (by assumption)))] | rw [prodF_1 k0 (or2b (oin (by assumption)))]))
end Go.Proofs.YtceflkkgmmcieaaGreatDoor
namespace Go.Proofs.YtceflkkgmmcieaaGreatDoor
open Go.RowKit
set_option linter.unusedVariables false
set_option linter.unusedSimpArgs false
set_option maxRecDepth 100000 in
theorem panel_panelFault {n : PanS} (hl : n.slots.length ≤ 1000000) :
  SpecN Tryz.prog 85 [avPan n] (fun y => y = avI (panF n)) := by
 refine SpecN.of_VCN Tryz.func85 rfl Tryz.ntmps85 (Nle rfl) fun w A hB => ?_
 have hnew : True := trivial
 refine VC.sr ?_
 refine VO.op rfl (OpE.box rfl hB rfl rfl rfl ?_)
 intro g1
 refine VO.ma rfl rfl rfl rfl ?_
 refine VO.nil ?_
 refine VC.seq ?_
 refine VC.sr ?_
 refine VO.val rfl rfl (OpV.fieldAddrO 0 rfl Tryz.underlying32 rfl rfl Tryz.sizeOf3 rfl) ?_
 refine VO.val rfl rfl (OpV.load_own (i := 0) rfl hB Tryz.isAgg3 rfl rfl rfl (fun h => h)) ?_
 refine VO.op rfl (OpE.call rfl hB rfl Tryz.call83 rfl (SpecN.spec (panel_isSize)) ?_)
 rintro _ rfl
 refine VO.val rfl rfl (OpV.not rfl rfl) ?_
 refine VO.mv rfl rfl rfl rfl ?_
 refine VO.opG rfl rfl rfl rfl (fun aK1b => ?_) (fun aK1b => ?_)
 ·replace aK1b : _ = false := aK1b
  have aK1 := aK1b
  try simp only [qqT, qqF, qqN, qqM, qqL, qqE] at aK1
  refine OpE.val (W := NoB) (OpV.fieldAddrO 1 rfl Tryz.underlying32 rfl rfl Tryz.sizeOf3 rfl) rfl ?_
  refine VO.opY rfl rfl rfl rfl aK1b ?_
  refine OpE.val (W := NoB) (OpV.load_own (i := 0) rfl hB Tryz.isAgg3 rfl rfl rfl (fun h => h)) rfl ?_
  refine VO.opY rfl rfl rfl rfl aK1b ?_
  refine OpE.call rfl hB rfl Tryz.call83 rfl (SpecN.spec (panel_isSize)) ?_
  rintro _ rfl
  refine VO.opY rfl rfl rfl rfl aK1b ?_
  refine OpE.val (W := NoB) (OpV.not rfl rfl) rfl ?_
  refine VO.val rfl rfl (OpV.pickF rfl rfl rfl rfl aK1b) ?_
  refine VO.nil ?_
  refine VC.cond rfl (fun aH2b => ?_) (fun aH2b => ?_)
  ·have aH2 := aH2b
   try simp only [qqT, qqF, qqN, qqM, qqL, qqE] at aH2
   refine VC.sr ?_
   refine VO.ma rfl rfl rfl rfl ?_
   refine VO.nil ?_
   refine VC.ret ?_
   exact Exists.intro _ (And.intro (RetN.one Tryz.results85 (ResN.v rfl)) (by first | rw [panF_1 (or2a (by assumption))] | rw [panF_1 (or2b (by assumption))]))
  ·have aH2 := aH2b
   try simp only [qqT, qqF, qqN, qqM, qqL, qqE] at aH2
   refine VC.skip ?_
   refine VC.seq ?_
   refine VC.sr ?_
   refine VO.val rfl rfl (OpV.fieldAddrO 2 rfl Tryz.underlying32 rfl rfl Tryz.sizeOf30 rfl) ?_
   refine VO.val rfl rfl (OpV.load_own (i := 0) rfl hB Tryz.isAgg30 rfl rfl rfl (fun h => h)) ?_
   refine VO.val rfl rfl (OpV.len_im rfl Tryz.underlying30 rfl) ?_
   refine VO.val rfl rfl (OpV.gtr rfl rfl rfl) ?_
   refine VO.nil ?_
   refine VC.cond rfl (fun aH3b => ?_) (fun aH3b => ?_)
   ·have aH3 := aH3b
    try simp only [qqT, qqF, qqN, qqM, qqL, qqE] at aH3
    refine VC.sr ?_
    refine VO.ma rfl rfl rfl rfl ?_
    refine VO.nil ?_
    refine VC.ret ?_
    exact Exists.intro _ (And.intro (RetN.one Tryz.results85 (ResN.v rfl)) (by rw [panF_2 (or2f (by assumption) (by assumption)) (by omega)]))
   ·have aH3 := aH3b
    try simp only [qqT, qqF, qqN, qqM, qqL, qqE] at aH3
    refine VC.skip ?_
    refine VC.seq ?_
    refine VC.sr ?_
    refine VO.val rfl rfl (OpV.fieldAddrO 2 rfl Tryz.underlying32 rfl rfl Tryz.sizeOf30 rfl) ?_
    refine VO.val rfl rfl (OpV.load_own (i := 0) rfl hB Tryz.isAgg30 rfl rfl rfl (fun h => h)) ?_
    refine VO.val rfl rfl (OpV.len_im rfl Tryz.underlying30 rfl) ?_
    refine VO.mv rfl rfl rfl rfl ?_
    refine VO.nil ?_
    refine VC.block ?_
    refine VC.loopK [(20, _), (21, _)] ⟨rfl, rfl, trivial⟩ ({q : Nat // q ≤ n.slots.length ∧ ∀ j, j < q → slotB (n.slots.getD j default) = false}) (fun (iZ : {q : Nat // q ≤ n.slots.length ∧ ∀ j, j < q → slotB (n.slots.getD j default) = false}) => match iZ with | ⟨q, hq, hn⟩ => [(22, avI (q : Int))]) (fun (iZ : {q : Nat // q ≤ n.slots.length ∧ ∀ j, j < q → slotB (n.slots.getD j default) = false}) => match iZ with | ⟨q, hq, hn⟩ => []) (fun (iZ : {q : Nat // q ≤ n.slots.length ∧ ∀ j, j < q → slotB (n.slots.getD j default) = false}) => match iZ with | ⟨q, hq, hn⟩ => 0) (fun (iZ : {q : Nat // q ≤ n.slots.length ∧ ∀ j, j < q → slotB (n.slots.getD j default) = false}) => match iZ with | ⟨q, hq, hn⟩ => n.slots.length - q) ⟨0, Nat.zero_le _, fun j hj => absurd hj (Nat.not_lt_zero j)⟩ (Le.mk hB [] ⟨rfl, rfl, rfl, trivial⟩ rfl rfl (Nat.le_refl _)) ?_
    rintro ⟨q, hq, hn⟩
    show VC _ _ _ _ ⟨[(22, avI (q : Int))] ++ [(20, _), (21, _)], [], 0⟩
    refine VC.sr ?_
    refine VO.val rfl rfl (OpV.lss rfl rfl rfl) ?_
    refine VO.nil ?_
    refine VC.seq ?_
    refine VC.cond rfl (fun aH4b => ?_) (fun aH4b => ?_)
    ·have aH4 := aH4b
     try simp only [qqT, qqF, qqN, qqM, qqL, qqE] at aH4
     refine VC.skip ?_
     refine VC.seq ?_
     refine VC.block ?_
     refine VC.sr ?_
     refine VO.val rfl rfl (OpV.indexAddr_E rfl Tryz.underlying30 Tryz.sizeOf94 rfl rfl rfl (by omega)) ?_
     refine VO.val rfl rfl (OpV.loadK_at rfl hB OutW.no Tryz.isAgg94 Tryz.sizeOf94 rfl rfl) ?_
     refine VO.op rfl (OpE.alloc rfl hB rfl Tryz.zeroValue94 rfl ?_)
     intro g4
     refine VO.op rfl (OpE.store (i := 0) rfl hB rfl Tryz.sizeOf94 rfl rfl rfl rfl rfl rfl (Nle rfl) trivial ?_)
     refine VO.nil ?_
     refine VC.sr ?_
     refine VO.val rfl rfl (OpV.fieldAddrO 0 rfl Tryz.underlying94 rfl rfl Tryz.sizeOf3 rfl) ?_
     refine VO.val rfl rfl (OpV.load_own (i := 0) rfl hB Tryz.isAgg3 rfl rfl rfl (fun h => h)) ?_
     refine VO.op rfl (OpE.call rfl hB rfl Tryz.call131 rfl (SpecN.spec (kit_Outside)) ?_)
     rintro _ rfl
     refine VO.mv rfl rfl rfl rfl ?_
     refine VO.opG rfl rfl rfl rfl (fun aK5b => ?_) (fun aK5b => ?_)
     ·replace aK5b : _ = false := aK5b
      have aK5 := aK5b
      try simp only [qqT, qqF, qqN, qqM, qqL, qqE] at aK5
      refine OpE.val (W := NoB) (OpV.fieldAddrO 1 rfl Tryz.underlying94 rfl rfl Tryz.sizeOf3 rfl) rfl ?_
      refine VO.opY rfl rfl rfl rfl aK5b ?_
      refine OpE.val (W := NoB) (OpV.load_own (i := 0) rfl hB Tryz.isAgg3 rfl rfl rfl (fun h => h)) rfl ?_
      refine VO.opY rfl rfl rfl rfl aK5b ?_
      refine OpE.call rfl hB rfl Tryz.call131 rfl (SpecN.spec (kit_Outside)) ?_
      rintro _ rfl
      refine VO.val rfl rfl (OpV.pickF rfl rfl rfl rfl aK5b) ?_
      refine VO.mv rfl rfl rfl rfl ?_
      refine VO.opG rfl rfl rfl rfl (fun aK6b => ?_) (fun aK6b => ?_)
      ·replace aK6b : _ = false := aK6b
       have aK6 := aK6b
       try simp only [qqT, qqF, qqN, qqM, qqL, qqE] at aK6
       refine OpE.val (W := NoB) (OpV.fieldAddrO 2 rfl Tryz.underlying94 rfl rfl Tryz.sizeOf3 rfl) rfl ?_
       refine VO.opY rfl rfl rfl rfl aK6b ?_
       refine OpE.val (W := NoB) (OpV.load_own (i := 0) rfl hB Tryz.isAgg3 rfl rfl rfl (fun h => h)) rfl ?_
       refine VO.opY rfl rfl rfl rfl aK6b ?_
       refine OpE.call rfl hB rfl Tryz.call131 rfl (SpecN.spec (kit_Outside)) ?_
       rintro _ rfl
       refine VO.val rfl rfl (OpV.pickF rfl rfl rfl rfl aK6b) ?_
       refine VO.nil ?_
       refine VC.cond rfl (fun aH7b => ?_) (fun aH7b => ?_)
       ·have aH7 := aH7b
        try simp only [qqT, qqF, qqN, qqM, qqL, qqE] at aH7
        refine VC.sr ?_
        refine VO.ma rfl rfl rfl rfl ?_
        refine VO.nil ?_
        refine VC.ret ?_
        exact Exists.intro _ (And.intro (RetN.one Tryz.results85 (ResN.v rfl)) (by first | rw [panF_3 (q := q) (or2f (by assumption) (by assumption)) (by omega) (by omega) (or3a (by assumption))] | rw [panF_3 (q := q) (or2f (by assumption) (by assumption)) (by omega) (by omega) (or3b (by assumption))] | rw [panF_3 (q := q) (or2f (by assumption) (by assumption)) (by omega) (by omega) (or3c (by assumption))]))
       ·have aH7 := aH7b
        try simp only [qqT, qqF, qqN, qqM, qqL, qqE] at aH7
        refine VC.skip ?_
        refine VC.region ?_
        refine VO.val rfl rfl (OpV.add rfl rfl rfl (by unfold fits; omega)) ?_
        refine VO.mv rfl rfl rfl rfl ?_
        refine VO.nil ?_
        exact Exists.intro (⟨q + 1, by omega, lt_succ_cases hn (or3f (by assumption) (by assumption) (by assumption))⟩) (And.intro (Le.mk hB [] ⟨rfl, rfl, rfl, trivial⟩ rfl rfl (Nat.le_refl _)) (by first | omega | (show _ < _; omega) | (simp only []; omega)))
      ·replace aK6b : _ = true := aK6b
       have aK6 := aK6b
       try simp only [qqT, qqF, qqN, qqM, qqL, qqE] at aK6
       refine VO.opX rfl rfl rfl rfl aK6b ?_
       refine VO.opX rfl rfl rfl rfl aK6b ?_
       refine VO.val rfl rfl (OpV.pickT rfl rfl rfl rfl aK6b) ?_
       refine VO.nil ?_
       refine VC.condT rfl rfl ?_
       refine VC.sr ?_
       refine VO.ma rfl rfl rfl rfl ?_
       refine VO.nil ?_
       refine VC.ret ?_
       exact Exists.intro _ (And.intro (RetN.one Tryz.results85 (ResN.v rfl)) (by first | rw [panF_3 (q := q) (or2f (by assumption) (by assumption)) (by omega) (by omega) (or3a (by assumption))] | rw [panF_3 (q := q) (or2f (by assumption) (by assumption)) (by omega) (by omega) (or3b (by assumption))] | rw [panF_3 (q := q) (or2f (by assumption) (by assumption)) (by omega) (by omega) (or3c (by assumption))]))
     ·replace aK5b : _ = true := aK5b
      have aK5 := aK5b
      try simp only [qqT, qqF, qqN, qqM, qqL, qqE] at aK5
      refine VO.opX rfl rfl rfl rfl aK5b ?_
      refine VO.opX rfl rfl rfl rfl aK5b ?_
      refine VO.val rfl rfl (OpV.pickT rfl rfl rfl rfl aK5b) ?_
      refine VO.mv rfl rfl rfl rfl ?_
      refine VO.opX rfl rfl rfl rfl rfl ?_
      refine VO.opX rfl rfl rfl rfl rfl ?_
      refine VO.opX rfl rfl rfl rfl rfl ?_
      refine VO.val rfl rfl (OpV.pickT rfl rfl rfl rfl rfl) ?_
      refine VO.nil ?_
      refine VC.condT rfl rfl ?_
      refine VC.sr ?_
      refine VO.ma rfl rfl rfl rfl ?_
      refine VO.nil ?_
      refine VC.ret ?_
      exact Exists.intro _ (And.intro (RetN.one Tryz.results85 (ResN.v rfl)) (by first | rw [panF_3 (q := q) (or2f (by assumption) (by assumption)) (by omega) (by omega) (or3a (by assumption))] | rw [panF_3 (q := q) (or2f (by assumption) (by assumption)) (by omega) (by omega) (or3b (by assumption))] | rw [panF_3 (q := q) (or2f (by assumption) (by assumption)) (by omega) (by omega) (or3c (by assumption))]))
    ·have aH4 := aH4b
     try simp only [qqT, qqF, qqN, qqM, qqL, qqE] at aH4
     refine VC.exit ?_
     refine VC.sr ?_
     refine VO.ma rfl rfl rfl rfl ?_
     refine VO.nil ?_
     refine VC.ret ?_
     exact Exists.intro _ (And.intro (RetN.one Tryz.results85 (ResN.v rfl)) (by rw [panF_0 (or2f (by assumption) (by assumption)) (by omega) (fun j hj => hn j (by omega))]))
 ·replace aK1b : _ = true := aK1b
  have aK1 := aK1b
  try simp only [qqT, qqF, qqN, qqM, qqL, qqE] at aK1
  refine VO.opX rfl rfl rfl rfl aK1b ?_
  refine VO.opX rfl rfl rfl rfl aK1b ?_
  refine VO.opX rfl rfl rfl rfl aK1b ?_
  refine VO.val rfl rfl (OpV.pickT rfl rfl rfl rfl aK1b) ?_
  refine VO.nil ?_
  refine VC.condT rfl rfl ?_
  refine VC.sr ?_
  refine VO.ma rfl rfl rfl rfl ?_
  refine VO.nil ?_
  refine VC.ret ?_
  exact Exists.intro _ (And.intro (RetN.one Tryz.results85 (ResN.v rfl)) (by first | rw [panF_1 (or2a (by assumption))] | rw [panF_1 (or2b (by assumption))]))
set_option maxRecDepth 100000 in
theorem rf_panelFault {n : PanS} (hl : n.slots.length ≤ 1000000) :
  SpecN Tryz.prog 77 [avPan n] (fun y => y = avI (panF n)) := by
 refine SpecN.of_VCN Tryz.func77 rfl Tryz.ntmps77 (Nle rfl) fun w A hB => ?_
 have hnew : True := trivial
 refine VC.sr ?_
 refine VO.op rfl (OpE.box rfl hB rfl rfl rfl ?_)
 intro g1
 refine VO.ma rfl rfl rfl rfl ?_
 refine VO.nil ?_
 refine VC.seq ?_
 refine VC.block ?_
 refine VC.sr ?_
 refine VO.val rfl rfl (OpV.fieldAddrO 0 rfl Tryz.underlying32 rfl rfl Tryz.sizeOf3 rfl) ?_
 refine VO.val rfl rfl (OpV.load_own (i := 0) rfl hB Tryz.isAgg3 rfl rfl rfl (fun h => h)) ?_
 refine VO.op rfl (OpE.call rfl hB rfl Tryz.call76 rfl (SpecN.spec (rf_in)) ?_)
 rintro _ rfl
 refine VO.val rfl rfl (OpV.not rfl rfl) ?_
 refine VO.mv rfl rfl rfl rfl ?_
 refine VO.opG rfl rfl rfl rfl (fun aK1b => ?_) (fun aK1b => ?_)
 ·replace aK1b : _ = false := aK1b
  have aK1 := aK1b
  try simp only [qqT, qqF, qqN, qqM, qqL, qqE] at aK1
  refine OpE.val (W := NoB) (OpV.fieldAddrO 1 rfl Tryz.underlying32 rfl rfl Tryz.sizeOf3 rfl) rfl ?_
  refine VO.opY rfl rfl rfl rfl aK1b ?_
  refine OpE.val (W := NoB) (OpV.load_own (i := 0) rfl hB Tryz.isAgg3 rfl rfl rfl (fun h => h)) rfl ?_
  refine VO.opY rfl rfl rfl rfl aK1b ?_
  refine OpE.call rfl hB rfl Tryz.call76 rfl (SpecN.spec (rf_in)) ?_
  rintro _ rfl
  refine VO.opY rfl rfl rfl rfl aK1b ?_
  refine OpE.val (W := NoB) (OpV.not rfl rfl) rfl ?_
  refine VO.val rfl rfl (OpV.pickF rfl rfl rfl rfl aK1b) ?_
  refine VO.ma rfl rfl rfl rfl ?_
  refine VO.nil ?_
  refine VC.cond rfl (fun aH2b => ?_) (fun aH2b => ?_)
  ·have aH2 := aH2b
   try simp only [qqT, qqF, qqN, qqM, qqL, qqE] at aH2
   refine VC.sr ?_
   refine VO.ma rfl rfl rfl rfl ?_
   refine VO.nil ?_
   refine VC.ret ?_
   exact Exists.intro _ (And.intro (RetN.one Tryz.results77 (ResN.v rfl)) (by first | rw [panF_1 (or2a (oin (by assumption)))] | rw [panF_1 (or2b (oin (by assumption)))]))
  ·have aH2 := aH2b
   try simp only [qqT, qqF, qqN, qqM, qqL, qqE] at aH2
   refine VC.sr ?_
   refine VO.val rfl rfl (OpV.fieldAddrO 2 rfl Tryz.underlying32 rfl rfl Tryz.sizeOf30 rfl) ?_
   refine VO.val rfl rfl (OpV.load_own (i := 0) rfl hB Tryz.isAgg30 rfl rfl rfl (fun h => h)) ?_
   refine VO.val rfl rfl (OpV.len_im rfl Tryz.underlying30 rfl) ?_
   refine VO.val rfl rfl (OpV.gtr rfl rfl rfl) ?_
   refine VO.ma rfl rfl rfl rfl ?_
   refine VO.nil ?_
   refine VC.cond rfl (fun aH3b => ?_) (fun aH3b => ?_)
   ·have aH3 := aH3b
    try simp only [qqT, qqF, qqN, qqM, qqL, qqE] at aH3
    refine VC.sr ?_
    refine VO.ma rfl rfl rfl rfl ?_
    refine VO.nil ?_
    refine VC.ret ?_
    exact Exists.intro _ (And.intro (RetN.one Tryz.results77 (ResN.v rfl)) (by rw [panF_2 (or2f (oin (by assumption)) (oin (by assumption))) (by omega)]))
   ·have aH3 := aH3b
    try simp only [qqT, qqF, qqN, qqM, qqL, qqE] at aH3
    refine VC.skip ?_
    refine VC.seq ?_
    refine VC.sr ?_
    refine VO.val rfl rfl (OpV.fieldAddrO 2 rfl Tryz.underlying32 rfl rfl Tryz.sizeOf30 rfl) ?_
    refine VO.val rfl rfl (OpV.load_own (i := 0) rfl hB Tryz.isAgg30 rfl rfl rfl (fun h => h)) ?_
    refine VO.val rfl rfl (OpV.len_im rfl Tryz.underlying30 rfl) ?_
    refine VO.mv rfl rfl rfl rfl ?_
    refine VO.nil ?_
    refine VC.block ?_
    refine VC.loopK [(22, _), (23, _)] ⟨rfl, rfl, trivial⟩ ({q : Nat // q ≤ n.slots.length ∧ ∀ j, j < q → slotB (n.slots.getD j default) = false}) (fun (iZ : {q : Nat // q ≤ n.slots.length ∧ ∀ j, j < q → slotB (n.slots.getD j default) = false}) => match iZ with | ⟨q, hq, hn⟩ => [(24, avI (q : Int))]) (fun (iZ : {q : Nat // q ≤ n.slots.length ∧ ∀ j, j < q → slotB (n.slots.getD j default) = false}) => match iZ with | ⟨q, hq, hn⟩ => []) (fun (iZ : {q : Nat // q ≤ n.slots.length ∧ ∀ j, j < q → slotB (n.slots.getD j default) = false}) => match iZ with | ⟨q, hq, hn⟩ => 0) (fun (iZ : {q : Nat // q ≤ n.slots.length ∧ ∀ j, j < q → slotB (n.slots.getD j default) = false}) => match iZ with | ⟨q, hq, hn⟩ => n.slots.length - q) ⟨0, Nat.zero_le _, fun j hj => absurd hj (Nat.not_lt_zero j)⟩ (Le.mk hB [] ⟨rfl, rfl, rfl, trivial⟩ rfl rfl (Nat.le_refl _)) ?_
    rintro ⟨q, hq, hn⟩
    show VC _ _ _ _ ⟨[(24, avI (q : Int))] ++ [(22, _), (23, _)], [], 0⟩
    refine VC.sr ?_
    refine VO.val rfl rfl (OpV.lss rfl rfl rfl) ?_
    refine VO.nil ?_
    refine VC.seq ?_
    refine VC.cond rfl (fun aH4b => ?_) (fun aH4b => ?_)
    ·have aH4 := aH4b
     try simp only [qqT, qqF, qqN, qqM, qqL, qqE] at aH4
     refine VC.skip ?_
     refine VC.seq ?_
     refine VC.block ?_
     refine VC.sr ?_
     refine VO.val rfl rfl (OpV.indexAddr_E rfl Tryz.underlying30 Tryz.sizeOf94 rfl rfl rfl (by omega)) ?_
     refine VO.val rfl rfl (OpV.loadK_at rfl hB OutW.no Tryz.isAgg94 Tryz.sizeOf94 rfl rfl) ?_
     refine VO.op rfl (OpE.alloc rfl hB rfl Tryz.zeroValue94 rfl ?_)
     intro g4
     refine VO.op rfl (OpE.store (i := 0) rfl hB rfl Tryz.sizeOf94 rfl rfl rfl rfl rfl rfl (Nle rfl) trivial ?_)
     refine VO.nil ?_
     refine VC.sr ?_
     refine VO.val rfl rfl (OpV.fieldAddrO 0 rfl Tryz.underlying94 rfl rfl Tryz.sizeOf3 rfl) ?_
     refine VO.val rfl rfl (OpV.load_own (i := 0) rfl hB Tryz.isAgg3 rfl rfl rfl (fun h => h)) ?_
     refine VO.op rfl (OpE.call rfl hB rfl Tryz.call76 rfl (SpecN.spec (rf_in)) ?_)
     rintro _ rfl
     refine VO.val rfl rfl (OpV.not rfl rfl) ?_
     refine VO.mv rfl rfl rfl rfl ?_
     refine VO.opG rfl rfl rfl rfl (fun aK5b => ?_) (fun aK5b => ?_)
     ·replace aK5b : _ = false := aK5b
      have aK5 := aK5b
      try simp only [qqT, qqF, qqN, qqM, qqL, qqE] at aK5
      refine OpE.val (W := NoB) (OpV.fieldAddrO 1 rfl Tryz.underlying94 rfl rfl Tryz.sizeOf3 rfl) rfl ?_
      refine VO.opY rfl rfl rfl rfl aK5b ?_
      refine OpE.val (W := NoB) (OpV.load_own (i := 0) rfl hB Tryz.isAgg3 rfl rfl rfl (fun h => h)) rfl ?_
      refine VO.opY rfl rfl rfl rfl aK5b ?_
      refine OpE.call rfl hB rfl Tryz.call76 rfl (SpecN.spec (rf_in)) ?_
      rintro _ rfl
      refine VO.opY rfl rfl rfl rfl aK5b ?_
      refine OpE.val (W := NoB) (OpV.not rfl rfl) rfl ?_
      refine VO.val rfl rfl (OpV.pickF rfl rfl rfl rfl aK5b) ?_
      refine VO.mv rfl rfl rfl rfl ?_
      refine VO.opG rfl rfl rfl rfl (fun aK6b => ?_) (fun aK6b => ?_)
      ·replace aK6b : _ = false := aK6b
       have aK6 := aK6b
       try simp only [qqT, qqF, qqN, qqM, qqL, qqE] at aK6
       refine OpE.val (W := NoB) (OpV.fieldAddrO 2 rfl Tryz.underlying94 rfl rfl Tryz.sizeOf3 rfl) rfl ?_
       refine VO.opY rfl rfl rfl rfl aK6b ?_
       refine OpE.val (W := NoB) (OpV.load_own (i := 0) rfl hB Tryz.isAgg3 rfl rfl rfl (fun h => h)) rfl ?_
       refine VO.opY rfl rfl rfl rfl aK6b ?_
       refine OpE.call rfl hB rfl Tryz.call76 rfl (SpecN.spec (rf_in)) ?_
       rintro _ rfl
       refine VO.opY rfl rfl rfl rfl aK6b ?_
       refine OpE.val (W := NoB) (OpV.not rfl rfl) rfl ?_
       refine VO.val rfl rfl (OpV.pickF rfl rfl rfl rfl aK6b) ?_
       refine VO.nil ?_
       refine VC.cond rfl (fun aH7b => ?_) (fun aH7b => ?_)
       ·have aH7 := aH7b
        try simp only [qqT, qqF, qqN, qqM, qqL, qqE] at aH7
        refine VC.sr ?_
        refine VO.ma rfl rfl rfl rfl ?_
        refine VO.nil ?_
        refine VC.ret ?_
        exact Exists.intro _ (And.intro (RetN.one Tryz.results77 (ResN.v rfl)) (by first | rw [panF_3 (q := q) (or2f (oin (by assumption)) (oin (by assumption))) (by omega) (by omega) (or3a (oin (by assumption)))] | rw [panF_3 (q := q) (or2f (oin (by assumption)) (oin (by assumption))) (by omega) (by omega) (or3b (oin (by assumption)))] | rw [panF_3 (q := q) (or2f (oin (by assumption)) (oin (by assumption))) (by omega) (by omega) (or3c (oin (by assumption)))]))
       ·have aH7 := aH7b
        try simp only [qqT, qqF, qqN, qqM, qqL, qqE] at aH7
        refine VC.skip ?_
        refine VC.region ?_
        refine VO.val rfl rfl (OpV.add rfl rfl rfl (by unfold fits; omega)) ?_
        refine VO.mv rfl rfl rfl rfl ?_
        refine VO.nil ?_
        exact Exists.intro (⟨q + 1, by omega, lt_succ_cases hn (or3f (oin (by assumption)) (oin (by assumption)) (oin (by assumption)))⟩) (And.intro (Le.mk hB [] ⟨rfl, rfl, rfl, trivial⟩ rfl rfl (Nat.le_refl _)) (by first | omega | (show _ < _; omega) | (simp only []; omega)))
      ·replace aK6b : _ = true := aK6b
       have aK6 := aK6b
       try simp only [qqT, qqF, qqN, qqM, qqL, qqE] at aK6
       refine VO.opX rfl rfl rfl rfl aK6b ?_
       refine VO.opX rfl rfl rfl rfl aK6b ?_
       refine VO.opX rfl rfl rfl rfl aK6b ?_
       refine VO.val rfl rfl (OpV.pickT rfl rfl rfl rfl aK6b) ?_
       refine VO.nil ?_
       refine VC.condT rfl rfl ?_
       refine VC.sr ?_
       refine VO.ma rfl rfl rfl rfl ?_
       refine VO.nil ?_
       refine VC.ret ?_
       exact Exists.intro _ (And.intro (RetN.one Tryz.results77 (ResN.v rfl)) (by first | rw [panF_3 (q := q) (or2f (oin (by assumption)) (oin (by assumption))) (by omega) (by omega) (or3a (oin (by assumption)))] | rw [panF_3 (q := q) (or2f (oin (by assumption)) (oin (by assumption))) (by omega) (by omega) (or3b (oin (by assumption)))] | rw [panF_3 (q := q) (or2f (oin (by assumption)) (oin (by assumption))) (by omega) (by omega) (or3c (oin (by assumption)))]))
     ·replace aK5b : _ = true := aK5b
      have aK5 := aK5b
      try simp only [qqT, qqF, qqN, qqM, qqL, qqE] at aK5
      refine VO.opX rfl rfl rfl rfl aK5b ?_
      refine VO.opX rfl rfl rfl rfl aK5b ?_
      refine VO.opX rfl rfl rfl rfl aK5b ?_
      refine VO.val rfl rfl (OpV.pickT rfl rfl rfl rfl aK5b) ?_
      refine VO.mv rfl rfl rfl rfl ?_
      refine VO.opX rfl rfl rfl rfl rfl ?_
      refine VO.opX rfl rfl rfl rfl rfl ?_
      refine VO.opX rfl rfl rfl rfl rfl ?_
      refine VO.opX rfl rfl rfl rfl rfl ?_
      refine VO.val rfl rfl (OpV.pickT rfl rfl rfl rfl rfl) ?_
      refine VO.nil ?_
      refine VC.condT rfl rfl ?_
      refine VC.sr ?_
      refine VO.ma rfl rfl rfl rfl ?_
      refine VO.nil ?_
      refine VC.ret ?_
      exact Exists.intro _ (And.intro (RetN.one Tryz.results77 (ResN.v rfl)) (by first | rw [panF_3 (q := q) (or2f (oin (by assumption)) (oin (by assumption))) (by omega) (by omega) (or3a (oin (by assumption)))] | rw [panF_3 (q := q) (or2f (oin (by assumption)) (oin (by assumption))) (by omega) (by omega) (or3b (oin (by assumption)))] | rw [panF_3 (q := q) (or2f (oin (by assumption)) (oin (by assumption))) (by omega) (by omega) (or3c (oin (by assumption)))]))
    ·have aH4 := aH4b
     try simp only [qqT, qqF, qqN, qqM, qqL, qqE] at aH4
     refine VC.exit ?_
     refine VC.sr ?_
     refine VO.ma rfl rfl rfl rfl ?_
     refine VO.nil ?_
     refine VC.ret ?_
     exact Exists.intro _ (And.intro (RetN.one Tryz.results77 (ResN.v rfl)) (by rw [panF_0 (or2f (oin (by assumption)) (oin (by assumption))) (by omega) (fun j hj => hn j (by omega))]))
 ·replace aK1b : _ = true := aK1b
  have aK1 := aK1b
  try simp only [qqT, qqF, qqN, qqM, qqL, qqE] at aK1
  refine VO.opX rfl rfl rfl rfl aK1b ?_
  refine VO.opX rfl rfl rfl rfl aK1b ?_
  refine VO.opX rfl rfl rfl rfl aK1b ?_
  refine VO.val rfl rfl (OpV.pickT rfl rfl rfl rfl aK1b) ?_
  refine VO.ma rfl rfl rfl rfl ?_
  refine VO.nil ?_
  refine VC.condT rfl rfl ?_
  refine VC.sr ?_
  refine VO.ma rfl rfl rfl rfl ?_
  refine VO.nil ?_
  refine VC.ret ?_
  exact Exists.intro _ (And.intro (RetN.one Tryz.results77 (ResN.v rfl)) (by first | rw [panF_1 (or2a (oin (by assumption)))] | rw [panF_1 (or2b (oin (by assumption)))]))
set_option maxRecDepth 100000 in
theorem panel_CheckPanel {p : ProdS} {n : PanS} (hs : SmP p) (hl : n.slots.length ≤ 1000000) :
  SpecN Tryz.prog 27 [avProd p, avPan n] (fun y => y = avI (panelF p n)) := by
 refine SpecN.of_VCN Tryz.func27 rfl Tryz.ntmps27 (Nle rfl) fun w A hB => ?_
 have hnew : True := trivial
 refine VC.sr ?_
 refine VO.op rfl (OpE.box rfl hB rfl rfl rfl ?_)
 intro g2
 refine VO.op rfl (OpE.box rfl hB rfl rfl rfl ?_)
 intro g3
 refine VO.ma rfl rfl rfl rfl ?_
 refine VO.nil ?_
 refine VC.seq ?_
 refine VC.sr ?_
 refine VO.val rfl rfl (OpV.loadK_own (i := 0) rfl hB Tryz.isAgg28 Tryz.sizeOf28 rfl rfl rfl (fun h => h)) ?_
 refine VO.op rfl (OpE.call rfl hB rfl Tryz.call26 rfl (SpecN.spec (panel_CheckProduct hs)) ?_)
 rintro _ rfl
 refine VO.ma rfl rfl rfl rfl ?_
 refine VO.nil ?_
 refine VC.sr ?_
 refine VO.mv rfl rfl rfl rfl ?_
 refine VO.val rfl rfl (OpV.neq rfl rfl rfl) ?_
 refine VO.nil ?_
 refine VC.cond rfl (fun h0b => ?_) (fun h0b => ?_)
 ·have h0 := h0b
  try simp only [qqT, qqF, qqN, qqM, qqL, qqE] at h0
  refine VC.sr ?_
  refine VO.mv rfl rfl rfl rfl ?_
  refine VO.ma rfl rfl rfl rfl ?_
  refine VO.nil ?_
  refine VC.ret ?_
  exact Exists.intro _ (And.intro (RetN.one Tryz.results27 (ResN.v rfl)) (by first | rw [panelF, if_pos h0] | rw [panelF, if_neg h0]))
 ·have h0 := h0b
  try simp only [qqT, qqF, qqN, qqM, qqL, qqE] at h0
  refine VC.skip ?_
  refine VC.sr ?_
  refine VO.val rfl rfl (OpV.loadK_own (i := 1) rfl hB Tryz.isAgg32 Tryz.sizeOf32 rfl rfl rfl (fun h => h)) ?_
  refine VO.op rfl (OpE.call rfl hB rfl Tryz.call85 rfl (SpecN.spec (panel_panelFault hl)) ?_)
  rintro _ rfl
  refine VO.ma rfl rfl rfl rfl ?_
  refine VO.nil ?_
  refine VC.ret ?_
  exact Exists.intro _ (And.intro (RetN.one Tryz.results27 (ResN.v rfl)) (by first | rw [panelF, if_pos h0] | rw [panelF, if_neg h0]))
set_option maxRecDepth 100000 in
theorem rf_PanelFault {p : ProdS} {n : PanS} (hs : SmP p) (hl : n.slots.length ≤ 1000000) :
  SpecN Tryz.prog 19 [avProd p, avPan n] (fun y => y = avI (panelF p n)) := by
 refine SpecN.of_VCN Tryz.func19 rfl Tryz.ntmps19 (Nle rfl) fun w A hB => ?_
 have hnew : True := trivial
 refine VC.sr ?_
 refine VO.op rfl (OpE.box rfl hB rfl rfl rfl ?_)
 intro g2
 refine VO.op rfl (OpE.box rfl hB rfl rfl rfl ?_)
 intro g3
 refine VO.ma rfl rfl rfl rfl ?_
 refine VO.nil ?_
 refine VC.seq ?_
 refine VC.sr ?_
 refine VO.val rfl rfl (OpV.loadK_own (i := 0) rfl hB Tryz.isAgg28 Tryz.sizeOf28 rfl rfl rfl (fun h => h)) ?_
 refine VO.op rfl (OpE.call rfl hB rfl Tryz.call18 rfl (SpecN.spec (rf_ProductFault hs)) ?_)
 rintro _ rfl
 refine VO.ma rfl rfl rfl rfl ?_
 refine VO.nil ?_
 refine VC.sr ?_
 refine VO.mv rfl rfl rfl rfl ?_
 refine VO.val rfl rfl (OpV.neq rfl rfl rfl) ?_
 refine VO.nil ?_
 refine VC.cond rfl (fun h0b => ?_) (fun h0b => ?_)
 ·have h0 := h0b
  try simp only [qqT, qqF, qqN, qqM, qqL, qqE] at h0
  refine VC.sr ?_
  refine VO.mv rfl rfl rfl rfl ?_
  refine VO.ma rfl rfl rfl rfl ?_
  refine VO.nil ?_
  refine VC.ret ?_
  exact Exists.intro _ (And.intro (RetN.one Tryz.results19 (ResN.v rfl)) (by first | rw [panelF, if_pos h0] | rw [panelF, if_neg h0]))
 ·have h0 := h0b
  try simp only [qqT, qqF, qqN, qqM, qqL, qqE] at h0
  refine VC.skip ?_
  refine VC.sr ?_
  refine VO.val rfl rfl (OpV.loadK_own (i := 1) rfl hB Tryz.isAgg32 Tryz.sizeOf32 rfl rfl rfl (fun h => h)) ?_
  refine VO.op rfl (OpE.call rfl hB rfl Tryz.call77 rfl (SpecN.spec (rf_panelFault hl)) ?_)
  rintro _ rfl
  refine VO.ma rfl rfl rfl rfl ?_
  refine VO.nil ?_
  refine VC.ret ?_
  exact Exists.intro _ (And.intro (RetN.one Tryz.results19 (ResN.v rfl)) (by first | rw [panelF, if_pos h0] | rw [panelF, if_neg h0]))
end Go.Proofs.YtceflkkgmmcieaaGreatDoor
namespace Go.Proofs.YtceflkkgmmcieaaGreatDoor
open Go.RowKit
set_option linter.unusedVariables false
set_option linter.unusedSimpArgs false
section
variable {P : Program} {B : Bs} {s : St'} {o : Oper} {K : St' → Prop} {V : Nat → Nat → Prop} {ops : Array Oper} {Q : Exit → St' → Prop} {n N : Nat} {L : Array Bool}
def VN (P : Program) (B : Bs) (V : Nat → Nat → Prop) (ops : Array Oper) (Q : Exit → St' → Prop) (n : Nat) (L : Array Bool) (s : St') (N : Nat) : Prop :=
 ∀ a w, R B s a w → w.heap.size = N → wpAnyE P .any ops (fun a w => ∃ s, Q .normal s ∧ R B s a w) (fun j => Ew B (V j)) n L a w
def VM (P : Program) (B : Bs) (V : Nat → Nat → Prop) (ops : Array Oper) (Q : Exit → St' → Prop) (n : Nat) (L : Array Bool) (s : St') (N : Nat) : Prop :=
 ∀ a w, R B s a w → N ≤ w.heap.size → wpAnyE P .any ops (fun a w => ∃ s, Q .normal s ∧ R B s a w) (fun j => Ew B (V j)) n L a w
def OpVN (P : Program) (B : Bs) (W : Nat → Prop) (s : St') (o : Oper) (x : AV) (N : Nat) : Prop :=
 ∀ a w, R B s a w → w.heap.size = N → ∃ v, (∀ w', Chg (fun b => B.str b ∨ W b) w w' → (execOp a.eval o).run P w' = .ok (.value v) w') ∧ Rep w (Zn B s.hp w) x v
theorem OpVN.of {W : Nat → Prop} {x : AV} (h : OpV P B W s o x) : OpVN P B W s o x N := fun a w hr _ => h a w hr
theorem new_keep {W : Nat → Prop} (hB : B.Ok) {a : Act} {w w' : World} (hr : R B s a w) (hW : ∀ b, W b → w.heap.size ≤ b) (hc : Chg (fun b => B.str b ∨ W b) w w') {b : Nat} (hZ : Zn B s.hp w b) : w'.heap[b]? = w.heap[b]? := by
 refine hc.block b hZ.1 ?_
 rintro (h | h)
 ·obtain ⟨h1, h2⟩ := hB.str b h
  exact (hZ.2.2 (hB.low b h1)).2 h
 ·exact absurd hZ.1 (Nat.not_lt.2 (hW b h))
theorem OpVN.loadK_at {W : Nat → Prop} {x : Operand} {t m k : Nat} {F : Nat → AV} (ho : o.op = .load t x) (hB : B.Ok) (hW : ∀ b, W b → N ≤ b) (hag : ∀ w, (isAgg t).run P w = .ok true w) (hsz : ∀ w, (sizeOf t).run P w = .ok k w) (hx : evO s x = some (.at_ m F)) (hm : Nat.ble k m = true) : OpVN P B W s o (.agg (tab k F)) N := by
 intro a w hr hN
 have := hr.ev hx
 generalize hv : a.eval x = u at this
 have hm' := Nat.le_of_ble_eq_true hm
 cases this with
 | at_ m f' b off c e u hZ hb hc hr' =>
  refine ⟨.agg ((List.range k).map u).toArray, fun w' hcw => ?_, .agg _ _ (by simp [tab_len]) fun j hj => ?_⟩
  ·have hb' := (new_keep hB hr (fun b h => hN ▸ hW b h) hcw hZ).trans hb
   have hcell : ∀ j v, ((List.range k).map u)[j]? = some v → w'.cell? ((⟨b, off, none⟩ : Addr).add j) = some v := by
    intro j v hj
    simp only [List.getElem?_map, Option.map_eq_some_iff] at hj
    obtain ⟨q, hq, rfl⟩ := hj
    obtain ⟨hlt, hq'⟩ := List.getElem?_eq_some_iff.1 hq
    simp at hlt hq'
    subst hq'
    rw [Addr.add_lit]
    simpa [World.cell?, hb'] using hc j (by omega)
   have hl := run_loadCells_list (P := P) w' ⟨b, off, none⟩ _ hcell
   simp only [List.length_map, List.length_range] at hl
   simp only [execOp, ho, hv, Instr.loadAt, Instr.sureAddr, loadVar, hag, hsz, hl, Sem.run_bind, Sem.run_pure, Result.andThen_ok, if_true]
  ·rw [tab_len] at hj
   rw [tab_get]
   simp [hj]
   exact hr' j (by omega)
theorem VN.take {i : Nat} {x : AV} (hi : ops[i]? = some o) (hs : Region.noSelect ops = true) (hf : Region.free .any ops L i = true) (hr : (Region.ready .any ops L).contains i = true) (hg : o.guard = none) (hd : okd B.nt o.dst = true)
  (hv : OpVN P B (Wi V ops i) s o x N) (h : VN P B V ops Q n (L.setIfInBounds i true) (s.put o.dst x) N) : VN P B V ops Q (n + 1) L s N := fun a w hR hN => by
 obtain ⟨v, h1, h2⟩ := hv a w hR hN
 exact wpAnyE_first (F := Ew B (Wi V ops i)) Ew.tr Ew.rf (fun x => Ew.rf x) Wi.of hi (Region.noSelect_spec hs) n L a w (Region.free_spec hi hf) (by simpa using hr) (.inl ⟨by simp [Region.wanted, hg], h1⟩) (h _ _ (hR.put _ hd _ _ h2) hN)
theorem VM.take {i : Nat} {x : AV} (hi : ops[i]? = some o) (hs : Region.noSelect ops = true) (hf : Region.free .any ops L i = true) (hr : (Region.ready .any ops L).contains i = true) (hg : o.guard = none) (hd : okd B.nt o.dst = true)
  (hv : OpV P B (Wi V ops i) s o x) (h : VM P B V ops Q n (L.setIfInBounds i true) (s.put o.dst x) N) : VM P B V ops Q (n + 1) L s N := fun a w hR hN => by
 obtain ⟨v, h1, h2⟩ := hv a w hR
 exact wpAnyE_first (F := Ew B (Wi V ops i)) Ew.tr Ew.rf (fun x => Ew.rf x) Wi.of hi (Region.noSelect_spec hs) n L a w (Region.free_spec hi hf) (by simpa using hr) (.inl ⟨by simp [Region.wanted, hg], h1⟩) (h _ _ (hR.put _ hd _ _ h2) hN)
theorem VM.done (hr : Region.ready .any ops L = []) (h : Q .normal s) : VM P B V ops Q n L s N := fun a w hR _ => by
 cases n with
 | zero => exact ⟨hr, s, h, hR⟩
 | succ n => exact ⟨fun _ => ⟨s, h, hR⟩, by rw [hr]; simp⟩
def OpM (P : Program) (B : Bs) (W : Nat → Prop) (s : St') (o : Oper) (K : St' → Prop) (N : Nat) : Prop :=
 ∀ a w, R B s a w → N ≤ w.heap.size → ∀ (next : Act → World → Prop) (Qx : Exit → Act → World → Prop), (∀ s' a' w', K s' → R B s' a' w' → Ew B W w w' → next a' w') → o.wp P a w next Qx
theorem OpM.alloc {W : Nat → Prop} {e : TypeId} {z : Value} {cs : List AV} (ho : o.op = .alloc e) (hB : B.Ok) (hd : okd B.nt o.dst = true) (hz : ∀ w, (zeroValue e).run P w = .ok z w) (hcs : cellsOf (.v z) = cs)
  (hK : ∀ g, N ≤ g → K ((St'.mk s.sl (s.hp ++ [.box g ⟨cs, e, cs.length⟩]) s.k).put o.dst (.v (.pointer (some ⟨g, 0, none⟩))))) : OpM P B W s o K N := by
 subst hcs
 intro a w hr hN next Qx hn
 have h1 := hr.newBox hB _ e _ (Rep.cells (.v z) rfl)
 unfold Oper.wp
 simp only [execOp, ho, Instr.alloc, newVar, newRow, Sem.run_bind, hz, run_newObj_alloc, Result.andThen_ok, Sem.run_pure]
 exact hn _ _ _ (hK _ hN) (h1.put _ hd _ _ (.v _)) (.ofN ((Chg.refl _ _).alloc _))
def EachM (P : Program) (B : Bs) (V : Nat → Nat → Prop) (ops : Array Oper) (Q : Exit → St' → Prop) (n : Nat) (L : Array Bool) (s : St') (N : Nat) : List Nat → Prop
 | [] => True
 | i :: r => (∃ o, ops[i]? = some o ∧ o.guard = none ∧ OpM P B (V i) s o (fun s' => VM P B V ops Q n (L.setIfInBounds i true) s' N) N) ∧ EachM P B V ops Q n L s N r
theorem VM.all {rs : List Nat} (hr : Region.ready .any ops L = rs) (hne : rs ≠ []) (h : EachM P B V ops Q n L s N rs) : VM P B V ops Q (n + 1) L s N := fun a w hR hN => by
 refine ⟨fun h0 => absurd (hr ▸ h0) hne, fun i hi => ?_⟩
 rw [hr] at hi
 have key : ∀ rs, EachM P B V ops Q n L s N rs → i ∈ rs → ∃ o, ops[i]? = some o ∧ o.guard = none ∧ OpM P B (V i) s o (fun s' => VM P B V ops Q n (L.setIfInBounds i true) s' N) N := by
  intro rs
  induction rs with
  | nil => intro _ h; simp at h
  | cons j r ih =>
   intro h hi
   rcases List.mem_cons.1 hi with rfl | hi
   ·exact h.1
   ·exact ih h.2 hi
 obtain ⟨o, ho, hg, hop⟩ := key rs h hi
 unfold wpOp
 simp only [ho]
 have hwant : Region.wanted o (yielded ops a.tmps) = true := by simp [Region.wanted, hg]
 rw [if_pos hwant]
 exact .inl (hop a w hR hN _ _ fun s' a' w' k1 k2 k3 => ⟨k3, k1 a' w' k2 (Nat.le_trans hN k3.size)⟩)
theorem VM.le {s' : St'} (h : Le B s s') (k : VM P B V ops Q n L s' N) : VM P B V ops Q n L s N := fun a w hr => k a w (h a w hr)
end
end Go.Proofs.YtceflkkgmmcieaaGreatDoor
namespace Go.Proofs.YtceflkkgmmcieaaGreatDoor
open Go.RowKit
set_option linter.unusedVariables false
set_option linter.unusedSimpArgs false
theorem flat_spot (xs : List SpotS) : FlatA (rowL xs) := flat_rowL (fun x j hj => by
 match j, hj with
 | 0, _ => exact ⟨_, rfl⟩
 | 1, _ => exact ⟨_, rfl⟩
 | 2, _ => exact ⟨_, rfl⟩
 | 3, _ => exact ⟨_, rfl⟩
 | 4, _ => exact ⟨_, rfl⟩) xs
set_option maxRecDepth 100000 in
theorem panel_turned {p : ProdS} {q cx cy : Int} (hw : 1 ≤ p.wide ∧ p.wide ≤ 500000) (hh : 1 ≤ p.high ∧ p.high ≤ 500000) (hq : 0 ≤ q ∧ q ≤ 3) (hx : 0 ≤ cx ∧ cx ≤ p.wide) (hy : 0 ≤ cy ∧ cy ≤ p.high) :
  SpecN Tryz.prog 124 [avProd p, avI q, avI cx, avI cy] (fun y => y = .tup [avI (plX p q cx cy), avI (plY p q cx cy)]) := by
 refine SpecN.of_VCN Tryz.func124 rfl Tryz.ntmps124 (Nle rfl) fun w A hB => ?_
 have hnew : True := trivial
 refine VC.sr ?_
 refine VO.op rfl (OpE.box rfl hB rfl rfl rfl ?_)
 intro g4
 refine VO.ma rfl rfl rfl rfl ?_
 refine VO.ma rfl rfl rfl rfl ?_
 refine VO.nil ?_
 refine VC.seq ?_
 refine VC.sr ?_
 refine VO.mv rfl rfl rfl rfl ?_
 refine VO.nil ?_
 refine VC.block ?_
 refine VC.sr ?_
 refine VO.val rfl rfl (OpV.eql rfl rfl rfl) ?_
 refine VO.ma rfl rfl rfl rfl ?_
 refine VO.nil ?_
 refine VC.cond rfl (fun h0b => ?_) (fun h0b => ?_)
 ·have h0 := h0b
  try simp only [qqT, qqF, qqN, qqM, qqL, qqE] at h0
  refine VC.sr ?_
  refine VO.val rfl rfl (OpV.fieldAddrO 2 rfl Tryz.underlying28 rfl rfl Tryz.sizeOf3 rfl) ?_
  refine VO.val rfl rfl (OpV.load_own (i := 0) rfl hB Tryz.isAgg3 rfl rfl rfl (fun h => h)) ?_
  refine VO.mv rfl rfl rfl rfl ?_
  refine VO.val rfl rfl (OpV.sub rfl rfl rfl (by unfold fits; omega)) ?_
  refine VO.mv rfl rfl rfl rfl ?_
  refine VO.ma rfl rfl rfl rfl ?_
  refine VO.ma rfl rfl rfl rfl ?_
  refine VO.nil ?_
  refine VC.ret ?_
  exact Exists.intro _ (And.intro (RetN.two Tryz.results124 (ResN.v rfl) (ResN.v rfl)) (by rw [h0]; rfl))
 ·have h0 := h0b
  try simp only [qqT, qqF, qqN, qqM, qqL, qqE] at h0
  refine VC.sr ?_
  refine VO.val rfl rfl (OpV.eql rfl rfl rfl) ?_
  refine VO.ma rfl rfl rfl rfl ?_
  refine VO.nil ?_
  refine VC.cond rfl (fun h1b => ?_) (fun h1b => ?_)
  ·have h1 := h1b
   try simp only [qqT, qqF, qqN, qqM, qqL, qqE] at h1
   refine VC.seq ?_
   refine VC.draw (fun _ => NoB) hB (by kernel_rfl) ?_
   refine VA.take (i := 0) rfl (by kernel_rfl) (by kernel_rfl) (by kernel_rfl) rfl rfl (OpV.fieldAddrO 1 rfl Tryz.underlying28 rfl rfl Tryz.sizeOf3 rfl) ?_
   refine VA.take (i := 1) rfl (by kernel_rfl) (by kernel_rfl) (by kernel_rfl) rfl rfl (OpV.load_own (i := 0) rfl hB Tryz.isAgg3 rfl rfl rfl Wi.not0) ?_
   refine VA.take (i := 2) rfl (by kernel_rfl) (by kernel_rfl) (by kernel_rfl) rfl rfl (OpV.move (.inl rfl) rfl) ?_
   refine VA.take (i := 3) rfl (by kernel_rfl) (by kernel_rfl) (by kernel_rfl) rfl rfl (OpV.sub rfl rfl rfl (by unfold fits; omega)) ?_
   refine VA.take (i := 4) rfl (by kernel_rfl) (by kernel_rfl) (by kernel_rfl) rfl rfl (OpV.fieldAddrO 2 rfl Tryz.underlying28 rfl rfl Tryz.sizeOf3 rfl) ?_
   refine VA.take (i := 5) rfl (by kernel_rfl) (by kernel_rfl) (by kernel_rfl) rfl rfl (OpV.load_own (i := 0) rfl hB Tryz.isAgg3 rfl rfl rfl Wi.not0) ?_
   refine VA.take (i := 6) rfl (by kernel_rfl) (by kernel_rfl) (by kernel_rfl) rfl rfl (OpV.move (.inl rfl) rfl) ?_
   refine VA.take (i := 7) rfl (by kernel_rfl) (by kernel_rfl) (by kernel_rfl) rfl rfl (OpV.sub rfl rfl rfl (by unfold fits; omega)) ?_
   refine VA.take (i := 8) rfl (by kernel_rfl) (by kernel_rfl) (by kernel_rfl) rfl rfl (OpV.move (.inr rfl) rfl) ?_
   refine VA.take (i := 9) rfl (by kernel_rfl) (by kernel_rfl) (by kernel_rfl) rfl rfl (OpV.move (.inr rfl) rfl) ?_
   refine VA.done (by kernel_rfl) ?_
   refine VC.ret ?_
   exact Exists.intro _ (And.intro (RetN.two Tryz.results124 (ResN.v rfl) (ResN.v rfl)) (by rw [h1]; rfl))
  ·have h1 := h1b
   try simp only [qqT, qqF, qqN, qqM, qqL, qqE] at h1
   refine VC.sr ?_
   refine VO.val rfl rfl (OpV.eql rfl rfl rfl) ?_
   refine VO.ma rfl rfl rfl rfl ?_
   refine VO.nil ?_
   refine VC.cond rfl (fun h2b => ?_) (fun h2b => ?_)
   ·have h2 := h2b
    try simp only [qqT, qqF, qqN, qqM, qqL, qqE] at h2
    refine VC.seq ?_
    refine VC.draw (fun _ => NoB) hB (by kernel_rfl) ?_
    refine VA.take (i := 0) rfl (by kernel_rfl) (by kernel_rfl) (by kernel_rfl) rfl rfl (OpV.move (.inl rfl) rfl) ?_
    refine VA.take (i := 1) rfl (by kernel_rfl) (by kernel_rfl) (by kernel_rfl) rfl rfl (OpV.fieldAddrO 1 rfl Tryz.underlying28 rfl rfl Tryz.sizeOf3 rfl) ?_
    refine VA.take (i := 2) rfl (by kernel_rfl) (by kernel_rfl) (by kernel_rfl) rfl rfl (OpV.load_own (i := 0) rfl hB Tryz.isAgg3 rfl rfl rfl Wi.not0) ?_
    refine VA.take (i := 3) rfl (by kernel_rfl) (by kernel_rfl) (by kernel_rfl) rfl rfl (OpV.move (.inl rfl) rfl) ?_
    refine VA.take (i := 4) rfl (by kernel_rfl) (by kernel_rfl) (by kernel_rfl) rfl rfl (OpV.sub rfl rfl rfl (by unfold fits; omega)) ?_
    refine VA.take (i := 5) rfl (by kernel_rfl) (by kernel_rfl) (by kernel_rfl) rfl rfl (OpV.move (.inr rfl) rfl) ?_
    refine VA.take (i := 6) rfl (by kernel_rfl) (by kernel_rfl) (by kernel_rfl) rfl rfl (OpV.move (.inr rfl) rfl) ?_
    refine VA.done (by kernel_rfl) ?_
    refine VC.ret ?_
    exact Exists.intro _ (And.intro (RetN.two Tryz.results124 (ResN.v rfl) (ResN.v rfl)) (by rw [h2]; rfl))
   ·have h2 := h2b
    try simp only [qqT, qqF, qqN, qqM, qqL, qqE] at h2
    refine VC.skip ?_
    refine VC.sr ?_
    refine VO.mv rfl rfl rfl rfl ?_
    refine VO.mv rfl rfl rfl rfl ?_
    refine VO.ma rfl rfl rfl rfl ?_
    refine VO.ma rfl rfl rfl rfl ?_
    refine VO.nil ?_
    refine VC.ret ?_
    exact Exists.intro _ (And.intro (RetN.two Tryz.results124 (ResN.v rfl) (ResN.v rfl)) (by rw [show q = 0 by omega]; rfl))
set_option maxRecDepth 100000 in
theorem panel_placementAt1 {x : PlaceS} {k : ByteArray}  :
  SpecN Tryz.prog 122 [avT x, avS k] (fun y => y = avI (cmpB x.name k)) := by
 refine SpecN.of_VCN Tryz.func122 rfl Tryz.ntmps122 (Nle rfl) fun w A hB => ?_
 have hnew : True := trivial
 refine VC.sr ?_
 refine VO.op rfl (OpE.box rfl hB rfl rfl rfl ?_)
 intro g2
 refine VO.ma rfl rfl rfl rfl ?_
 refine VO.nil ?_
 refine VC.sr ?_
 refine VO.val rfl rfl (OpV.fieldAddrO 0 rfl Tryz.underlying50 rfl rfl Tryz.sizeOf9 rfl) ?_
 refine VO.val rfl rfl (OpV.load_own (i := 0) rfl hB Tryz.isAgg9 rfl rfl rfl (fun h => h)) ?_
 refine VO.mv rfl rfl rfl rfl ?_
 refine VO.op rfl (OpE.call rfl hB rfl Tryz.call123 rfl (SpecN.spec (strings_Compare_S)) ?_)
 rintro _ rfl
 refine VO.ma rfl rfl rfl rfl ?_
 refine VO.nil ?_
 refine VC.ret ?_
 exact Exists.intro _ (And.intro (RetN.one Tryz.results122 (ResN.v rfl)) (rfl))
set_option maxRecDepth 100000 in
theorem bsf_place {xs : List PlaceS} {t : ByteArray} {F : FuncId} {cs : List AV} {c : PlaceS → Int} {s0 : Nat} (hl : xs.length ≤ 1000000) (hcall : ∀ us w, (callFunc F us).run Tryz.prog w = .ok (.enter F us) w) (hF : ∀ x, Spec Tryz.prog F ([avT x, avS t] ++ cs) (fun y => y = avI (c x))) (hs : s0 ≤ xs.length) (hlo : ∀ j, j < s0 → c (xs.getD j default) < 0) (hhi : ∀ j, s0 ≤ j → j < xs.length → 0 ≤ c (xs.getD j default)) :
  SpecN Tryz.prog 121 [avL xs, avS t, .fn F cs] (fun y => y = .tup [avI (s0 : Int), avB (decide (s0 < xs.length) && decide (c (xs.getD s0 default) = 0))]) := by
 refine SpecN.of_VCN Tryz.func121 rfl Tryz.ntmps121 (Nle rfl) fun w A hB => ?_
 have hnew : True := trivial
 refine VC.sr ?_
 refine VO.ma rfl rfl rfl rfl ?_
 refine VO.ma rfl rfl rfl rfl ?_
 refine VO.nil ?_
 refine VC.sr ?_
 refine VO.mv rfl rfl rfl rfl ?_
 refine VO.val rfl rfl (OpV.len_im rfl Tryz.underlying26 rfl) ?_
 refine VO.ma rfl rfl rfl rfl ?_
 refine VO.nil ?_
 refine VC.sr ?_
 refine VO.mv rfl rfl rfl rfl ?_
 refine VO.ma rfl rfl rfl rfl ?_
 refine VO.ma rfl rfl rfl rfl ?_
 refine VO.nil ?_
 refine VC.seq ?_
 refine VC.block ?_
 refine VC.loopK [(0, _), (1, _), (2, _), (8, _)] ⟨rfl, rfl, rfl, rfl, trivial⟩ ({z : Nat × Nat // z.1 ≤ s0 ∧ s0 ≤ z.2 ∧ z.2 ≤ xs.length}) (fun (iZ : {z : Nat × Nat // z.1 ≤ s0 ∧ s0 ≤ z.2 ∧ z.2 ≤ xs.length}) => match iZ with | ⟨⟨i, j⟩, h1, h2, h3⟩ => [(9, avI (i : Int)), (10, avI (j : Int))]) (fun (iZ : {z : Nat × Nat // z.1 ≤ s0 ∧ s0 ≤ z.2 ∧ z.2 ≤ xs.length}) => match iZ with | ⟨⟨i, j⟩, h1, h2, h3⟩ => []) (fun (iZ : {z : Nat × Nat // z.1 ≤ s0 ∧ s0 ≤ z.2 ∧ z.2 ≤ xs.length}) => match iZ with | ⟨⟨i, j⟩, h1, h2, h3⟩ => 0) (fun (iZ : {z : Nat × Nat // z.1 ≤ s0 ∧ s0 ≤ z.2 ∧ z.2 ≤ xs.length}) => match iZ with | ⟨⟨i, j⟩, h1, h2, h3⟩ => j - i) ⟨(0, xs.length), Nat.zero_le _, hs, Nat.le_refl _⟩ (Le.mk hB [] ⟨rfl, rfl, rfl, rfl, rfl, rfl, trivial⟩ rfl rfl (Nat.le_refl _)) ?_
 rintro ⟨⟨i, j⟩, h1, h2, h3⟩
 show VC _ _ _ _ ⟨[(9, avI (i : Int)), (10, avI (j : Int))] ++ [(0, _), (1, _), (2, _), (8, _)], [], 0⟩
 simp only at h1 h2 h3
 refine VC.seq ?_
 refine VC.sr ?_
 refine VO.mv rfl rfl rfl rfl ?_
 refine VO.mv rfl rfl rfl rfl ?_
 refine VO.val rfl rfl (OpV.lss rfl rfl rfl) ?_
 refine VO.nil ?_
 refine VC.cond rfl (fun aH1b => ?_) (fun aH1b => ?_)
 ·have aH1 := aH1b
  try simp only [qqT, qqF, qqN, qqM, qqL, qqE] at aH1
  refine VC.skip ?_
  refine VC.block ?_
  refine VC.sr ?_
  refine VO.mv rfl rfl rfl rfl ?_
  refine VO.mv rfl rfl rfl rfl ?_
  refine VO.val rfl rfl (OpV.add rfl rfl rfl (by unfold fits; omega)) ?_
  refine VO.val rfl rfl (OpV.conv rfl Tryz.underlying3 Tryz.underlying247 rfl (IntWalk.u64_in _ (by omega))) ?_
  refine VO.val rfl rfl (OpV.shr1 rfl rfl rfl rfl (by omega)) ?_
  refine VO.val rfl rfl (OpV.conv rfl Tryz.underlying247 Tryz.underlying3 rfl (IntWalk.i64_in _ (by omega))) ?_
  refine VO.ma rfl rfl rfl rfl ?_
  refine VO.nil ?_
  refine VC.sr ?_
  refine VO.mv rfl rfl rfl rfl ?_
  refine VO.mv rfl rfl rfl rfl ?_
  refine VO.mv rfl rfl rfl rfl ?_
  refine VO.val rfl rfl (OpV.indexAddr_E rfl Tryz.underlying26 Tryz.sizeOf50 rfl rfl (Int.toNat_of_nonneg (by omega)).symm (by omega)) ?_
  refine VO.val rfl rfl (OpV.loadK_at rfl hB OutW.no Tryz.isAgg50 Tryz.sizeOf50 rfl rfl) ?_
  refine VO.mv rfl rfl rfl rfl ?_
  refine VO.op rfl (OpE.callF rfl hB rfl hcall rfl rfl (hF _) ?_)
  rintro _ rfl
  refine VO.val rfl rfl (OpV.lss rfl rfl rfl) ?_
  refine VO.nil ?_
  refine VC.cond rfl (fun hcb => ?_) (fun hcb => ?_)
  ·have hc := hcb
   try simp only [qqT, qqF, qqN, qqM, qqL, qqE] at hc
   refine VC.region ?_
   refine VO.mv rfl rfl rfl rfl ?_
   refine VO.val rfl rfl (OpV.add rfl rfl rfl (by unfold fits; omega)) ?_
   refine VO.ma rfl rfl rfl rfl ?_
   refine VO.nil ?_
   exact Exists.intro (⟨((((i : Int) + j) / 2).toNat + 1, j), bsf_lo hhi (by omega) hc, h2, h3⟩) (And.intro (Le.mk hB [] ⟨(by first | rfl | exact congrArg (fun z => some (avI z)) (by omega)), (by first | rfl | exact congrArg (fun z => some (avI z)) (by omega)), rfl, rfl, rfl, rfl, trivial⟩ rfl rfl (Nat.le_refl _)) (by first | omega | (show _ < _; omega) | (simp only []; omega)))
  ·have hc := hcb
   try simp only [qqT, qqF, qqN, qqM, qqL, qqE] at hc
   refine VC.region ?_
   refine VO.mv rfl rfl rfl rfl ?_
   refine VO.ma rfl rfl rfl rfl ?_
   refine VO.nil ?_
   exact Exists.intro (⟨(i, (((i : Int) + j) / 2).toNat), h1, bsf_hi (h := (((i : Int) + j) / 2).toNat) hlo hc, by show _ ≤ xs.length; omega⟩) (And.intro (Le.mk hB [] ⟨(by first | rfl | exact congrArg (fun z => some (avI z)) (by omega)), (by first | rfl | exact congrArg (fun z => some (avI z)) (by omega)), rfl, rfl, rfl, rfl, trivial⟩ rfl rfl (Nat.le_refl _)) (by first | omega | (show _ < _; omega) | (simp only []; omega)))
 ·have aH1 := aH1b
  try simp only [qqT, qqF, qqN, qqM, qqL, qqE] at aH1
  obtain rfl : i = s0 := by omega
  refine VC.exit ?_
  refine VC.sr ?_
  refine VO.mv rfl rfl rfl rfl ?_
  refine VO.mv rfl rfl rfl rfl ?_
  refine VO.mv rfl rfl rfl rfl ?_
  refine VO.val rfl rfl (OpV.lss rfl rfl rfl) ?_
  refine VO.mv rfl rfl rfl rfl ?_
  refine VO.opG rfl rfl rfl rfl (fun aK2b => ?_) (fun aK2b => ?_)
  ·replace aK2b : _ = true := aK2b
   have aK2 := aK2b
   try simp only [qqT, qqF, qqN, qqM, qqL, qqE] at aK2
   refine OpE.val (W := NoB) (OpV.move (.inl rfl) rfl) rfl ?_
   refine VO.opY rfl rfl rfl rfl aK2b ?_
   refine OpE.val (W := NoB) (OpV.move (.inl rfl) rfl) rfl ?_
   refine VO.opY rfl rfl rfl rfl aK2b ?_
   refine OpE.val (W := NoB) (OpV.move (.inl rfl) rfl) rfl ?_
   refine VO.opY rfl rfl rfl rfl aK2b ?_
   refine OpE.val (W := NoB) (OpV.indexAddr_E rfl Tryz.underlying26 Tryz.sizeOf50 rfl rfl rfl (by omega)) rfl ?_
   refine VO.opY rfl rfl rfl rfl aK2b ?_
   refine OpE.val (W := NoB) (OpV.loadK_at rfl hB OutW.no Tryz.isAgg50 Tryz.sizeOf50 rfl rfl) rfl ?_
   refine VO.opY rfl rfl rfl rfl aK2b ?_
   refine OpE.val (W := NoB) (OpV.move (.inl rfl) rfl) rfl ?_
   refine VO.opY rfl rfl rfl rfl aK2b ?_
   refine OpE.callF rfl hB rfl hcall rfl rfl (hF _) ?_
   rintro _ rfl
   refine VO.opY rfl rfl rfl rfl aK2b ?_
   refine OpE.val (W := NoB) (OpV.eql rfl rfl rfl) rfl ?_
   refine VO.val rfl rfl (OpV.pickT rfl rfl rfl rfl aK2b) ?_
   refine VO.ma rfl rfl rfl rfl ?_
   refine VO.ma rfl rfl rfl rfl ?_
   refine VO.nil ?_
   refine VC.ret ?_
   exact Exists.intro _ (And.intro (RetN.two Tryz.results121 (ResN.v rfl) (ResN.v rfl)) (by first | (rw [decide_eq_true (show i < xs.length by omega)]; rfl) | (rw [decide_eq_false (show ¬ i < xs.length by omega)]; rfl)))
  ·replace aK2b : _ = false := aK2b
   have aK2 := aK2b
   try simp only [qqT, qqF, qqN, qqM, qqL, qqE] at aK2
   refine VO.opX rfl rfl rfl rfl aK2b ?_
   refine VO.opX rfl rfl rfl rfl aK2b ?_
   refine VO.opX rfl rfl rfl rfl aK2b ?_
   refine VO.opX rfl rfl rfl rfl aK2b ?_
   refine VO.opX rfl rfl rfl rfl aK2b ?_
   refine VO.opX rfl rfl rfl rfl aK2b ?_
   refine VO.opX rfl rfl rfl rfl aK2b ?_
   refine VO.val rfl rfl (OpV.pickF rfl rfl rfl rfl aK2b) ?_
   refine VO.ma rfl rfl rfl rfl ?_
   refine VO.ma rfl rfl rfl rfl ?_
   refine VO.nil ?_
   refine VC.ret ?_
   exact Exists.intro _ (And.intro (RetN.two Tryz.results121 (ResN.v rfl) (ResN.v rfl)) (by first | (rw [decide_eq_true (show i < xs.length by omega)]; rfl) | (rw [decide_eq_false (show ¬ i < xs.length by omega)]; rfl)))
set_option maxRecDepth 100000 in
theorem panel_placementAt {l : List PlaceS} {k : ByteArray} (hl : l.length ≤ 1000000) (hr : RiseK PlaceS.name l) :
  SpecN Tryz.prog 73 [avL l, avS k] (fun y => y = .tup [avI (lowK PlaceS.name l k : Int), avB (l.any fun x => sEq x.name k)]) := by
 refine SpecN.of_VCN Tryz.func73 rfl Tryz.ntmps73 (Nle rfl) fun w A hB => ?_
 have hnew : True := trivial
 refine VC.sr ?_
 refine VO.ma rfl rfl rfl rfl ?_
 refine VO.ma rfl rfl rfl rfl ?_
 refine VO.nil ?_
 refine VC.sr ?_
 refine VO.mv rfl rfl rfl rfl ?_
 refine VO.mv rfl rfl rfl rfl ?_
 refine VO.op rfl (OpE.callL rfl hB rfl Tryz.call121 (bsf_place (c := fun x => cmpB x.name k) (s0 := lowK PlaceS.name l k) hl Tryz.call122 (fun x => panel_placementAt1.spec) lowK_le (lowK_cmp hr).1 (lowK_cmp hr).2) (ArgsP.cons (ArgP.ev rfl) (ArgsP.cons (ArgP.ev rfl) (ArgsP.cons (ArgP.fn0 rfl) (ArgsP.nil)))) ?_)
 rintro _ rfl
 refine VO.val rfl rfl (OpV.extract rfl rfl rfl) ?_
 refine VO.val rfl rfl (OpV.extract rfl rfl rfl) ?_
 refine VO.ma rfl rfl rfl rfl ?_
 refine VO.ma rfl rfl rfl rfl ?_
 refine VO.nil ?_
 refine VC.ret ?_
 exact Exists.intro _ (And.intro (RetN.two Tryz.results73 (ResN.v rfl) (ResN.v rfl)) (by rw [← lowK_any hr, ← cmp_zero]))
set_option maxRecDepth 100000 in
set_option maxHeartbeats 2000000 in
theorem panel_spot {p : ProdS} {n : PanS} {i : Nat} {c : PlaceS} (hw : 1 ≤ p.wide ∧ p.wide ≤ 500000) (hh : 1 ≤ p.high ∧ p.high ≤ 500000) (hi : i < n.slots.length) (hs : (0 ≤ (n.slots.getD i default).x ∧ (n.slots.getD i default).x ≤ 500000) ∧ (0 ≤ (n.slots.getD i default).y ∧ (n.slots.getD i default).y ≤ 500000) ∧ 0 ≤ (n.slots.getD i default).quarter ∧ (n.slots.getD i default).quarter ≤ 3) (hc : (0 ≤ c.x ∧ c.x ≤ p.wide) ∧ (0 ≤ c.y ∧ c.y ≤ p.high) ∧ 0 ≤ c.quarter ∧ c.quarter ≤ 3) :
  SpecN Tryz.prog 74 [avProd p, avPan n, avI (i : Int), avPl c] (fun y => y = avSpot (spotF p n i c)) := by
 refine SpecN.of_VCN Tryz.func74 rfl Tryz.ntmps74 (Nle rfl) fun w A hB => ?_
 have hnew : True := trivial
 refine VC.seq ?_
 have hb := plX_bd (q := (n.slots.getD i default).quarter) hw hh hc.1 hc.2.1
 have h4 := Int.tmod_eq_emod_of_nonneg (a := (n.slots.getD i default).quarter + c.quarter) (b := 4) (by omega)
 refine VC.region ?_
 refine VO.op rfl (OpE.box rfl hB rfl rfl rfl ?_)
 intro g4
 refine VO.op rfl (OpE.box rfl hB rfl rfl rfl ?_)
 intro g5
 refine VO.op rfl (OpE.box rfl hB rfl rfl rfl ?_)
 intro g7
 refine VO.op rfl (OpE.alloc rfl hB rfl Tryz.zeroValue41 rfl ?_)
 intro g8
 refine VO.nil ?_
 refine VC.sr ?_
 refine VO.val rfl rfl (OpV.fieldAddrO 2 rfl Tryz.underlying32 rfl rfl Tryz.sizeOf30 rfl) ?_
 refine VO.val rfl rfl (OpV.load_own (i := 1) rfl hB Tryz.isAgg30 rfl rfl rfl (fun h => h)) ?_
 refine VO.mv rfl rfl rfl rfl ?_
 refine VO.val rfl rfl (OpV.indexAddr_E rfl Tryz.underlying30 Tryz.sizeOf94 rfl rfl rfl (by omega)) ?_
 refine VO.val rfl rfl (OpV.loadK_at rfl hB OutW.no Tryz.isAgg94 Tryz.sizeOf94 rfl rfl) ?_
 refine VO.op rfl (OpE.alloc rfl hB rfl Tryz.zeroValue94 rfl ?_)
 intro g9
 refine VO.op rfl (OpE.store (i := 4) rfl hB rfl Tryz.sizeOf94 rfl rfl rfl rfl rfl rfl (Nle rfl) trivial ?_)
 refine VO.nil ?_
 refine VC.sr ?_
 refine VO.val rfl rfl (OpV.loadK_own (i := 0) rfl hB Tryz.isAgg28 Tryz.sizeOf28 rfl rfl rfl (fun h => h)) ?_
 refine VO.val rfl rfl (OpV.fieldAddrO 2 rfl Tryz.underlying94 rfl rfl Tryz.sizeOf3 rfl) ?_
 refine VO.val rfl rfl (OpV.load_own (i := 4) rfl hB Tryz.isAgg3 rfl rfl rfl (fun h => h)) ?_
 refine VO.val rfl rfl (OpV.fieldAddrO 2 rfl Tryz.underlying50 rfl rfl Tryz.sizeOf3 rfl) ?_
 refine VO.val rfl rfl (OpV.load_own (i := 2) rfl hB Tryz.isAgg3 rfl rfl rfl (fun h => h)) ?_
 refine VO.val rfl rfl (OpV.fieldAddrO 3 rfl Tryz.underlying50 rfl rfl Tryz.sizeOf3 rfl) ?_
 refine VO.val rfl rfl (OpV.load_own (i := 2) rfl hB Tryz.isAgg3 rfl rfl rfl (fun h => h)) ?_
 refine VO.op rfl (OpE.call rfl hB rfl Tryz.call124 rfl (SpecN.spec (panel_turned hw hh hs.2.2 hc.1 hc.2.1)) ?_)
 rintro _ rfl
 refine VO.mv rfl rfl rfl rfl ?_
 refine VO.val rfl rfl (OpV.extract rfl rfl rfl) ?_
 refine VO.val rfl rfl (OpV.extract rfl rfl rfl) ?_
 refine VO.ma rfl rfl rfl rfl ?_
 refine VO.ma rfl rfl rfl rfl ?_
 refine VO.nil ?_
 refine VC.sr ?_
 refine VO.mv rfl rfl rfl rfl ?_
 refine VO.val rfl rfl (OpV.fieldAddrO 0 rfl Tryz.underlying50 rfl rfl Tryz.sizeOf9 rfl) ?_
 refine VO.val rfl rfl (OpV.load_own (i := 2) rfl hB Tryz.isAgg9 rfl rfl rfl (fun h => h)) ?_
 refine VO.val rfl rfl (OpV.fieldAddrO 0 rfl Tryz.underlying94 rfl rfl Tryz.sizeOf3 rfl) ?_
 refine VO.val rfl rfl (OpV.load_own (i := 4) rfl hB Tryz.isAgg3 rfl rfl rfl (fun h => h)) ?_
 refine VO.mv rfl rfl rfl rfl ?_
 refine VO.val rfl rfl (OpV.add rfl rfl rfl (by unfold fits; omega)) ?_
 refine VO.val rfl rfl (OpV.fieldAddrO 1 rfl Tryz.underlying94 rfl rfl Tryz.sizeOf3 rfl) ?_
 refine VO.val rfl rfl (OpV.load_own (i := 4) rfl hB Tryz.isAgg3 rfl rfl rfl (fun h => h)) ?_
 refine VO.mv rfl rfl rfl rfl ?_
 refine VO.val rfl rfl (OpV.add rfl rfl rfl (by unfold fits; omega)) ?_
 refine VO.val rfl rfl (OpV.fieldAddrO 2 rfl Tryz.underlying94 rfl rfl Tryz.sizeOf3 rfl) ?_
 refine VO.val rfl rfl (OpV.load_own (i := 4) rfl hB Tryz.isAgg3 rfl rfl rfl (fun h => h)) ?_
 refine VO.val rfl rfl (OpV.fieldAddrO 4 rfl Tryz.underlying50 rfl rfl Tryz.sizeOf3 rfl) ?_
 refine VO.val rfl rfl (OpV.load_own (i := 2) rfl hB Tryz.isAgg3 rfl rfl rfl (fun h => h)) ?_
 refine VO.val rfl rfl (OpV.add rfl rfl rfl (by unfold fits; omega)) ?_
 refine VO.val rfl rfl (OpV.rem rfl rfl rfl (by omega) (by unfold fits; omega)) ?_
 refine VO.val rfl rfl (OpV.build (pls := #[(0, 1), (1, 1), (2, 1), (3, 1), (4, 1)]) rfl Tryz.zeroValue41 Tryz.underlying41 (fun w => by kernel_rfl) rfl rfl) ?_
 refine VO.op rfl (OpE.store (i := 3) rfl hB rfl Tryz.sizeOf41 rfl rfl rfl rfl rfl rfl (Nle rfl) trivial ?_)
 refine VO.nil ?_
 refine VC.ret ?_
 exact Exists.intro _ (And.intro (RetN.one Tryz.results74 ((by first | exact ResN.cellF (i := 0) Tryz.isAgg41 Tryz.sizeOf41 rfl rfl rfl (flat_ofB rfl) | exact ResN.cellF (i := 1) Tryz.isAgg41 Tryz.sizeOf41 rfl rfl rfl (flat_ofB rfl) | exact ResN.cellF (i := 2) Tryz.isAgg41 Tryz.sizeOf41 rfl rfl rfl (flat_ofB rfl) | exact ResN.cellF (i := 3) Tryz.isAgg41 Tryz.sizeOf41 rfl rfl rfl (flat_ofB rfl) | exact ResN.cellF (i := 4) Tryz.isAgg41 Tryz.sizeOf41 rfl rfl rfl (flat_ofB rfl)))) (rfl))
set_option maxRecDepth 100000 in
set_option maxHeartbeats 4000000 in
theorem panel_At {p : ProdS} {n : PanS} {i : Int} {k : ByteArray} (hs : SmP p) (hl : n.slots.length ≤ 1000000) :
  SpecN Tryz.prog 16 [avProd p, avPan n, avI i, avS k] (fun y => y = .tup [avSpot (atR p n i k), avI (atE p n i k)]) := by
 refine SpecN.of_VCN Tryz.func16 rfl Tryz.ntmps16 (Nle rfl) fun w A hB => ?_
 have hnew : True := trivial
 refine VC.seq ?_
 have hpl := hs.len
 refine VC.region ?_
 refine VO.op rfl (OpE.box rfl hB rfl rfl rfl ?_)
 intro g4
 refine VO.op rfl (OpE.box rfl hB rfl rfl rfl ?_)
 intro g5
 refine VO.op rfl (OpE.alloc rfl hB rfl Tryz.zeroValue41 rfl ?_)
 intro g8
 refine VO.ma rfl rfl rfl rfl ?_
 refine VO.nil ?_
 refine VC.seq ?_
 refine VC.sr ?_
 refine VO.val rfl rfl (OpV.loadK_own (i := 0) rfl hB Tryz.isAgg28 Tryz.sizeOf28 rfl rfl rfl (fun h => h)) ?_
 refine VO.val rfl rfl (OpV.loadK_own (i := 1) rfl hB Tryz.isAgg32 Tryz.sizeOf32 rfl rfl rfl (fun h => h)) ?_
 refine VO.op rfl (OpE.call rfl hB rfl Tryz.call27 rfl (SpecN.spec (panel_CheckPanel hs hl)) ?_)
 rintro _ rfl
 refine VO.ma rfl rfl rfl rfl ?_
 refine VO.nil ?_
 refine VC.sr ?_
 refine VO.mv rfl rfl rfl rfl ?_
 refine VO.val rfl rfl (OpV.neq rfl rfl rfl) ?_
 refine VO.nil ?_
 refine VC.cond rfl (fun h0b => ?_) (fun h0b => ?_)
 ·have h0 := h0b
  try simp only [qqT, qqF, qqN, qqM, qqL, qqE] at h0
  refine VC.sr ?_
  refine VO.val rfl rfl (OpV.build (pls := #[(0, 1), (1, 1), (2, 1), (3, 1), (4, 1)]) rfl Tryz.zeroValue41 Tryz.underlying41 (fun w => by kernel_rfl) rfl rfl) ?_
  refine VO.mv rfl rfl rfl rfl ?_
  refine VO.op rfl (OpE.store (i := 2) rfl hB rfl Tryz.sizeOf41 rfl rfl rfl rfl rfl rfl (Nle rfl) trivial ?_)
  refine VO.ma rfl rfl rfl rfl ?_
  refine VO.nil ?_
  refine VC.ret ?_
  exact Exists.intro _ (And.intro (RetN.two Tryz.results16 ((by first | exact ResN.cellF (i := 0) Tryz.isAgg41 Tryz.sizeOf41 rfl rfl rfl (flat_ofB rfl) | exact ResN.cellF (i := 1) Tryz.isAgg41 Tryz.sizeOf41 rfl rfl rfl (flat_ofB rfl) | exact ResN.cellF (i := 2) Tryz.isAgg41 Tryz.sizeOf41 rfl rfl rfl (flat_ofB rfl))) (ResN.v rfl)) (by rw [atR_no (by rw [atE_1 h0]; exact h0), atE_1 h0]; rfl))
 ·have h0 := h0b
  try simp only [qqT, qqF, qqN, qqM, qqL, qqE] at h0
  have h00 : panelF p n = 0 := by omega
  have hz := panelF_0 h00
  have hok := prodOk hz.1
  have hpn := panOk hz.2
  refine VC.skip ?_
  refine VC.sr ?_
  refine VO.val rfl rfl (OpV.fieldAddrO 3 rfl Tryz.underlying28 rfl rfl Tryz.sizeOf26 rfl) ?_
  refine VO.val rfl rfl (OpV.load_own (i := 0) rfl hB Tryz.isAgg26 rfl rfl rfl (fun h => h)) ?_
  refine VO.mv rfl rfl rfl rfl ?_
  refine VO.op rfl (OpE.call rfl hB rfl Tryz.call73 rfl (SpecN.spec (panel_placementAt (by omega) (places_rise hz.1))) ?_)
  rintro _ rfl
  refine VO.mv rfl rfl rfl rfl ?_
  refine VO.val rfl rfl (OpV.extract rfl rfl rfl) ?_
  refine VO.val rfl rfl (OpV.extract rfl rfl rfl) ?_
  refine VO.ma rfl rfl rfl rfl ?_
  refine VO.ma rfl rfl rfl rfl ?_
  refine VO.nil ?_
  refine VC.seq ?_
  refine VC.sr ?_
  refine VO.mv rfl rfl rfl rfl ?_
  refine VO.val rfl rfl (OpV.lss rfl rfl rfl) ?_
  refine VO.mv rfl rfl rfl rfl ?_
  refine VO.opG rfl rfl rfl rfl (fun aK1b => ?_) (fun aK1b => ?_)
  ·replace aK1b : _ = false := aK1b
   have aK1 := aK1b
   try simp only [qqT, qqF, qqN, qqM, qqL, qqE] at aK1
   refine OpE.val (W := NoB) (OpV.move (.inl rfl) rfl) rfl ?_
   refine VO.opY rfl rfl rfl rfl aK1b ?_
   refine OpE.val (W := NoB) (OpV.fieldAddrO 2 rfl Tryz.underlying32 rfl rfl Tryz.sizeOf30 rfl) rfl ?_
   refine VO.opY rfl rfl rfl rfl aK1b ?_
   refine OpE.val (W := NoB) (OpV.load_own (i := 1) rfl hB Tryz.isAgg30 rfl rfl rfl (fun h => h)) rfl ?_
   refine VO.opY rfl rfl rfl rfl aK1b ?_
   refine OpE.val (W := NoB) (OpV.len_im rfl Tryz.underlying30 rfl) rfl ?_
   refine VO.opY rfl rfl rfl rfl aK1b ?_
   refine OpE.val (W := NoB) (OpV.geq rfl rfl rfl) rfl ?_
   refine VO.val rfl rfl (OpV.pickF rfl rfl rfl rfl aK1b) ?_
   refine VO.mv rfl rfl rfl rfl ?_
   refine VO.opG rfl rfl rfl rfl (fun aK2b => ?_) (fun aK2b => ?_)
   ·replace aK2b : _ = false := aK2b
    have aK2 := aK2b
    try simp only [qqT, qqF, qqN, qqM, qqL, qqE] at aK2
    refine OpE.val (W := NoB) (OpV.move (.inl rfl) rfl) rfl ?_
    refine VO.opY rfl rfl rfl rfl aK2b ?_
    refine OpE.val (W := NoB) (OpV.not rfl rfl) rfl ?_
    refine VO.val rfl rfl (OpV.pickF rfl rfl rfl rfl aK2b) ?_
    refine VO.nil ?_
    refine VC.cond rfl (fun h1b => ?_) (fun h1b => ?_)
    ·have h1 := h1b
     try simp only [qqT, qqF, qqN, qqM, qqL, qqE] at h1
     refine VC.sr ?_
     refine VO.val rfl rfl (OpV.build (pls := #[(0, 1), (1, 1), (2, 1), (3, 1), (4, 1)]) rfl Tryz.zeroValue41 Tryz.underlying41 (fun w => by kernel_rfl) rfl rfl) ?_
     refine VO.op rfl (OpE.store (i := 2) rfl hB rfl Tryz.sizeOf41 rfl rfl rfl rfl rfl rfl (Nle rfl) trivial ?_)
     refine VO.ma rfl rfl rfl rfl ?_
     refine VO.nil ?_
     refine VC.ret ?_
     exact Exists.intro _ (And.intro (RetN.two Tryz.results16 ((by first | exact ResN.cellF (i := 0) Tryz.isAgg41 Tryz.sizeOf41 rfl rfl rfl (flat_ofB rfl) | exact ResN.cellF (i := 1) Tryz.isAgg41 Tryz.sizeOf41 rfl rfl rfl (flat_ofB rfl) | exact ResN.cellF (i := 2) Tryz.isAgg41 Tryz.sizeOf41 rfl rfl rfl (flat_ofB rfl))) (ResN.v rfl)) (by first | (rw [atR_no (by rw [atE_8 h00 (or3a (by assumption))]; decide), atE_8 h00 (or3a (by assumption))]; rfl) | (rw [atR_no (by rw [atE_8 h00 (or3b (by assumption))]; decide), atE_8 h00 (or3b (by assumption))]; rfl) | (rw [atR_no (by rw [atE_8 h00 (or3c (by assumption))]; decide), atE_8 h00 (or3c (by assumption))]; rfl)))
    ·have h1 := h1b
     try simp only [qqT, qqF, qqN, qqM, qqL, qqE] at h1
     have hfd : lowK PlaceS.name p.places k < p.places.length ∧ sEq (p.places.getD (lowK PlaceS.name p.places k) default).name k = true := by
      have := (lowK_any (places_rise hz.1) (k := k)).trans (show (p.places.any fun x => sEq x.name k) = true by assumption)
      rwa [Bool.and_eq_true, decide_eq_true_eq] at this
     have hfi : placeO p k = p.places.getD (lowK PlaceS.name p.places k) default := lowK_find (places_rise hz.1) hfd.1 hfd.2
     obtain ⟨m, rfl⟩ : ∃ m : Nat, i = m := ⟨i.toNat, by omega⟩
     refine VC.skip ?_
     refine VC.seq ?_
     refine VC.draw (fun j b => j = 9 ∧ b = g8) hB (by kernel_rfl) ?_
     refine VA.take (i := 0) rfl (by kernel_rfl) (by kernel_rfl) (by kernel_rfl) rfl rfl (OpV.loadK_own (i := 0) rfl hB Tryz.isAgg28 Tryz.sizeOf28 rfl rfl rfl (by first | exact Wi.not1 (by kernel_rfl) | exact Wi.not2 (by kernel_rfl) (by kernel_rfl) | exact Wi.notX (by kernel_rfl))) ?_
     refine VA.take (i := 1) rfl (by kernel_rfl) (by kernel_rfl) (by kernel_rfl) rfl rfl (OpV.loadK_own (i := 1) rfl hB Tryz.isAgg32 Tryz.sizeOf32 rfl rfl rfl (by first | exact Wi.not1 (by kernel_rfl) | exact Wi.not2 (by kernel_rfl) (by kernel_rfl) | exact Wi.notX (by kernel_rfl))) ?_
     refine VA.take (i := 2) rfl (by kernel_rfl) (by kernel_rfl) (by kernel_rfl) rfl rfl (OpV.move (.inl rfl) rfl) ?_
     refine VA.take (i := 3) rfl (by kernel_rfl) (by kernel_rfl) (by kernel_rfl) rfl rfl (OpV.fieldAddrO 3 rfl Tryz.underlying28 rfl rfl Tryz.sizeOf26 rfl) ?_
     refine VA.take (i := 4) rfl (by kernel_rfl) (by kernel_rfl) (by kernel_rfl) rfl rfl (OpV.load_own (i := 0) rfl hB Tryz.isAgg26 rfl rfl rfl (by first | exact Wi.not1 (by kernel_rfl) | exact Wi.not2 (by kernel_rfl) (by kernel_rfl) | exact Wi.notX (by kernel_rfl))) ?_
     refine VA.take (i := 5) rfl (by kernel_rfl) (by kernel_rfl) (by kernel_rfl) rfl rfl (OpV.move (.inl rfl) rfl) ?_
     refine VA.take (i := 6) rfl (by kernel_rfl) (by kernel_rfl) (by kernel_rfl) rfl rfl (OpV.indexAddr_E rfl Tryz.underlying26 Tryz.sizeOf50 rfl rfl rfl (by omega)) ?_
     refine VA.take (i := 7) rfl (by kernel_rfl) (by kernel_rfl) (by kernel_rfl) rfl rfl (OpV.loadK_at rfl hB (by first | exact OutW.wi1 (k := 0) rfl rfl | exact OutW.wi1 (k := 1) rfl rfl | exact OutW.wi1 (k := 2) rfl rfl) Tryz.isAgg50 Tryz.sizeOf50 rfl rfl) ?_
     refine VA.all (rs := [8]) (by kernel_rfl) (by decide) ?_
     refine ⟨⟨_, rfl, .inl rfl, ?_⟩, trivial⟩
     refine OpE.call rfl hB rfl Tryz.call74 rfl (SpecN.spec (panel_spot (i := m) (c := p.places.getD (lowK PlaceS.name p.places k) default) hok.wide hok.high (by omega) (hpn.all m (by omega)) (placeE_zero (hok.all _ hfd.1)))) ?_
     rintro _ rfl
     refine VA.all (rs := [9]) (by kernel_rfl) (by decide) ?_
     refine ⟨⟨_, rfl, .inl rfl, ?_⟩, trivial⟩
     refine OpE.store (i := 2) rfl hB rfl Tryz.sizeOf41 rfl rfl rfl rfl rfl rfl (Nle rfl) (by first | exact ⟨rfl, rfl⟩ | exact .inl ⟨rfl, rfl⟩ | exact .inr ⟨rfl, rfl⟩ | exact ⟨rfl, trivial⟩ | exact .inl ⟨rfl, trivial⟩ | exact .inr ⟨rfl, trivial⟩ | exact ⟨by decide, rfl⟩) ?_
     refine VA.take (i := 10) rfl (by kernel_rfl) (by kernel_rfl) (by kernel_rfl) rfl rfl (OpV.move (.inr rfl) rfl) ?_
     refine VA.done (by kernel_rfl) ?_
     refine VC.ret ?_
     exact Exists.intro _ (And.intro (RetN.two Tryz.results16 ((by first | exact ResN.cellF (i := 0) Tryz.isAgg41 Tryz.sizeOf41 rfl rfl rfl (flat_ofB rfl) | exact ResN.cellF (i := 1) Tryz.isAgg41 Tryz.sizeOf41 rfl rfl rfl (flat_ofB rfl) | exact ResN.cellF (i := 2) Tryz.isAgg41 Tryz.sizeOf41 rfl rfl rfl (flat_ofB rfl))) (ResN.v rfl)) (by rw [atR_ok (atE_0 h00 (or3f (by assumption) (by assumption) (by simp_all [hasN]))), atE_0 h00 (or3f (by assumption) (by assumption) (by simp_all [hasN])), hfi]; rfl))
   ·replace aK2b : _ = true := aK2b
    have aK2 := aK2b
    try simp only [qqT, qqF, qqN, qqM, qqL, qqE] at aK2
    refine VO.opX rfl rfl rfl rfl aK2b ?_
    refine VO.val rfl rfl (OpV.pickT rfl rfl rfl rfl aK2b) ?_
    refine VO.nil ?_
    refine VC.condT rfl rfl ?_
    refine VC.sr ?_
    refine VO.val rfl rfl (OpV.build (pls := #[(0, 1), (1, 1), (2, 1), (3, 1), (4, 1)]) rfl Tryz.zeroValue41 Tryz.underlying41 (fun w => by kernel_rfl) rfl rfl) ?_
    refine VO.op rfl (OpE.store (i := 2) rfl hB rfl Tryz.sizeOf41 rfl rfl rfl rfl rfl rfl (Nle rfl) trivial ?_)
    refine VO.ma rfl rfl rfl rfl ?_
    refine VO.nil ?_
    refine VC.ret ?_
    exact Exists.intro _ (And.intro (RetN.two Tryz.results16 ((by first | exact ResN.cellF (i := 0) Tryz.isAgg41 Tryz.sizeOf41 rfl rfl rfl (flat_ofB rfl) | exact ResN.cellF (i := 1) Tryz.isAgg41 Tryz.sizeOf41 rfl rfl rfl (flat_ofB rfl) | exact ResN.cellF (i := 2) Tryz.isAgg41 Tryz.sizeOf41 rfl rfl rfl (flat_ofB rfl))) (ResN.v rfl)) (by first | (rw [atR_no (by rw [atE_8 h00 (or3a (by assumption))]; decide), atE_8 h00 (or3a (by assumption))]; rfl) | (rw [atR_no (by rw [atE_8 h00 (or3b (by assumption))]; decide), atE_8 h00 (or3b (by assumption))]; rfl) | (rw [atR_no (by rw [atE_8 h00 (or3c (by assumption))]; decide), atE_8 h00 (or3c (by assumption))]; rfl)))
  ·replace aK1b : _ = true := aK1b
   have aK1 := aK1b
   try simp only [qqT, qqF, qqN, qqM, qqL, qqE] at aK1
   refine VO.opX rfl rfl rfl rfl aK1b ?_
   refine VO.opX rfl rfl rfl rfl aK1b ?_
   refine VO.opX rfl rfl rfl rfl aK1b ?_
   refine VO.opX rfl rfl rfl rfl aK1b ?_
   refine VO.val rfl rfl (OpV.pickT rfl rfl rfl rfl aK1b) ?_
   refine VO.mv rfl rfl rfl rfl ?_
   refine VO.opX rfl rfl rfl rfl rfl ?_
   refine VO.opX rfl rfl rfl rfl rfl ?_
   refine VO.val rfl rfl (OpV.pickT rfl rfl rfl rfl rfl) ?_
   refine VO.nil ?_
   refine VC.condT rfl rfl ?_
   refine VC.sr ?_
   refine VO.val rfl rfl (OpV.build (pls := #[(0, 1), (1, 1), (2, 1), (3, 1), (4, 1)]) rfl Tryz.zeroValue41 Tryz.underlying41 (fun w => by kernel_rfl) rfl rfl) ?_
   refine VO.op rfl (OpE.store (i := 2) rfl hB rfl Tryz.sizeOf41 rfl rfl rfl rfl rfl rfl (Nle rfl) trivial ?_)
   refine VO.ma rfl rfl rfl rfl ?_
   refine VO.nil ?_
   refine VC.ret ?_
   exact Exists.intro _ (And.intro (RetN.two Tryz.results16 ((by first | exact ResN.cellF (i := 0) Tryz.isAgg41 Tryz.sizeOf41 rfl rfl rfl (flat_ofB rfl) | exact ResN.cellF (i := 1) Tryz.isAgg41 Tryz.sizeOf41 rfl rfl rfl (flat_ofB rfl) | exact ResN.cellF (i := 2) Tryz.isAgg41 Tryz.sizeOf41 rfl rfl rfl (flat_ofB rfl))) (ResN.v rfl)) (by first | (rw [atR_no (by rw [atE_8 h00 (or3a (by assumption))]; decide), atE_8 h00 (or3a (by assumption))]; rfl) | (rw [atR_no (by rw [atE_8 h00 (or3b (by assumption))]; decide), atE_8 h00 (or3b (by assumption))]; rfl) | (rw [atR_no (by rw [atE_8 h00 (or3c (by assumption))]; decide), atE_8 h00 (or3c (by assumption))]; rfl)))
set_option maxRecDepth 100000 in
set_option maxHeartbeats 4000000 in
theorem panel_Spots {p : ProdS} {n : PanS} (hs : SmP p) (hl : n.slots.length ≤ 1000000) :
  SpecN Tryz.prog 17 [avProd p, avPan n] (fun y => y = .tup [avL (spotsR p n), avI (panelF p n)]) := by
 refine SpecN.of_VCN Tryz.func17 rfl Tryz.ntmps17 (Nle rfl) fun w A hB => ?_
 have hnew : True := trivial
 refine VC.seq ?_
 have hpl := hs.len
 refine VC.region ?_
 refine VO.op rfl (OpE.box rfl hB rfl rfl rfl ?_)
 intro g2
 refine VO.op rfl (OpE.box rfl hB rfl rfl rfl ?_)
 intro g3
 refine VO.ma rfl rfl rfl rfl ?_
 refine VO.ma rfl rfl rfl rfl ?_
 refine VO.nil ?_
 refine VC.seq ?_
 refine VC.sr ?_
 refine VO.val rfl rfl (OpV.loadK_own (i := 0) rfl hB Tryz.isAgg28 Tryz.sizeOf28 rfl rfl rfl (fun h => h)) ?_
 refine VO.val rfl rfl (OpV.loadK_own (i := 1) rfl hB Tryz.isAgg32 Tryz.sizeOf32 rfl rfl rfl (fun h => h)) ?_
 refine VO.op rfl (OpE.call rfl hB rfl Tryz.call27 rfl (SpecN.spec (panel_CheckPanel hs hl)) ?_)
 rintro _ rfl
 refine VO.ma rfl rfl rfl rfl ?_
 refine VO.nil ?_
 refine VC.sr ?_
 refine VO.mv rfl rfl rfl rfl ?_
 refine VO.val rfl rfl (OpV.neq rfl rfl rfl) ?_
 refine VO.nil ?_
 refine VC.cond rfl (fun h0b => ?_) (fun h0b => ?_)
 ·have h0 := h0b
  try simp only [qqT, qqF, qqN, qqM, qqL, qqE] at h0
  refine VC.sr ?_
  refine VO.mv rfl rfl rfl rfl ?_
  refine VO.ma rfl rfl rfl rfl ?_
  refine VO.ma rfl rfl rfl rfl ?_
  refine VO.nil ?_
  refine VC.ret ?_
  exact Exists.intro _ (And.intro (RetN.two Tryz.results17 (ResN.nilE rfl) (ResN.v rfl)) (by rw [spotsR, if_neg h0]; rfl))
 ·have h0 := h0b
  try simp only [qqT, qqF, qqN, qqM, qqL, qqE] at h0
  have h00 : panelF p n = 0 := by omega
  have hz := panelF_0 h00
  have hok := prodOk hz.1
  have hpn := panOk hz.2
  have hp1 := hok.len
  have hn1 := hpn.len
  refine VC.skip ?_
  refine VC.sr ?_
  refine VO.ma rfl rfl rfl rfl ?_
  refine VO.nil ?_
  refine VC.seq ?_
  refine VC.sr ?_
  refine VO.val rfl rfl (OpV.fieldAddrO 2 rfl Tryz.underlying32 rfl rfl Tryz.sizeOf30 rfl) ?_
  refine VO.val rfl rfl (OpV.load_own (i := 1) rfl hB Tryz.isAgg30 rfl rfl rfl (fun h => h)) ?_
  refine VO.val rfl rfl (OpV.len_im rfl Tryz.underlying30 rfl) ?_
  refine VO.mv rfl rfl rfl rfl ?_
  refine VO.nil ?_
  refine VC.block ?_
  refine VC.le _ (Le.nilRow 5 41) ?_
  refine VC.loopK [(2, _), (3, _), (19, _), (20, _)] ⟨rfl, rfl, rfl, rfl, trivial⟩ ({z : Value × Nat // z.2 ≤ n.slots.length}) (fun (iZ : {z : Value × Nat // z.2 ≤ n.slots.length}) => match iZ with | ⟨⟨u, q⟩, hq⟩ => [(7, .v u), (21, avI (q : Int))]) (fun (iZ : {z : Value × Nat // z.2 ≤ n.slots.length}) => match iZ with | ⟨⟨u, q⟩, hq⟩ => [boxProd g2 p 28, boxPan g3 n 32, .row u (spotQ p n q).length 5 (rowL (spotQ p n q)) 41]) (fun (iZ : {z : Value × Nat // z.2 ≤ n.slots.length}) => match iZ with | ⟨⟨u, q⟩, hq⟩ => 0) (fun (iZ : {z : Value × Nat // z.2 ≤ n.slots.length}) => match iZ with | ⟨⟨u, q⟩, hq⟩ => n.slots.length - q) ⟨(.slice none 0 0, 0), Nat.zero_le _⟩ (Le.mk hB [0, 1, 2] ⟨rfl, rfl, rfl, rfl, rfl, rfl, trivial⟩ rfl rfl (Nat.le_refl _)) ?_
  rintro ⟨⟨u, q⟩, hq⟩
  show VC _ _ _ _ ⟨[(7, .v u), (21, avI (q : Int))] ++ [(2, _), (3, _), (19, _), (20, _)], [boxProd g2 p 28, boxPan g3 n 32, .row u (spotQ p n q).length 5 (rowL (spotQ p n q)) 41], 0⟩
  simp only at hq
  have hbd := spotQ_bd (p := p) (n := n) (q := q) hq hn1 hp1
  refine VC.sr ?_
  refine VO.val rfl rfl (OpV.lss rfl rfl rfl) ?_
  refine VO.nil ?_
  refine VC.seq ?_
  refine VC.cond rfl (fun aH1b => ?_) (fun aH1b => ?_)
  ·have aH1 := aH1b
   try simp only [qqT, qqF, qqN, qqM, qqL, qqE] at aH1
   refine VC.skip ?_
   refine VC.seq ?_
   refine VC.block ?_
   refine VC.sr ?_
   refine VO.mv rfl rfl rfl rfl ?_
   refine VO.val rfl rfl (OpV.indexAddr_E rfl Tryz.underlying30 Tryz.sizeOf94 rfl rfl rfl (by omega)) ?_
   refine VO.val rfl rfl (OpV.loadK_at rfl hB OutW.no Tryz.isAgg94 Tryz.sizeOf94 rfl rfl) ?_
   refine VO.op rfl (OpE.alloc rfl hB rfl Tryz.zeroValue94 rfl ?_)
   intro g9
   refine VO.ma rfl rfl rfl rfl ?_
   refine VO.op rfl (OpE.store (i := 3) rfl hB rfl Tryz.sizeOf94 rfl rfl rfl rfl rfl rfl (Nle rfl) trivial ?_)
   refine VO.nil ?_
   refine VC.seq ?_
   refine VC.sr ?_
   refine VO.val rfl rfl (OpV.fieldAddrO 3 rfl Tryz.underlying94 rfl rfl Tryz.sizeOf4 rfl) ?_
   refine VO.val rfl rfl (OpV.load_own (i := 3) rfl hB Tryz.isAgg4 rfl rfl rfl (fun h => h)) ?_
   refine VO.nil ?_
   refine VC.cond rfl (fun h2b => ?_) (fun h2b => ?_)
   ·have h2 := h2b
    try simp only [qqT, qqF, qqN, qqM, qqL, qqE] at h2
    refine VC.exit ?_
    refine VC.region ?_
    refine VO.val rfl rfl (OpV.add rfl rfl rfl (by unfold fits; omega)) ?_
    refine VO.mv rfl rfl rfl rfl ?_
    refine VO.nil ?_
    exact Exists.intro (⟨(u, q + 1), by show q + 1 ≤ _; omega⟩) (And.intro (Le.mk hB [0, 1, 2] ⟨rfl, rfl, rfl, rfl, rfl, rfl, trivial⟩ rfl (by dsimp only; first | (rw [spotQ_skip h2]; rfl) | (rw [spotQ_some h2, List.length_append, List.length_map]; rfl)) (Nat.le_refl _)) (by first | omega | (show _ < _; omega) | (simp only []; omega)))
   ·have h2 := h2b
    try simp only [qqT, qqF, qqN, qqM, qqL, qqE] at h2
    refine VC.skip ?_
    refine VC.sr ?_
    refine VO.val rfl rfl (OpV.fieldAddrO 3 rfl Tryz.underlying28 rfl rfl Tryz.sizeOf26 rfl) ?_
    refine VO.val rfl rfl (OpV.load_own (i := 0) rfl hB Tryz.isAgg26 rfl rfl rfl (fun h => h)) ?_
    refine VO.val rfl rfl (OpV.len_im rfl Tryz.underlying26 rfl) ?_
    refine VO.mv rfl rfl rfl rfl ?_
    refine VO.nil ?_
    refine VC.block ?_
    refine VC.loopK [(2, _), (3, _), (8, _), (19, _), (20, _), (21, _), (29, _), (30, _)] ⟨rfl, rfl, rfl, rfl, rfl, rfl, rfl, rfl, trivial⟩ ({z : Value × Nat // z.2 ≤ p.places.length}) (fun (iZ : {z : Value × Nat // z.2 ≤ p.places.length}) => match iZ with | ⟨⟨u, r⟩, hr⟩ => [(7, .v u), (31, avI (r : Int))]) (fun (iZ : {z : Value × Nat // z.2 ≤ p.places.length}) => match iZ with | ⟨⟨u, r⟩, hr⟩ => [boxProd g2 p 28, boxPan g3 n 32, .row u ((spotQ p n q).length + r) 5 (rowL (spotQ p n q ++ (p.places.take r).map (spotF p n q))) 41]) (fun (iZ : {z : Value × Nat // z.2 ≤ p.places.length}) => match iZ with | ⟨⟨u, r⟩, hr⟩ => 0) (fun (iZ : {z : Value × Nat // z.2 ≤ p.places.length}) => match iZ with | ⟨⟨u, r⟩, hr⟩ => p.places.length - r) ⟨(u, 0), Nat.zero_le _⟩ (Le.mk hB [0, 1, 2] ⟨rfl, rfl, rfl, rfl, rfl, rfl, rfl, rfl, rfl, rfl, trivial⟩ rfl (by dsimp only; rw [List.take_zero, List.map_nil, List.append_nil, Nat.add_zero]; rfl) (Nat.le_refl _)) ?_
    rintro ⟨⟨u, r⟩, hr⟩
    show VC _ _ _ _ ⟨[(7, .v u), (31, avI (r : Int))] ++ [(2, _), (3, _), (8, _), (19, _), (20, _), (21, _), (29, _), (30, _)], [boxProd g2 p 28, boxPan g3 n 32, .row u ((spotQ p n q).length + r) 5 (rowL (spotQ p n q ++ (p.places.take r).map (spotF p n q))) 41], 0⟩
    simp only at hr
    refine VC.sr ?_
    refine VO.val rfl rfl (OpV.lss rfl rfl rfl) ?_
    refine VO.nil ?_
    refine VC.seq ?_
    refine VC.cond rfl (fun aH2b => ?_) (fun aH2b => ?_)
    ·have aH2 := aH2b
     try simp only [qqT, qqF, qqN, qqM, qqL, qqE] at aH2
     refine VC.skip ?_
     refine VC.seq ?_
     refine VC.block ?_
     refine VC.sr ?_
     refine VO.val rfl rfl (OpV.indexAddr_E rfl Tryz.underlying26 Tryz.sizeOf50 rfl rfl rfl (by omega)) ?_
     refine VO.val rfl rfl (OpV.loadK_at rfl hB OutW.no Tryz.isAgg50 Tryz.sizeOf50 rfl rfl) ?_
     refine VO.op rfl (OpE.alloc rfl hB rfl Tryz.zeroValue50 rfl ?_)
     intro g11
     refine VO.op rfl (OpE.store (i := 3) rfl hB rfl Tryz.sizeOf50 rfl rfl rfl rfl rfl rfl (Nle rfl) trivial ?_)
     refine VO.nil ?_
     refine VC.region ?_
     refine VO.mv rfl rfl rfl rfl ?_
     refine VO.val rfl rfl (OpV.loadK_own (i := 0) rfl hB Tryz.isAgg28 Tryz.sizeOf28 rfl rfl rfl (fun h => h)) ?_
     refine VO.val rfl rfl (OpV.loadK_own (i := 1) rfl hB Tryz.isAgg32 Tryz.sizeOf32 rfl rfl rfl (fun h => h)) ?_
     refine VO.mv rfl rfl rfl rfl ?_
     refine VO.val rfl rfl (OpV.loadK_own (i := 3) rfl hB Tryz.isAgg50 Tryz.sizeOf50 rfl rfl rfl (fun h => h)) ?_
     refine VO.op rfl (OpE.call rfl hB rfl Tryz.call74 rfl (SpecN.spec (panel_spot (i := q) (c := p.places.getD r default) hok.wide hok.high (by omega) (hpn.all q (by omega)) (placeE_zero (hok.all r (by omega))))) ?_)
     rintro _ rfl
     refine VO.op rfl (OpE.buildSlice (zc := #[.int .i64 0, .string ⟨#[]⟩, .int .i64 0, .int .i64 0, .int .i64 0]) rfl hB rfl Tryz.underlying44 Tryz.sizeOf41 Tryz.zeroValue41 (by decide) (by decide) (by kernel_rfl) rfl rfl ?_)
     refine VO.op rfl (OpE.append1 (i := 2) rfl hB rfl Tryz.underlying44 (infoOf Tryz.t41 5 (by kernel_rfl) rfl rfl) rfl (by decide) (by decide) rfl rfl rfl rfl (rowL_snoc _ (spotF p n q (p.places.getD r default))) (by omega) (fun _ _ => trivial) ?_)
     intro u42
     refine VO.ma rfl rfl rfl rfl ?_
     refine VO.nil ?_
     refine VC.region ?_
     refine VO.val rfl rfl (OpV.add rfl rfl rfl (by unfold fits; omega)) ?_
     refine VO.mv rfl rfl rfl rfl ?_
     refine VO.nil ?_
     exact Exists.intro (⟨(u42, r + 1), by show r + 1 ≤ _; omega⟩) (And.intro (Le.mk hB [0, 1, 2] ⟨rfl, rfl, rfl, rfl, rfl, rfl, rfl, rfl, rfl, rfl, trivial⟩ rfl (by dsimp only; rw [place_snoc _ (show r < p.places.length by omega), ← List.append_assoc, ← Nat.add_assoc]; rfl) (Nat.le_refl _)) (by first | omega | (show _ < _; omega) | (simp only []; omega)))
    ·have aH2 := aH2b
     try simp only [qqT, qqF, qqN, qqM, qqL, qqE] at aH2
     obtain rfl : r = p.places.length := by omega
     have hre : p.places.take p.places.length = p.places := List.take_length
     rw [hre]
     refine VC.exit ?_
     refine VC.region ?_
     refine VO.val rfl rfl (OpV.add rfl rfl rfl (by unfold fits; omega)) ?_
     refine VO.mv rfl rfl rfl rfl ?_
     refine VO.nil ?_
     exact Exists.intro (⟨(u, q + 1), by show q + 1 ≤ _; omega⟩) (And.intro (Le.mk hB [0, 1, 2] ⟨rfl, rfl, rfl, rfl, rfl, rfl, trivial⟩ rfl (by dsimp only; first | (rw [spotQ_skip h2]; rfl) | (rw [spotQ_some h2, List.length_append, List.length_map]; rfl)) (Nat.le_refl _)) (by first | omega | (show _ < _; omega) | (simp only []; omega)))
  ·have aH1 := aH1b
   try simp only [qqT, qqF, qqN, qqM, qqL, qqE] at aH1
   refine VC.exit ?_
   refine VC.sr ?_
   refine VO.mv rfl rfl rfl rfl ?_
   refine VO.ma rfl rfl rfl rfl ?_
   refine VO.ma rfl rfl rfl rfl ?_
   refine VO.nil ?_
   refine VC.ret ?_
   exact Exists.intro _ (And.intro (RetN.two Tryz.results17 (ResN.rowT (i := 2) rfl rfl rfl (flat_spot _)) (ResN.v rfl)) (by rw [spotsR, if_pos h00, h00, show q = n.slots.length by omega]))
end Go.Proofs.YtceflkkgmmcieaaGreatDoor
namespace Go.Proofs.YtceflkkgmmcieaaGreatDoor
open Go.RowKit
set_option linter.unusedVariables false
set_option linter.unusedSimpArgs false
section
variable {α : Type} [Inhabited α] [Sxc α]
theorem rowL_cut {xs : List α} {q k : Nat} (hk : k = Sxc.k α) (h : q < xs.length) : cutL (rowL xs) (0 + q * k) k = some (tab (Sxc.k α) (Sxc.cell (xs.getD q default))) := by
 subst hk
 have hle : 0 + q * Sxc.k α + Sxc.k α ≤ (rowL xs).length := by
  rw [rowL_len, Nat.zero_add]
  have : (q + 1) * Sxc.k α ≤ xs.length * Sxc.k α := Nat.mul_le_mul_right _ h
  rw [Nat.add_mul] at this; omega
 unfold cutL
 rw [show Nat.ble (0 + q * Sxc.k α + Sxc.k α) (rowL xs).length = true from Nat.ble_eq_true_of_le hle]
 simp only
 congr 1
 apply List.ext_getElem?
 intro i
 by_cases hi : i < Sxc.k α
 ·rw [List.getElem?_take_of_lt hi, List.getElem?_drop, rowL_at rfl h hi, List.getElem?_eq_getElem (by rw [tab_len]; exact hi), tab_get]
 ·rw [List.getElem?_eq_none (by rw [List.length_take]; omega), List.getElem?_eq_none (by rw [tab_len]; omega)]
theorem rowL_inE {xs : List α} {q k : Nat} (hk : k = Sxc.k α) (h : q < xs.length) : 0 + q * k + k ≤ (rowL xs).length := by
 subst hk
 rw [rowL_len, Nat.zero_add]
 have : (q + 1) * Sxc.k α ≤ xs.length * Sxc.k α := Nat.mul_le_mul_right _ h
 rw [Nat.add_mul] at this; omega
theorem setAll_gt : ∀ (r cs : List AV) (off i : Nat), off + r.length ≤ cs.length → (setAll cs off r)[i]? = if off ≤ i ∧ i < off + r.length then r[i - off]? else cs[i]?
 | [], cs, off, i, h => by simp [setAll]; intro h1 h2; omega
 | x :: r, cs, off, i, h => by
  simp only [List.length_cons] at h
  rw [setAll, setAll_gt r _ (off + 1) i (by simp; omega)]
  by_cases h1 : i = off
  ·subst h1
   rw [if_neg (by omega), if_pos (by simp only [List.length_cons]; omega), Nat.sub_self, List.getElem?_set_self (by omega)]
   rfl
  ·rw [List.getElem?_set_ne (by omega)]
   by_cases h2 : off ≤ i ∧ i < off + (r.length + 1)
   ·rw [if_pos (by omega), if_pos (by simpa using h2), show i - off = (i - (off + 1)) + 1 by omega, List.getElem?_cons_succ]
   ·rw [if_neg (by omega), if_neg (by simpa using h2)]
theorem rowL_get' (xs : List α) {i : Nat} (hi : i < xs.length * Sxc.k α) : (rowL xs)[i]? = some (Sxc.cell (xs.getD (i / Sxc.k α) default) (i % Sxc.k α)) := by
 have hp := Sxc.pos (α := α)
 have h1 : i / Sxc.k α < xs.length := Nat.div_lt_of_lt_mul (by rw [Nat.mul_comm]; exact hi)
 have h2 := rowL_get xs (i / Sxc.k α) (i % Sxc.k α) h1 (Nat.mod_lt _ hp)
 rw [Nat.mul_comm, Nat.div_add_mod] at h2
 exact h2
theorem rowL_setAll {xs : List α} {q k : Nat} {x : α} (hk : k = Sxc.k α) (h : q < xs.length) : setAll (rowL xs) (0 + q * k) (tab (Sxc.k α) (Sxc.cell x)) = rowL (xs.set q x) := by
 subst hk
 have hp := Sxc.pos (α := α)
 have hle : 0 + q * Sxc.k α + Sxc.k α ≤ xs.length * Sxc.k α := by
  have : (q + 1) * Sxc.k α ≤ xs.length * Sxc.k α := Nat.mul_le_mul_right _ h
  rw [Nat.add_mul] at this; omega
 apply List.ext_getElem?
 intro i
 rw [setAll_gt _ _ _ _ (by rw [tab_len, rowL_len]; exact hle), tab_len]
 by_cases hi : i < xs.length * Sxc.k α
 ·rw [rowL_get' (xs.set q x) (by rw [List.length_set]; exact hi)]
  by_cases hr : 0 + q * Sxc.k α ≤ i ∧ i < 0 + q * Sxc.k α + Sxc.k α
  ·rw [if_pos hr]
   have e1 : i / Sxc.k α = q := Nat.div_eq_of_lt_le (by omega) (by rw [Nat.add_mul]; omega)
   have e2 : i % Sxc.k α = i - (0 + q * Sxc.k α) := by
    have := Nat.div_add_mod i (Sxc.k α); rw [e1, Nat.mul_comm] at this; omega
   rw [e1, e2, List.getElem?_eq_getElem (by rw [tab_len]; omega), tab_get]
   simp [List.getD_eq_getElem?_getD, h]
  ·rw [if_neg hr, rowL_get' xs hi]
   have e1 : i / Sxc.k α ≠ q := fun e => by
    have h1 := Nat.div_add_mod i (Sxc.k α)
    have h2 := Nat.mod_lt i hp
    rw [e, Nat.mul_comm] at h1
    exact hr ⟨by omega, by omega⟩
   simp [List.getD_eq_getElem?_getD, List.getElem?_set_ne (Ne.symm e1)]
 ·rw [if_neg (by omega), List.getElem?_eq_none (by rw [rowL_len]; omega), List.getElem?_eq_none (by rw [rowL_len, List.length_set]; omega)]
end
section
variable {P : Program} {B : Bs} {W : Nat → Prop} {s : St'} {o : Oper} {K : St' → Prop}
theorem OpE.storeE {x y : Operand} {t g j i k : Nat} {o' : Own'} {v : AV} {cs' : List AV} (ho : o.op = .store t x y) (hB : B.Ok) (hd : okd B.nt o.dst = true) (hsz : ∀ w, (sizeOf t).run P w = .ok k w) (hx : evO s x = some (.v (.pointer (some ⟨g, j, none⟩)))) (hy : evO s y = some v)
  (hk : v.known = true) (hl : (cellsOf v).length = k) (hone : (cellsOf v).all AV.one = true) (hi : s.hp[i]? = some (.box g o')) (hj : j + k ≤ o'.cs.length) (hcs : setAll o'.cs j (cellsOf v) = cs') (hW : W g)
  (hK : K ((St'.mk s.sl (s.hp.set i (.box g ⟨cs', o'.ty, o'.tot⟩)) s.k).put o.dst (.v undef))) : OpE P B W s o K := by
 subst hcs
 exact OpE.store ho hB hd hsz hx hy hk hl hone hi hj hW hK
end
end Go.Proofs.YtceflkkgmmcieaaGreatDoor
namespace Go.Proofs.YtceflkkgmmcieaaGreatDoor
open Go.RowKit
set_option linter.unusedVariables false
set_option linter.unusedSimpArgs false
abbrev avNd (x : NeedS) : AV := .agg (tab 2 (Sxc.cell x))
set_option maxRecDepth 100000 in
set_option maxHeartbeats 2000000 in
theorem insSort_need {l0 : List NeedS} {u : Value} {ty : TypeId} {F : FuncId} {cs : List AV} {c : NeedS → NeedS → Int} (hl : l0.length ≤ 1000000) (hcall : ∀ us w, (callFunc F us).run Tryz.prog w = .ok (.enter F us) w) (hF : ∀ x y, Spec Tryz.prog F ([avNd x, avNd y] ++ cs) (fun z => z = avI (c x y))) (ht : ∀ {a b d : NeedS}, decide (c a b < 0) = true → decide (c b d < 0) = true → decide (c a d < 0) = true) (ha : ∀ {a b : NeedS}, decide (c a b < 0) = true → decide (c b a < 0) = false) (hn : ∀ {a b d : NeedS}, decide (c b a < 0) = false → decide (c d b < 0) = false → decide (c d a < 0) = false) :
  SpecH Tryz.prog 200 [.v u, avI 0, avI l0.length, .fn F cs] [.row u l0.length 2 (rowL l0) ty] (fun y hp' => ∃ l, (l.Perm l0 ∧ OrdL (fun x y => decide (c x y < 0)) l) ∧ y = .tup [] ∧ hp' = [.row u l0.length 2 (rowL l) ty]) := by
 refine SpecH.of_VC Tryz.func200 rfl Tryz.ntmps200 (Nle rfl) fun w A hB => ?_
 have hnew : True := trivial
 refine VC.sr ?_
 refine VO.mv rfl rfl rfl rfl ?_
 refine VO.val rfl rfl (OpV.add rfl rfl rfl (by unfold fits; omega)) ?_
 refine VO.ma rfl rfl rfl rfl ?_
 refine VO.nil ?_
 refine VC.block ?_
 refine VC.loopK [(0, _), (1, _), (2, _), (3, _)] ⟨rfl, rfl, rfl, rfl, trivial⟩ ({z : Nat × List NeedS // InvO (fun x y => decide (c x y < 0)) l0 z.1 z.2 ∧ 0 < z.1 ∧ z.1 ≤ max 1 l0.length}) (fun (iZ : {z : Nat × List NeedS // InvO (fun x y => decide (c x y < 0)) l0 z.1 z.2 ∧ 0 < z.1 ∧ z.1 ≤ max 1 l0.length}) => match iZ with | ⟨⟨i, l⟩, hi, hi0, hin⟩ => [(8, avI (i : Int))]) (fun (iZ : {z : Nat × List NeedS // InvO (fun x y => decide (c x y < 0)) l0 z.1 z.2 ∧ 0 < z.1 ∧ z.1 ≤ max 1 l0.length}) => match iZ with | ⟨⟨i, l⟩, hi, hi0, hin⟩ => [.row u l0.length 2 (rowL l) ty]) (fun (iZ : {z : Nat × List NeedS // InvO (fun x y => decide (c x y < 0)) l0 z.1 z.2 ∧ 0 < z.1 ∧ z.1 ≤ max 1 l0.length}) => match iZ with | ⟨⟨i, l⟩, hi, hi0, hin⟩ => 0) (fun (iZ : {z : Nat × List NeedS // InvO (fun x y => decide (c x y < 0)) l0 z.1 z.2 ∧ 0 < z.1 ∧ z.1 ≤ max 1 l0.length}) => match iZ with | ⟨⟨i, l⟩, hi, hi0, hin⟩ => l0.length - i) ⟨(1, l0), InvO.one l0, Nat.one_pos, by show 1 ≤ _; omega⟩ (Le.mk hB [0] ⟨rfl, rfl, rfl, rfl, rfl, trivial⟩ rfl rfl (Nat.le_refl _)) ?_
 rintro ⟨⟨i, l⟩, hi, hi0, hin⟩
 show VC _ _ _ _ ⟨[(8, avI (i : Int))] ++ [(0, _), (1, _), (2, _), (3, _)], [.row u l0.length 2 (rowL l) ty], 0⟩
 simp only at hi hi0 hin
 have hll := hi.len
 refine VC.seq ?_
 refine VC.sr ?_
 refine VO.mv rfl rfl rfl rfl ?_
 refine VO.mv rfl rfl rfl rfl ?_
 refine VO.val rfl rfl (OpV.lss rfl rfl rfl) ?_
 refine VO.nil ?_
 refine VC.cond rfl (fun aH1b => ?_) (fun aH1b => ?_)
 ·have aH1 := aH1b
  try simp only [qqT, qqF, qqN, qqM, qqL, qqE] at aH1
  refine VC.skip ?_
  refine VC.seq ?_
  refine VC.block ?_
  refine VC.sr ?_
  refine VO.mv rfl rfl rfl rfl ?_
  refine VO.ma rfl rfl rfl rfl ?_
  refine VO.nil ?_
  refine VC.block ?_
  refine VC.asBox (i := 0) rfl (by omega) (fun g cap hu hcap hmx => ?_)
  subst hu
  refine VC.loopK [(0, _), (1, _), (2, _), (3, _), (8, _)] ⟨rfl, rfl, rfl, rfl, rfl, trivial⟩ ({z : Nat × List NeedS // InvI (fun x y => decide (c x y < 0)) l0 i z.1 z.2}) (fun (iZ : {z : Nat × List NeedS // InvI (fun x y => decide (c x y < 0)) l0 i z.1 z.2}) => match iZ with | ⟨⟨j, l2⟩, hI⟩ => [(9, avI (j : Int))]) (fun (iZ : {z : Nat × List NeedS // InvI (fun x y => decide (c x y < 0)) l0 i z.1 z.2}) => match iZ with | ⟨⟨j, l2⟩, hI⟩ => [.box g ⟨rowL l2, ty, cap * 2⟩]) (fun (iZ : {z : Nat × List NeedS // InvI (fun x y => decide (c x y < 0)) l0 i z.1 z.2}) => match iZ with | ⟨⟨j, l2⟩, hI⟩ => 0) (fun (iZ : {z : Nat × List NeedS // InvI (fun x y => decide (c x y < 0)) l0 i z.1 z.2}) => match iZ with | ⟨⟨j, l2⟩, hI⟩ => j) ⟨(i, l), hi.start (by omega)⟩ (Le.mk hB [0] ⟨rfl, rfl, rfl, rfl, rfl, rfl, trivial⟩ rfl rfl (Nat.le_refl _)) ?_
  rintro ⟨⟨j, l2⟩, hI⟩
  show VC _ _ _ _ ⟨[(9, avI (j : Int))] ++ [(0, _), (1, _), (2, _), (3, _), (8, _)], [.box g ⟨rowL l2, ty, cap * 2⟩], 0⟩
  simp only at hI
  obtain ⟨hlen2, hil, hji⟩ := hI.len
  refine VC.seq ?_
  refine VC.seq ?_
  refine VC.draw (fun _ => NoB) hB (by kernel_rfl) ?_
  refine VA.take (i := 0) rfl (by kernel_rfl) (by kernel_rfl) (by kernel_rfl) rfl rfl (OpV.move (.inl rfl) rfl) ?_
  refine VA.take (i := 1) rfl (by kernel_rfl) (by kernel_rfl) (by kernel_rfl) rfl rfl (OpV.move (.inl rfl) rfl) ?_
  refine VA.take (i := 2) rfl (by kernel_rfl) (by kernel_rfl) (by kernel_rfl) rfl rfl (OpV.gtr rfl rfl rfl) ?_
  refine VA.take (i := 3) rfl (by kernel_rfl) (by kernel_rfl) (by kernel_rfl) rfl rfl (OpV.move (.inl rfl) rfl) ?_
  refine VA.split (t := 21) rfl (fun aK2b => ?_) (fun aK2b => ?_)
  ·have aK2 := aK2b
   try simp only [qqT, qqF, qqN, qqM, qqL, qqE] at aK2
   refine VA.takeY (i := 4) rfl (by kernel_rfl) (by kernel_rfl) (by kernel_rfl) rfl rfl rfl rfl aK2b (OpV.move (.inl rfl) rfl) ?_
   refine VA.takeY (i := 5) rfl (by kernel_rfl) (by kernel_rfl) (by kernel_rfl) rfl rfl rfl rfl aK2b (OpV.move (.inl rfl) rfl) ?_
   refine VA.takeY (i := 6) rfl (by kernel_rfl) (by kernel_rfl) (by kernel_rfl) rfl rfl rfl rfl aK2b (OpV.move (.inl rfl) rfl) ?_
   refine VA.takeY (i := 7) rfl (by kernel_rfl) (by kernel_rfl) (by kernel_rfl) rfl rfl rfl rfl aK2b (OpV.indexAddr_q rfl Tryz.underlying36 Tryz.sizeOf60 rfl rfl rfl (by omega)) ?_
   refine VA.takeY (i := 8) rfl (by kernel_rfl) (by kernel_rfl) (by kernel_rfl) rfl rfl rfl rfl aK2b (OpV.loadK_own (i := 0) rfl hB Tryz.isAgg60 Tryz.sizeOf60 rfl rfl (rowL_cut rfl (by omega)) Wi.not0) ?_
   refine VA.takeY (i := 9) rfl (by kernel_rfl) (by kernel_rfl) (by kernel_rfl) rfl rfl rfl rfl aK2b (OpV.move (.inl rfl) rfl) ?_
   refine VA.takeY (i := 10) rfl (by kernel_rfl) (by kernel_rfl) (by kernel_rfl) rfl rfl rfl rfl aK2b (OpV.move (.inl rfl) rfl) ?_
   refine VA.takeY (i := 11) rfl (by kernel_rfl) (by kernel_rfl) (by kernel_rfl) rfl rfl rfl rfl aK2b (OpV.sub rfl rfl rfl (by unfold fits; omega)) ?_
   refine VA.takeY (i := 12) rfl (by kernel_rfl) (by kernel_rfl) (by kernel_rfl) rfl rfl rfl rfl aK2b (OpV.indexAddr_q rfl Tryz.underlying36 Tryz.sizeOf60 rfl rfl (show (j : Int) - 1 = ((j - 1 : Nat) : Int) by omega) (by omega)) ?_
   refine VA.takeY (i := 13) rfl (by kernel_rfl) (by kernel_rfl) (by kernel_rfl) rfl rfl rfl rfl aK2b (OpV.loadK_own (i := 0) rfl hB Tryz.isAgg60 Tryz.sizeOf60 rfl rfl (rowL_cut rfl (by omega)) Wi.not0) ?_
   refine VA.all (rs := [14]) (by kernel_rfl) (by decide) ?_
   refine ⟨⟨_, rfl, .inr ⟨_, _, _, rfl, rfl, (look_k rfl aK2b)⟩, ?_⟩, trivial⟩
   refine OpE.callF rfl hB rfl hcall rfl rfl (hF _ _) ?_
   rintro _ rfl
   refine VA.takeY (i := 15) rfl (by kernel_rfl) (by kernel_rfl) (by kernel_rfl) rfl rfl rfl rfl aK2b (OpV.lss rfl rfl rfl) ?_
   refine VA.take (i := 16) rfl (by kernel_rfl) (by kernel_rfl) (by kernel_rfl) rfl rfl (OpV.pickT rfl rfl rfl rfl aK2b) ?_
   refine VA.done (by kernel_rfl) ?_
   refine VC.cond rfl (fun hcb => ?_) (fun hcb => ?_)
   ·have hc := hcb
    try simp only [qqT, qqF, qqN, qqM, qqL, qqE] at hc
    refine VC.skip ?_
    refine VC.seq ?_
    refine VC.block ?_
    refine VC.draw (fun j b => j ∈ [15, 17] ∧ b = g) hB (by kernel_rfl) ?_
    refine VA.take (i := 0) rfl (by kernel_rfl) (by kernel_rfl) (by kernel_rfl) rfl rfl (OpV.move (.inl rfl) rfl) ?_
    refine VA.take (i := 1) rfl (by kernel_rfl) (by kernel_rfl) (by kernel_rfl) rfl rfl (OpV.move (.inl rfl) rfl) ?_
    refine VA.take (i := 2) rfl (by kernel_rfl) (by kernel_rfl) (by kernel_rfl) rfl rfl (OpV.move (.inl rfl) rfl) ?_
    refine VA.take (i := 3) rfl (by kernel_rfl) (by kernel_rfl) (by kernel_rfl) rfl rfl (OpV.move (.inl rfl) rfl) ?_
    refine VA.take (i := 4) rfl (by kernel_rfl) (by kernel_rfl) (by kernel_rfl) rfl rfl (OpV.sub rfl rfl rfl (by unfold fits; omega)) ?_
    refine VA.take (i := 5) rfl (by kernel_rfl) (by kernel_rfl) (by kernel_rfl) rfl rfl (OpV.move (.inl rfl) rfl) ?_
    refine VA.take (i := 6) rfl (by kernel_rfl) (by kernel_rfl) (by kernel_rfl) rfl rfl (OpV.move (.inl rfl) rfl) ?_
    refine VA.take (i := 7) rfl (by kernel_rfl) (by kernel_rfl) (by kernel_rfl) rfl rfl (OpV.sub rfl rfl rfl (by unfold fits; omega)) ?_
    refine VA.take (i := 8) rfl (by kernel_rfl) (by kernel_rfl) (by kernel_rfl) rfl rfl (OpV.indexAddr_q rfl Tryz.underlying36 Tryz.sizeOf60 rfl rfl (show (j : Int) - 1 = ((j - 1 : Nat) : Int) by omega) (by omega)) ?_
    refine VA.take (i := 9) rfl (by kernel_rfl) (by kernel_rfl) (by kernel_rfl) rfl rfl (OpV.loadK_own (i := 0) rfl hB Tryz.isAgg60 Tryz.sizeOf60 rfl rfl (rowL_cut rfl (by omega)) (Wi.notD (by kernel_rfl))) ?_
    refine VA.take (i := 10) rfl (by kernel_rfl) (by kernel_rfl) (by kernel_rfl) rfl rfl (OpV.move (.inl rfl) rfl) ?_
    refine VA.take (i := 11) rfl (by kernel_rfl) (by kernel_rfl) (by kernel_rfl) rfl rfl (OpV.move (.inl rfl) rfl) ?_
    refine VA.take (i := 12) rfl (by kernel_rfl) (by kernel_rfl) (by kernel_rfl) rfl rfl (OpV.indexAddr_q rfl Tryz.underlying36 Tryz.sizeOf60 rfl rfl rfl (by omega)) ?_
    refine VA.take (i := 13) rfl (by kernel_rfl) (by kernel_rfl) (by kernel_rfl) rfl rfl (OpV.loadK_own (i := 0) rfl hB Tryz.isAgg60 Tryz.sizeOf60 rfl rfl (rowL_cut rfl (by omega)) (Wi.notD (by kernel_rfl))) ?_
    refine VA.take (i := 14) rfl (by kernel_rfl) (by kernel_rfl) (by kernel_rfl) rfl rfl (OpV.indexAddr_q rfl Tryz.underlying36 Tryz.sizeOf60 rfl rfl rfl (by omega)) ?_
    refine VA.all (rs := [15]) (by kernel_rfl) (by decide) ?_
    refine ⟨⟨_, rfl, .inl rfl, ?_⟩, trivial⟩
    refine OpE.storeE (i := 0) rfl hB rfl Tryz.sizeOf60 rfl rfl rfl rfl rfl rfl (rowL_inE rfl (by omega)) (rowL_setAll (x := l2.getD (j - 1) default) rfl (by omega)) (by first | exact ⟨rfl, rfl⟩ | exact .inl ⟨rfl, rfl⟩ | exact .inr ⟨rfl, rfl⟩ | exact ⟨rfl, trivial⟩ | exact .inl ⟨rfl, trivial⟩ | exact .inr ⟨rfl, trivial⟩ | exact ⟨by decide, rfl⟩) ?_
    refine VA.take (i := 16) rfl (by kernel_rfl) (by kernel_rfl) (by kernel_rfl) rfl rfl (OpV.indexAddr_q rfl Tryz.underlying36 Tryz.sizeOf60 rfl rfl (show (j : Int) - 1 = ((j - 1 : Nat) : Int) by omega) (by omega)) ?_
    refine VA.all (rs := [17]) (by kernel_rfl) (by decide) ?_
    refine ⟨⟨_, rfl, .inl rfl, ?_⟩, trivial⟩
    refine OpE.storeE (i := 0) rfl hB rfl Tryz.sizeOf60 rfl rfl rfl rfl rfl rfl (rowL_inE rfl (by rw [List.length_set]; omega)) (rowL_setAll (x := l2.getD j default) rfl (by rw [List.length_set]; omega)) (by first | exact ⟨rfl, rfl⟩ | exact .inl ⟨rfl, rfl⟩ | exact .inr ⟨rfl, rfl⟩ | exact ⟨rfl, trivial⟩ | exact .inl ⟨rfl, trivial⟩ | exact .inr ⟨rfl, trivial⟩ | exact ⟨by decide, rfl⟩) ?_
    refine VA.done (by kernel_rfl) ?_
    refine VC.region ?_
    refine VO.mv rfl rfl rfl rfl ?_
    refine VO.val rfl rfl (OpV.sub rfl rfl rfl (by unfold fits; omega)) ?_
    refine VO.ma rfl rfl rfl rfl ?_
    refine VO.nil ?_
    exact Exists.intro (⟨(j - 1, (l2.set j (l2.getD (j - 1) default)).set (j - 1) (l2.getD j default)), hI.next ht (by omega) (decide_eq_true hc)⟩) (And.intro (Le.mk hB [0] ⟨(by rw [show ((j - 1 : Nat) : Int) = (j : Int) - 1 by omega]; rfl), rfl, rfl, rfl, rfl, rfl, trivial⟩ rfl rfl (Nat.le_refl _)) (by first | omega | (show _ < _; omega) | (simp only []; omega)))
   ·have hc := hcb
    try simp only [qqT, qqF, qqN, qqM, qqL, qqE] at hc
    have hex : j = 0 ∨ decide (c (l2.getD j default) (l2.getD (j - 1) default) < 0) = false := by first | exact .inl (by omega) | exact .inr (decide_eq_false (by omega))
    refine VC.le _ (Le.boxRow (i := 0) (n := l0.length) rfl (by rw [rowL_len, hlen2]; rfl) hcap hmx) ?_
    refine VC.exit ?_
    refine VC.region ?_
    refine VO.mv rfl rfl rfl rfl ?_
    refine VO.val rfl rfl (OpV.add rfl rfl rfl (by unfold fits; omega)) ?_
    refine VO.ma rfl rfl rfl rfl ?_
    refine VO.nil ?_
    exact Exists.intro (⟨(i + 1, l2), hI.done ha hn hex, Nat.succ_pos _, by show i + 1 ≤ _; omega⟩) (And.intro (Le.mk hB [0] ⟨rfl, rfl, rfl, rfl, rfl, trivial⟩ rfl (by first | rfl | assumption) (Nat.le_refl _)) (by first | omega | (show _ < _; omega) | (simp only []; omega)))
  ·have aK2 := aK2b
   try simp only [qqT, qqF, qqN, qqM, qqL, qqE] at aK2
   refine VA.takeX (i := 4) rfl (by kernel_rfl) (by kernel_rfl) (by kernel_rfl) rfl rfl rfl rfl aK2b ?_
   refine VA.takeX (i := 5) rfl (by kernel_rfl) (by kernel_rfl) (by kernel_rfl) rfl rfl rfl rfl aK2b ?_
   refine VA.takeX (i := 6) rfl (by kernel_rfl) (by kernel_rfl) (by kernel_rfl) rfl rfl rfl rfl aK2b ?_
   refine VA.takeX (i := 7) rfl (by kernel_rfl) (by kernel_rfl) (by kernel_rfl) rfl rfl rfl rfl aK2b ?_
   refine VA.takeX (i := 8) rfl (by kernel_rfl) (by kernel_rfl) (by kernel_rfl) rfl rfl rfl rfl aK2b ?_
   refine VA.takeX (i := 9) rfl (by kernel_rfl) (by kernel_rfl) (by kernel_rfl) rfl rfl rfl rfl aK2b ?_
   refine VA.takeX (i := 10) rfl (by kernel_rfl) (by kernel_rfl) (by kernel_rfl) rfl rfl rfl rfl aK2b ?_
   refine VA.takeX (i := 11) rfl (by kernel_rfl) (by kernel_rfl) (by kernel_rfl) rfl rfl rfl rfl aK2b ?_
   refine VA.takeX (i := 12) rfl (by kernel_rfl) (by kernel_rfl) (by kernel_rfl) rfl rfl rfl rfl aK2b ?_
   refine VA.takeX (i := 13) rfl (by kernel_rfl) (by kernel_rfl) (by kernel_rfl) rfl rfl rfl rfl aK2b ?_
   refine VA.takeX (i := 14) rfl (by kernel_rfl) (by kernel_rfl) (by kernel_rfl) rfl rfl rfl rfl aK2b ?_
   refine VA.takeX (i := 15) rfl (by kernel_rfl) (by kernel_rfl) (by kernel_rfl) rfl rfl rfl rfl aK2b ?_
   refine VA.take (i := 16) rfl (by kernel_rfl) (by kernel_rfl) (by kernel_rfl) rfl rfl (OpV.pickF rfl rfl rfl rfl aK2b) ?_
   refine VA.done (by kernel_rfl) ?_
   refine VC.condF rfl rfl ?_
   have hex : j = 0 ∨ decide (c (l2.getD j default) (l2.getD (j - 1) default) < 0) = false := by first | exact .inl (by omega) | exact .inr (decide_eq_false (by omega))
   refine VC.le _ (Le.boxRow (i := 0) (n := l0.length) rfl (by rw [rowL_len, hlen2]; rfl) hcap hmx) ?_
   refine VC.exit ?_
   refine VC.region ?_
   refine VO.mv rfl rfl rfl rfl ?_
   refine VO.val rfl rfl (OpV.add rfl rfl rfl (by unfold fits; omega)) ?_
   refine VO.ma rfl rfl rfl rfl ?_
   refine VO.nil ?_
   exact Exists.intro (⟨(i + 1, l2), hI.done ha hn hex, Nat.succ_pos _, by show i + 1 ≤ _; omega⟩) (And.intro (Le.mk hB [0] ⟨rfl, rfl, rfl, rfl, rfl, trivial⟩ rfl (by first | rfl | assumption) (Nat.le_refl _)) (by first | omega | (show _ < _; omega) | (simp only []; omega)))
 ·have aH1 := aH1b
  try simp only [qqT, qqF, qqN, qqM, qqL, qqE] at aH1
  refine VC.exit ?_
  exact Exists.intro _ (And.intro (RetV.none Tryz.results200) (⟨l, hi.all (by omega), rfl, rfl⟩))
set_option maxRecDepth 100000 in
theorem pdqSort_need {l0 : List NeedS} {u : Value} {ty : TypeId} {F : FuncId} {cs : List AV} {c : NeedS → NeedS → Int} {k : Int} (hl : l0.length ≤ 12) (hcall : ∀ us w, (callFunc F us).run Tryz.prog w = .ok (.enter F us) w) (hF : ∀ x y, Spec Tryz.prog F ([avNd x, avNd y] ++ cs) (fun z => z = avI (c x y))) (ht : ∀ {a b d : NeedS}, decide (c a b < 0) = true → decide (c b d < 0) = true → decide (c a d < 0) = true) (ha : ∀ {a b : NeedS}, decide (c a b < 0) = true → decide (c b a < 0) = false) (hn : ∀ {a b d : NeedS}, decide (c b a < 0) = false → decide (c d b < 0) = false → decide (c d a < 0) = false) :
  SpecH Tryz.prog 157 [.v u, avI 0, avI l0.length, avI k, .fn F cs] [.row u l0.length 2 (rowL l0) ty] (fun y hp' => ∃ l, (l.Perm l0 ∧ OrdL (fun x y => decide (c x y < 0)) l) ∧ y = .tup [] ∧ hp' = [.row u l0.length 2 (rowL l) ty]) := by
 refine SpecH.of_VC Tryz.func157 rfl Tryz.ntmps157 (Nle rfl) fun w A hB => ?_
 have hnew : True := trivial
 refine VC.sr ?_
 refine VO.ma rfl rfl rfl rfl ?_
 refine VO.nil ?_
 refine VC.sr ?_
 refine VO.ma rfl rfl rfl rfl ?_
 refine VO.nil ?_
 refine VC.block ?_
 refine VC.loopK [(0, _), (4, _)] ⟨rfl, rfl, trivial⟩ ({z : Nat // z = 0}) (fun (iZ : {z : Nat // z = 0}) => match iZ with | ⟨z, hz⟩ => [(1, avI 0), (2, avI l0.length), (3, avI k), (10, avB true), (11, avB true)]) (fun (iZ : {z : Nat // z = 0}) => match iZ with | ⟨z, hz⟩ => [.row u l0.length 2 (rowL l0) ty]) (fun (iZ : {z : Nat // z = 0}) => match iZ with | ⟨z, hz⟩ => 0) (fun (iZ : {z : Nat // z = 0}) => match iZ with | ⟨z, hz⟩ => z) ⟨0, rfl⟩ (Le.mk hB [0] ⟨rfl, rfl, rfl, rfl, rfl, rfl, rfl, trivial⟩ rfl rfl (Nat.le_refl _)) ?_
 rintro ⟨z, hz⟩
 show VC _ _ _ _ ⟨[(1, avI 0), (2, avI l0.length), (3, avI k), (10, avB true), (11, avB true)] ++ [(0, _), (4, _)], [.row u l0.length 2 (rowL l0) ty], 0⟩
 refine VC.block ?_
 refine VC.sr ?_
 refine VO.mv rfl rfl rfl rfl ?_
 refine VO.mv rfl rfl rfl rfl ?_
 refine VO.val rfl rfl (OpV.sub rfl rfl rfl (by unfold fits; omega)) ?_
 refine VO.ma rfl rfl rfl rfl ?_
 refine VO.nil ?_
 refine VC.seq ?_
 refine VC.sr ?_
 refine VO.mv rfl rfl rfl rfl ?_
 refine VO.val rfl rfl (OpV.leq rfl rfl rfl) ?_
 refine VO.nil ?_
 refine VC.cond rfl (fun aH1b => ?_) (fun aH1b => ?_)
 ·have aH1 := aH1b
  try simp only [qqT, qqF, qqN, qqM, qqL, qqE] at aH1
  refine VC.sr ?_
  refine VO.mv rfl rfl rfl rfl ?_
  refine VO.mv rfl rfl rfl rfl ?_
  refine VO.mv rfl rfl rfl rfl ?_
  refine VO.mv rfl rfl rfl rfl ?_
  refine VO.op rfl (OpE.callH0 rfl hB rfl Tryz.call200 rfl rfl (insSort_need (by omega) hcall hF ht ha hn) (List.Perm.refl _) (fun _ _ => trivial) ?_)
  rintro _ _ ⟨l, hpl, rfl, rfl⟩
  refine VO.nil ?_
  refine VC.ret ?_
  exact Exists.intro _ (And.intro (RetV.none Tryz.results157) (⟨l, hpl, rfl, rfl⟩))
 ·have aH1 := aH1b
  try simp only [qqT, qqF, qqN, qqM, qqL, qqE] at aH1
  exact VC.absurd (by omega)
set_option maxRecDepth 100000 in
theorem sortFunc_need {l0 : List NeedS} {u : Value} {ty : TypeId} {F : FuncId} {cs : List AV} {c : NeedS → NeedS → Int} (hl : l0.length ≤ 12) (hcall : ∀ us w, (callFunc F us).run Tryz.prog w = .ok (.enter F us) w) (hF : ∀ x y, Spec Tryz.prog F ([avNd x, avNd y] ++ cs) (fun z => z = avI (c x y))) (ht : ∀ {a b d : NeedS}, decide (c a b < 0) = true → decide (c b d < 0) = true → decide (c a d < 0) = true) (ha : ∀ {a b : NeedS}, decide (c a b < 0) = true → decide (c b a < 0) = false) (hn : ∀ {a b d : NeedS}, decide (c b a < 0) = false → decide (c d b < 0) = false → decide (c d a < 0) = false) :
  SpecH Tryz.prog 126 [.v u, .fn F cs] [.row u l0.length 2 (rowL l0) ty] (fun y hp' => ∃ l, (l.Perm l0 ∧ OrdL (fun x y => decide (c x y < 0)) l) ∧ y = .tup [] ∧ hp' = [.row u l0.length 2 (rowL l) ty]) := by
 refine SpecH.of_VC Tryz.func126 rfl Tryz.ntmps126 (Nle rfl) fun w A hB => ?_
 have hnew : True := trivial
 refine VC.sr ?_
 refine VO.mv rfl rfl rfl rfl ?_
 refine VO.val rfl rfl (OpV.len_row (i := 0) rfl Tryz.underlying36 rfl rfl) ?_
 refine VO.ma rfl rfl rfl rfl ?_
 refine VO.nil ?_
 refine VC.region ?_
 refine VO.mv rfl rfl rfl rfl ?_
 refine VO.mv rfl rfl rfl rfl ?_
 refine VO.mv rfl rfl rfl rfl ?_
 refine VO.val rfl rfl (OpV.conv rfl Tryz.underlying3 Tryz.underlying247 rfl (IntWalk.u64_in _ (by omega))) ?_
 refine VO.op rfl (OpE.call rfl hB rfl Tryz.call155 rfl (SpecN.spec (bits_Len_S (x := (l0.length : Int)) (by omega) (by omega))) ?_)
 rintro _ ⟨k, rfl⟩
 refine VO.mv rfl rfl rfl rfl ?_
 refine VO.op rfl (OpE.callH0 rfl hB rfl Tryz.call157 rfl rfl (pdqSort_need hl hcall hF ht ha hn) (List.Perm.refl _) (fun _ _ => trivial) ?_)
 rintro _ _ ⟨l, hpl, rfl, rfl⟩
 refine VO.nil ?_
 exact Exists.intro _ (And.intro (RetV.none Tryz.results126) (⟨l, hpl, rfl, rfl⟩))
end Go.Proofs.YtceflkkgmmcieaaGreatDoor
namespace Go.Proofs.YtceflkkgmmcieaaGreatDoor
open Go.RowKit
set_option linter.unusedVariables false
set_option linter.unusedSimpArgs false
set_option maxRecDepth 100000 in
theorem rf_quarter {cx cy h : Int} (h1 : -9000000 ≤ h ∧ h ≤ 9000000) (h2 : -9000000 ≤ cy ∧ cy ≤ 9000000) :
  SpecN Tryz.prog 128 [avI cx, avI cy, avI h] (fun y => y = .tup [avI (h - cy), avI cx]) := by
 refine SpecN.of_VCN Tryz.func128 rfl Tryz.ntmps128 (Nle rfl) fun w A hB => ?_
 have hnew : True := trivial
 refine VC.sr ?_
 refine VO.ma rfl rfl rfl rfl ?_
 refine VO.ma rfl rfl rfl rfl ?_
 refine VO.nil ?_
 refine VC.sr ?_
 refine VO.mv rfl rfl rfl rfl ?_
 refine VO.mv rfl rfl rfl rfl ?_
 refine VO.val rfl rfl (OpV.sub rfl rfl rfl (by unfold fits; omega)) ?_
 refine VO.mv rfl rfl rfl rfl ?_
 refine VO.ma rfl rfl rfl rfl ?_
 refine VO.ma rfl rfl rfl rfl ?_
 refine VO.nil ?_
 refine VC.ret ?_
 exact Exists.intro _ (And.intro (RetN.two Tryz.results128 (ResN.v rfl) (ResN.v rfl)) (rfl))
theorem pl_step {p : ProdS} {x y : Int} {q : Nat} (hq : q < 3) : plX p ((q : Int) + 1) x y = (if q % 2 = 0 then p.high else p.wide) - plY p q x y ∧ plY p ((q : Int) + 1) x y = plX p q x y := by
 match q, hq with
 | 0, _ => exact ⟨rfl, rfl⟩
 | 1, _ => exact ⟨rfl, rfl⟩
 | 2, _ => refine ⟨?_, rfl⟩; show y = p.high - (p.high - y); omega
abbrev avSl (s : SlotS) : AV := .agg [avI s.x, avI s.y, avI s.quarter, avB s.skip]
theorem alt_succ {a b : Int} {q : Nat} : (if (q + 1) % 2 = 0 then a else b) = if q % 2 = 0 then b else a := by
 by_cases h : q % 2 = 0
 ·rw [if_pos h, if_neg (by omega)]
 ·rw [if_neg h, if_pos (by omega)]
set_option maxRecDepth 100000 in
set_option maxHeartbeats 4000000 in
theorem rf_placed {p : ProdS} {s : SlotS} {cx cy : Int} (hp : (1 ≤ p.wide ∧ p.wide ≤ 500000) ∧ 1 ≤ p.high ∧ p.high ≤ 500000) (hs : (0 ≤ s.x ∧ s.x ≤ 500000) ∧ (0 ≤ s.y ∧ s.y ≤ 500000) ∧ 0 ≤ s.quarter ∧ s.quarter ≤ 3) (hx : 0 ≤ cx ∧ cx ≤ 500000) (hy : 0 ≤ cy ∧ cy ≤ 500000) :
  SpecN Tryz.prog 81 [avProd p, avSl s, avI cx, avI cy] (fun y => y = .tup [avI (plX p s.quarter cx cy + s.x), avI (plY p s.quarter cx cy + s.y)]) := by
 refine SpecN.of_VCN Tryz.func81 rfl Tryz.ntmps81 (Nle rfl) fun w A hB => ?_
 have hnew : True := trivial
 refine VC.sr ?_
 refine VO.op rfl (OpE.box rfl hB rfl rfl rfl ?_)
 intro g4
 refine VO.op rfl (OpE.box rfl hB rfl rfl rfl ?_)
 intro g5
 refine VO.ma rfl rfl rfl rfl ?_
 refine VO.ma rfl rfl rfl rfl ?_
 refine VO.nil ?_
 refine VC.seq ?_
 refine VC.draw (fun _ => NoB) hB (by kernel_rfl) ?_
 refine VA.take (i := 0) rfl (by kernel_rfl) (by kernel_rfl) (by kernel_rfl) rfl rfl (OpV.fieldAddrO 1 rfl Tryz.underlying28 rfl rfl Tryz.sizeOf3 rfl) ?_
 refine VA.take (i := 1) rfl (by kernel_rfl) (by kernel_rfl) (by kernel_rfl) rfl rfl (OpV.load_own (i := 0) rfl hB Tryz.isAgg3 rfl rfl rfl Wi.not0) ?_
 refine VA.take (i := 2) rfl (by kernel_rfl) (by kernel_rfl) (by kernel_rfl) rfl rfl (OpV.fieldAddrO 2 rfl Tryz.underlying28 rfl rfl Tryz.sizeOf3 rfl) ?_
 refine VA.take (i := 3) rfl (by kernel_rfl) (by kernel_rfl) (by kernel_rfl) rfl rfl (OpV.load_own (i := 0) rfl hB Tryz.isAgg3 rfl rfl rfl Wi.not0) ?_
 refine VA.take (i := 4) rfl (by kernel_rfl) (by kernel_rfl) (by kernel_rfl) rfl rfl (OpV.move (.inr rfl) rfl) ?_
 refine VA.take (i := 5) rfl (by kernel_rfl) (by kernel_rfl) (by kernel_rfl) rfl rfl (OpV.move (.inr rfl) rfl) ?_
 refine VA.done (by kernel_rfl) ?_
 refine VC.seq ?_
 refine VC.seq ?_
 obtain ⟨m, hm⟩ : ∃ m : Nat, s.quarter = m := ⟨_, (Int.toNat_of_nonneg hs.2.2.1).symm⟩
 have hm3 : m ≤ 3 := by have := hs.2.2.2; omega
 refine VC.region ?_
 refine VO.val rfl rfl (OpV.fieldAddrO 2 rfl Tryz.underlying94 rfl rfl Tryz.sizeOf3 rfl) ?_
 refine VO.val rfl rfl (OpV.load_own (i := 1) rfl hB Tryz.isAgg3 rfl rfl rfl (fun h => h)) ?_
 refine VO.le _ (Le.recast (t := 17) (y := avI (m : Int)) rfl (fun w Z u h => by rw [← hm]; exact h)) ?_
 refine VO.mv rfl rfl rfl rfl ?_
 refine VO.nil ?_
 refine VC.block ?_
 refine VC.loopK [(5, _), (17, _)] ⟨rfl, rfl, trivial⟩ ({q : Nat // q ≤ m}) (fun (iZ : {q : Nat // q ≤ m}) => match iZ with | ⟨q, hq⟩ => [(2, avI (plX p q cx cy)), (3, avI (plY p q cx cy)), (10, avI (if q % 2 = 0 then p.wide else p.high)), (11, avI (if q % 2 = 0 then p.high else p.wide)), (18, avI (q : Int))]) (fun (iZ : {q : Nat // q ≤ m}) => match iZ with | ⟨q, hq⟩ => [.box g5 ⟨[avI s.x, avI s.y, avI s.quarter, avB s.skip], 94, 4⟩]) (fun (iZ : {q : Nat // q ≤ m}) => match iZ with | ⟨q, hq⟩ => 0) (fun (iZ : {q : Nat // q ≤ m}) => match iZ with | ⟨q, hq⟩ => m - q) ⟨0, Nat.zero_le _⟩ (Le.mk hB [1] ⟨rfl, rfl, rfl, rfl, rfl, rfl, rfl, trivial⟩ rfl rfl (Nat.le_refl _)) ?_
 rintro ⟨q, hq⟩
 show VC _ _ _ _ ⟨[(2, avI (plX p q cx cy)), (3, avI (plY p q cx cy)), (10, avI (if q % 2 = 0 then p.wide else p.high)), (11, avI (if q % 2 = 0 then p.high else p.wide)), (18, avI (q : Int))] ++ [(5, _), (17, _)], [.box g5 ⟨[avI s.x, avI s.y, avI s.quarter, avB s.skip], 94, 4⟩], 0⟩
 have hbx : -2000000 ≤ plX p q cx cy ∧ plX p q cx cy ≤ 2000000 := by unfold plX; (repeat' split) <;> omega
 have hby : -2000000 ≤ plY p q cx cy ∧ plY p q cx cy ≤ 2000000 := by unfold plY; (repeat' split) <;> omega
 refine VC.sr ?_
 refine VO.val rfl rfl (OpV.lss rfl rfl rfl) ?_
 refine VO.nil ?_
 refine VC.seq ?_
 refine VC.cond rfl (fun aH1b => ?_) (fun aH1b => ?_)
 ·have aH1 := aH1b
  try simp only [qqT, qqF, qqN, qqM, qqL, qqE] at aH1
  refine VC.skip ?_
  refine VC.seq ?_
  refine VC.block ?_
  refine VC.sr ?_
  refine VO.mv rfl rfl rfl rfl ?_
  refine VO.mv rfl rfl rfl rfl ?_
  refine VO.mv rfl rfl rfl rfl ?_
  refine VO.op rfl (OpE.call rfl hB rfl Tryz.call128 rfl (SpecN.spec (rf_quarter (cx := plX p q cx cy) (cy := plY p q cx cy) (h := if q % 2 = 0 then p.high else p.wide) (by split <;> omega) (by omega))) ?_)
  rintro _ rfl
  refine VO.mv rfl rfl rfl rfl ?_
  refine VO.val rfl rfl (OpV.extract rfl rfl rfl) ?_
  refine VO.val rfl rfl (OpV.extract rfl rfl rfl) ?_
  refine VO.ma rfl rfl rfl rfl ?_
  refine VO.ma rfl rfl rfl rfl ?_
  refine VO.nil ?_
  refine VC.region ?_
  refine VO.mv rfl rfl rfl rfl ?_
  refine VO.mv rfl rfl rfl rfl ?_
  refine VO.ma rfl rfl rfl rfl ?_
  refine VO.ma rfl rfl rfl rfl ?_
  refine VO.nil ?_
  refine VC.region ?_
  refine VO.val rfl rfl (OpV.add rfl rfl rfl (by unfold fits; omega)) ?_
  refine VO.mv rfl rfl rfl rfl ?_
  refine VO.nil ?_
  exact Exists.intro (⟨q + 1, by omega⟩) (And.intro (Le.mk hB [0] ⟨(by rw [show ((q + 1 : Nat) : Int) = (q : Int) + 1 by omega, (pl_step (x := cx) (y := cy) (by omega)).1]; rfl), (by rw [show ((q + 1 : Nat) : Int) = (q : Int) + 1 by omega, (pl_step (x := cx) (y := cy) (by omega)).2]; rfl), (by rw [alt_succ]; rfl), (by rw [alt_succ]; rfl), rfl, rfl, rfl, trivial⟩ rfl rfl (Nat.le_refl _)) (by first | omega | (show _ < _; omega) | (simp only []; omega)))
 ·have aH1 := aH1b
  try simp only [qqT, qqF, qqN, qqM, qqL, qqE] at aH1
  refine VC.exit ?_
  refine VC.seq ?_
  have hqe : q = m := by omega
  rw [hqe] at hbx hby
  rw [hqe]
  refine VC.draw (fun _ => NoB) hB (by kernel_rfl) ?_
  refine VA.take (i := 0) rfl (by kernel_rfl) (by kernel_rfl) (by kernel_rfl) rfl rfl (OpV.move (.inl rfl) rfl) ?_
  refine VA.take (i := 1) rfl (by kernel_rfl) (by kernel_rfl) (by kernel_rfl) rfl rfl (OpV.fieldAddrO 0 rfl Tryz.underlying94 rfl rfl Tryz.sizeOf3 rfl) ?_
  refine VA.take (i := 2) rfl (by kernel_rfl) (by kernel_rfl) (by kernel_rfl) rfl rfl (OpV.load_own (i := 0) rfl hB Tryz.isAgg3 rfl rfl rfl Wi.not0) ?_
  refine VA.take (i := 3) rfl (by kernel_rfl) (by kernel_rfl) (by kernel_rfl) rfl rfl (OpV.add rfl rfl rfl (by unfold fits; omega)) ?_
  refine VA.take (i := 4) rfl (by kernel_rfl) (by kernel_rfl) (by kernel_rfl) rfl rfl (OpV.move (.inl rfl) rfl) ?_
  refine VA.take (i := 5) rfl (by kernel_rfl) (by kernel_rfl) (by kernel_rfl) rfl rfl (OpV.fieldAddrO 1 rfl Tryz.underlying94 rfl rfl Tryz.sizeOf3 rfl) ?_
  refine VA.take (i := 6) rfl (by kernel_rfl) (by kernel_rfl) (by kernel_rfl) rfl rfl (OpV.load_own (i := 0) rfl hB Tryz.isAgg3 rfl rfl rfl Wi.not0) ?_
  refine VA.take (i := 7) rfl (by kernel_rfl) (by kernel_rfl) (by kernel_rfl) rfl rfl (OpV.add rfl rfl rfl (by unfold fits; omega)) ?_
  refine VA.take (i := 8) rfl (by kernel_rfl) (by kernel_rfl) (by kernel_rfl) rfl rfl (OpV.move (.inr rfl) rfl) ?_
  refine VA.take (i := 9) rfl (by kernel_rfl) (by kernel_rfl) (by kernel_rfl) rfl rfl (OpV.move (.inr rfl) rfl) ?_
  refine VA.done (by kernel_rfl) ?_
  refine VC.ret ?_
  exact Exists.intro _ (And.intro (RetN.two Tryz.results81 (ResN.v rfl) (ResN.v rfl)) (by rw [hm]))
end Go.Proofs.YtceflkkgmmcieaaGreatDoor
namespace Go.Proofs.YtceflkkgmmcieaaGreatDoor
open Go.RowKit
set_option linter.unusedVariables false
set_option linter.unusedSimpArgs false
theorem not_true_false {b : Bool} (h : (!b) = true) : b = false := by cases b <;> simp_all
theorem not_false_true {b : Bool} (h : (!b) = false) : b = true := by cases b <;> simp_all
def eqLs {α : Type} (e : α → α → Bool) : List α → List α → Bool
 | [], [] => true
 | x :: l, y :: r => e x y && eqLs e l r
 | _, _ => false
theorem eqLs_self {α : Type} {e : α → α → Bool} (h : ∀ x, e x x = true) : ∀ l : List α, eqLs e l l = true
 | [] => rfl
 | x :: l => by rw [eqLs, h, eqLs_self h l]; rfl
theorem eqLs_len {α : Type} {e : α → α → Bool} : ∀ {l r : List α}, l.length ≠ r.length → eqLs e l r = false
 | [], [], h => absurd rfl h
 | [], _ :: _, _ => rfl
 | _ :: _, [], _ => rfl
 | x :: l, y :: r, h => by rw [eqLs, eqLs_len (by simpa using h), Bool.and_false]
theorem eqLs_at {α : Type} {e : α → α → Bool} {d : α} : ∀ {l r : List α} {q : Nat}, q < l.length → e (l.getD q d) (r.getD q d) = false → eqLs e l r = false
 | [], _, q, h, _ => by simp at h
 | x :: l, [], q, h, _ => rfl
 | x :: l, y :: r, 0, _, h2 => by simp at h2; rw [eqLs, h2]; rfl
 | x :: l, y :: r, q + 1, h1, h2 => by rw [eqLs, eqLs_at (d := d) (q := q) (by simpa using h1) (by simpa using h2), Bool.and_false]
theorem eqLs_all {α : Type} {e : α → α → Bool} {d : α} : ∀ {l r : List α}, l.length = r.length → (∀ j, j < l.length → e (l.getD j d) (r.getD j d) = true) → eqLs e l r = true
 | [], [], _, _ => rfl
 | [], _ :: _, h, _ => by simp at h
 | _ :: _, [], h, _ => by simp at h
 | x :: l, y :: r, h, h2 => by
  have h0 := h2 0 (by simp)
  simp at h0
  rw [eqLs, h0, eqLs_all (d := d) (by simpa using h) (fun j hj => by simpa using h2 (j + 1) (by simpa using hj))]
  rfl
end Go.Proofs.YtceflkkgmmcieaaGreatDoor
namespace Go.Proofs.YtceflkkgmmcieaaGreatDoor
open Go.RowKit
set_option linter.unusedVariables false
set_option linter.unusedSimpArgs false
theorem SpecH.fnv {P : Program} {F G : FuncId} {x : AV} {hp : List Ent} {Q : AV → List Ent → Prop} (h : SpecH P F [x, .fn G []] hp Q) : SpecH P F [x, .v (.func (.func G) #[] #[])] hp Q := fun w A us ha h2 h3 h4 => by
 refine h w A us ⟨ha.1, fun j hj => ?_⟩ h2 h3 h4
 match j, hj with
 | 0, hj => exact ha.2 0 (by simp)
 | 1, hj =>
  have h1 := ha.2 1 (by simp)
  have e : us.getD 1 undef = .func (.func G) #[] #[] := h1.eq_v
  show Rep w _ (.fn G []) (us.getD 1 undef)
  rw [e]
  exact .fn G [] #[] rfl fun j hj => by simp at hj
def zeroPl : PlaceS := ⟨⟨#[]⟩, ⟨#[]⟩, 0, 0, 0⟩
def atPl (p : ProdS) (k : ByteArray) : PlaceS := if hasN p k = true then placeO p k else zeroPl
def eqNd (x y : NeedS) : Bool := sEq x.key y.key && (decide (x.count = y.count) && true)
theorem eqNd_self (x : NeedS) : eqNd x x = true := by simp [eqNd, sEq_refl]
def eqSp (x y : SpotS) : Bool := decide (x.slot = y.slot) && (sEq x.name y.name && (decide (x.x = y.x) && (decide (x.y = y.y) && (decide (x.quarter = y.quarter) && true))))
theorem eqSp_self (x : SpotS) : eqSp x x = true := by simp [eqSp, sEq_refl]
def spotP (p : ProdS) (n : PanS) (q r : Nat) : List SpotS := spotQ p n q ++ if (n.slots.getD q default).skip = true then [] else (p.places.take r).map (spotF p n q)
theorem spotP_0 (p : ProdS) (n : PanS) (q : Nat) : spotP p n q 0 = spotQ p n q := by simp [spotP]
theorem spotP_skip {p : ProdS} {n : PanS} {q r : Nat} (h : (n.slots.getD q default).skip = true) : spotP p n q (r + 1) = spotP p n q r := by rw [spotP, spotP, if_pos h, if_pos h]
theorem spotP_some {p : ProdS} {n : PanS} {q r : Nat} (h : (n.slots.getD q default).skip = false) (hr : r < p.places.length) : spotP p n q (r + 1) = spotP p n q r ++ [spotF p n q (p.places.getD r default)] := by
 rw [spotP, spotP, if_neg (by rw [h]; simp), if_neg (by rw [h]; simp), place_snoc _ hr, List.append_assoc]
theorem spotP_end {p : ProdS} {n : PanS} {q : Nat} : spotP p n q p.places.length = spotQ p n (q + 1) := by
 unfold spotP
 cases h : (n.slots.getD q default).skip with
 | true => rw [spotQ_skip h]; simp
 | false => rw [spotQ_some h]; simp
theorem spotP_len (p : ProdS) (n : PanS) (q r : Nat) : (spotP p n q r).length ≤ (spotQ p n q).length + p.places.length := by
 unfold spotP
 rw [List.length_append]
 split
 ·simp
 ·rw [List.length_map, List.length_take]; omega
theorem hasN_found {p : ProdS} {k : ByteArray} {q : Nat} (hq : q < p.places.length) (h : sEq (p.places.getD q default).name k = true) (hn : ∀ j, j < q → sEq (p.places.getD j default).name k = false) : atPl p k = p.places.getD q default ∧ hasN p k = true := by
 have h1 : hasN p k = true := by
  unfold hasN
  rw [List.any_eq_true]
  refine ⟨p.places[q], List.getElem_mem hq, ?_⟩
  rw [List.getD_eq_getElem?_getD, List.getElem?_eq_getElem hq] at h
  exact h
 refine ⟨?_, h1⟩
 rw [atPl, if_pos h1, placeO]
 have : p.places.find? (fun x => sEq x.name k) = some p.places[q] := by
  rw [List.find?_eq_some_iff_getElem]
  rw [List.getD_eq_getElem?_getD, List.getElem?_eq_getElem hq] at h
  refine ⟨h, q, hq, rfl, fun j hj => ?_⟩
  have := hn j hj
  rw [List.getD_eq_getElem?_getD, List.getElem?_eq_getElem (by omega)] at this
  simp at this ⊢
  exact this
 rw [this, List.getD_eq_getElem?_getD, List.getElem?_eq_getElem hq]
theorem hasN_none {p : ProdS} {k : ByteArray} (hn : ∀ j, j < p.places.length → sEq (p.places.getD j default).name k = false) : atPl p k = zeroPl ∧ hasN p k = false := by
 have h1 : hasN p k = false := by
  unfold hasN
  rw [List.any_eq_false]
  intro x hx
  obtain ⟨j, hj, rfl⟩ := List.getElem_of_mem hx
  have := hn j hj
  rw [List.getD_eq_getElem?_getD, List.getElem?_eq_getElem hj] at this
  simpa using this
 exact ⟨by rw [atPl, if_neg (by rw [h1]; simp)], h1⟩
set_option maxRecDepth 100000 in
theorem slices_Equal_need {xs ys : List NeedS} (hl : xs.length ≤ 1000000000) (hl' : ys.length ≤ 1000000000) :
  SpecN Tryz.prog 28 [avL xs, avL ys] (fun y => y = avB (eqLs eqNd xs ys)) := by
 refine SpecN.of_VCN Tryz.func28 rfl Tryz.ntmps28 (Nle rfl) fun w A hB => ?_
 have hnew : True := trivial
 refine VC.sr ?_
 refine VO.ma rfl rfl rfl rfl ?_
 refine VO.nil ?_
 refine VC.seq ?_
 refine VC.sr ?_
 refine VO.mv rfl rfl rfl rfl ?_
 refine VO.val rfl rfl (OpV.len_im rfl Tryz.underlying36 rfl) ?_
 refine VO.mv rfl rfl rfl rfl ?_
 refine VO.val rfl rfl (OpV.len_im rfl Tryz.underlying36 rfl) ?_
 refine VO.val rfl rfl (OpV.neq rfl rfl rfl) ?_
 refine VO.nil ?_
 refine VC.cond rfl (fun aH1b => ?_) (fun aH1b => ?_)
 ·have aH1 := aH1b
  try simp only [qqT, qqF, qqN, qqM, qqL, qqE] at aH1
  refine VC.sr ?_
  refine VO.ma rfl rfl rfl rfl ?_
  refine VO.nil ?_
  refine VC.ret ?_
  exact Exists.intro _ (And.intro (RetN.one Tryz.results28 (ResN.v rfl)) (by first | rw [eqLs_len (by omega)] | rw [eqLs_at (d := default) (q := q) (by omega) (not_true_false h2b)] | rw [eqLs_all (d := default) (by omega) (fun j hj => hn j (by omega))]))
 ·have aH1 := aH1b
  try simp only [qqT, qqF, qqN, qqM, qqL, qqE] at aH1
  refine VC.skip ?_
  refine VC.seq ?_
  refine VC.sr ?_
  refine VO.mv rfl rfl rfl rfl ?_
  refine VO.val rfl rfl (OpV.len_im rfl Tryz.underlying36 rfl) ?_
  refine VO.mv rfl rfl rfl rfl ?_
  refine VO.nil ?_
  refine VC.block ?_
  refine VC.loopK [(0, _), (1, _), (12, _)] ⟨rfl, rfl, rfl, trivial⟩ ({q : Nat // q ≤ xs.length ∧ ∀ j, j < q → eqNd (xs.getD j default) (ys.getD j default) = true}) (fun (iZ : {q : Nat // q ≤ xs.length ∧ ∀ j, j < q → eqNd (xs.getD j default) (ys.getD j default) = true}) => match iZ with | ⟨q, hq, hn⟩ => [(13, avI (q : Int))]) (fun (iZ : {q : Nat // q ≤ xs.length ∧ ∀ j, j < q → eqNd (xs.getD j default) (ys.getD j default) = true}) => match iZ with | ⟨q, hq, hn⟩ => []) (fun (iZ : {q : Nat // q ≤ xs.length ∧ ∀ j, j < q → eqNd (xs.getD j default) (ys.getD j default) = true}) => match iZ with | ⟨q, hq, hn⟩ => 0) (fun (iZ : {q : Nat // q ≤ xs.length ∧ ∀ j, j < q → eqNd (xs.getD j default) (ys.getD j default) = true}) => match iZ with | ⟨q, hq, hn⟩ => xs.length - q) ⟨0, Nat.zero_le _, fun j hj => absurd hj (Nat.not_lt_zero j)⟩ (Le.mk hB [] ⟨rfl, rfl, rfl, rfl, trivial⟩ rfl rfl (Nat.le_refl _)) ?_
  rintro ⟨q, hq, hn⟩
  show VC _ _ _ _ ⟨[(13, avI (q : Int))] ++ [(0, _), (1, _), (12, _)], [], 0⟩
  refine VC.sr ?_
  refine VO.val rfl rfl (OpV.lss rfl rfl rfl) ?_
  refine VO.nil ?_
  refine VC.seq ?_
  refine VC.cond rfl (fun aH2b => ?_) (fun aH2b => ?_)
  ·have aH2 := aH2b
   try simp only [qqT, qqF, qqN, qqM, qqL, qqE] at aH2
   refine VC.skip ?_
   refine VC.seq ?_
   refine VC.block ?_
   refine VC.sr ?_
   refine VO.mv rfl rfl rfl rfl ?_
   refine VO.ma rfl rfl rfl rfl ?_
   refine VO.nil ?_
   refine VC.seq ?_
   refine VC.draw (fun _ => NoB) hB (by kernel_rfl) ?_
   refine VA.take (i := 0) rfl (by kernel_rfl) (by kernel_rfl) (by kernel_rfl) rfl rfl (OpV.move (.inl rfl) rfl) ?_
   refine VA.take (i := 1) rfl (by kernel_rfl) (by kernel_rfl) (by kernel_rfl) rfl rfl (OpV.move (.inl rfl) rfl) ?_
   refine VA.take (i := 2) rfl (by kernel_rfl) (by kernel_rfl) (by kernel_rfl) rfl rfl (OpV.indexAddr_E rfl Tryz.underlying36 Tryz.sizeOf60 rfl rfl rfl (by omega)) ?_
   refine VA.take (i := 3) rfl (by kernel_rfl) (by kernel_rfl) (by kernel_rfl) rfl rfl (OpV.loadK_at rfl hB OutW.wi0 Tryz.isAgg60 Tryz.sizeOf60 rfl rfl) ?_
   refine VA.take (i := 4) rfl (by kernel_rfl) (by kernel_rfl) (by kernel_rfl) rfl rfl (OpV.move (.inl rfl) rfl) ?_
   refine VA.take (i := 5) rfl (by kernel_rfl) (by kernel_rfl) (by kernel_rfl) rfl rfl (OpV.move (.inl rfl) rfl) ?_
   refine VA.take (i := 6) rfl (by kernel_rfl) (by kernel_rfl) (by kernel_rfl) rfl rfl (OpV.indexAddr_E rfl Tryz.underlying36 Tryz.sizeOf60 rfl rfl rfl (by omega)) ?_
   refine VA.take (i := 7) rfl (by kernel_rfl) (by kernel_rfl) (by kernel_rfl) rfl rfl (OpV.loadK_at rfl hB OutW.wi0 Tryz.isAgg60 Tryz.sizeOf60 rfl rfl) ?_
   refine VA.take (i := 8) rfl (by kernel_rfl) (by kernel_rfl) (by kernel_rfl) rfl rfl (OpV.aneq rfl Tryz.underlying60 (by kernel_rfl) (by kernel_rfl) rfl rfl (EqFs.str Tryz.underlying9 Tryz.isAgg9 rfl (by decide) (EqFs.int Tryz.underlying3 Tryz.isAgg3 rfl (by decide) (EqFs.nil _)))) ?_
   refine VA.done (by kernel_rfl) ?_
   refine VC.cond rfl (fun h2b => ?_) (fun h2b => ?_)
   ·have h2 := h2b
    try simp only [qqT, qqF, qqN, qqM, qqL, qqE] at h2
    refine VC.sr ?_
    refine VO.ma rfl rfl rfl rfl ?_
    refine VO.nil ?_
    refine VC.ret ?_
    exact Exists.intro _ (And.intro (RetN.one Tryz.results28 (ResN.v rfl)) (by first | rw [eqLs_len (by omega)] | rw [eqLs_at (d := default) (q := q) (by omega) (not_true_false h2b)] | rw [eqLs_all (d := default) (by omega) (fun j hj => hn j (by omega))]))
   ·have h2 := h2b
    try simp only [qqT, qqF, qqN, qqM, qqL, qqE] at h2
    refine VC.skip ?_
    refine VC.region ?_
    refine VO.val rfl rfl (OpV.add rfl rfl rfl (by unfold fits; omega)) ?_
    refine VO.mv rfl rfl rfl rfl ?_
    refine VO.nil ?_
    exact Exists.intro (⟨q + 1, by omega, lt_succ_cases hn (not_false_true h2b)⟩) (And.intro (Le.mk hB [] ⟨rfl, rfl, rfl, rfl, trivial⟩ rfl rfl (Nat.le_refl _)) (by first | omega | (show _ < _; omega) | (simp only []; omega)))
  ·have aH2 := aH2b
   try simp only [qqT, qqF, qqN, qqM, qqL, qqE] at aH2
   refine VC.exit ?_
   refine VC.sr ?_
   refine VO.ma rfl rfl rfl rfl ?_
   refine VO.nil ?_
   refine VC.ret ?_
   exact Exists.intro _ (And.intro (RetN.one Tryz.results28 (ResN.v rfl)) (by first | rw [eqLs_len (by omega)] | rw [eqLs_at (d := default) (q := q) (by omega) (not_true_false h2b)] | rw [eqLs_all (d := default) (by omega) (fun j hj => hn j (by omega))]))
set_option maxRecDepth 100000 in
theorem slices_Equal_spot {xs ys : List SpotS} (hl : xs.length ≤ 1000000000) (hl' : ys.length ≤ 1000000000) :
  SpecN Tryz.prog 29 [avL xs, avL ys] (fun y => y = avB (eqLs eqSp xs ys)) := by
 refine SpecN.of_VCN Tryz.func29 rfl Tryz.ntmps29 (Nle rfl) fun w A hB => ?_
 have hnew : True := trivial
 refine VC.sr ?_
 refine VO.ma rfl rfl rfl rfl ?_
 refine VO.nil ?_
 refine VC.seq ?_
 refine VC.sr ?_
 refine VO.mv rfl rfl rfl rfl ?_
 refine VO.val rfl rfl (OpV.len_im rfl Tryz.underlying44 rfl) ?_
 refine VO.mv rfl rfl rfl rfl ?_
 refine VO.val rfl rfl (OpV.len_im rfl Tryz.underlying44 rfl) ?_
 refine VO.val rfl rfl (OpV.neq rfl rfl rfl) ?_
 refine VO.nil ?_
 refine VC.cond rfl (fun aH1b => ?_) (fun aH1b => ?_)
 ·have aH1 := aH1b
  try simp only [qqT, qqF, qqN, qqM, qqL, qqE] at aH1
  refine VC.sr ?_
  refine VO.ma rfl rfl rfl rfl ?_
  refine VO.nil ?_
  refine VC.ret ?_
  exact Exists.intro _ (And.intro (RetN.one Tryz.results29 (ResN.v rfl)) (by first | rw [eqLs_len (by omega)] | rw [eqLs_at (d := default) (q := q) (by omega) (not_true_false h2b)] | rw [eqLs_all (d := default) (by omega) (fun j hj => hn j (by omega))]))
 ·have aH1 := aH1b
  try simp only [qqT, qqF, qqN, qqM, qqL, qqE] at aH1
  refine VC.skip ?_
  refine VC.seq ?_
  refine VC.sr ?_
  refine VO.mv rfl rfl rfl rfl ?_
  refine VO.val rfl rfl (OpV.len_im rfl Tryz.underlying44 rfl) ?_
  refine VO.mv rfl rfl rfl rfl ?_
  refine VO.nil ?_
  refine VC.block ?_
  refine VC.loopK [(0, _), (1, _), (12, _)] ⟨rfl, rfl, rfl, trivial⟩ ({q : Nat // q ≤ xs.length ∧ ∀ j, j < q → eqSp (xs.getD j default) (ys.getD j default) = true}) (fun (iZ : {q : Nat // q ≤ xs.length ∧ ∀ j, j < q → eqSp (xs.getD j default) (ys.getD j default) = true}) => match iZ with | ⟨q, hq, hn⟩ => [(13, avI (q : Int))]) (fun (iZ : {q : Nat // q ≤ xs.length ∧ ∀ j, j < q → eqSp (xs.getD j default) (ys.getD j default) = true}) => match iZ with | ⟨q, hq, hn⟩ => []) (fun (iZ : {q : Nat // q ≤ xs.length ∧ ∀ j, j < q → eqSp (xs.getD j default) (ys.getD j default) = true}) => match iZ with | ⟨q, hq, hn⟩ => 0) (fun (iZ : {q : Nat // q ≤ xs.length ∧ ∀ j, j < q → eqSp (xs.getD j default) (ys.getD j default) = true}) => match iZ with | ⟨q, hq, hn⟩ => xs.length - q) ⟨0, Nat.zero_le _, fun j hj => absurd hj (Nat.not_lt_zero j)⟩ (Le.mk hB [] ⟨rfl, rfl, rfl, rfl, trivial⟩ rfl rfl (Nat.le_refl _)) ?_
  rintro ⟨q, hq, hn⟩
  show VC _ _ _ _ ⟨[(13, avI (q : Int))] ++ [(0, _), (1, _), (12, _)], [], 0⟩
  refine VC.sr ?_
  refine VO.val rfl rfl (OpV.lss rfl rfl rfl) ?_
  refine VO.nil ?_
  refine VC.seq ?_
  refine VC.cond rfl (fun aH2b => ?_) (fun aH2b => ?_)
  ·have aH2 := aH2b
   try simp only [qqT, qqF, qqN, qqM, qqL, qqE] at aH2
   refine VC.skip ?_
   refine VC.seq ?_
   refine VC.block ?_
   refine VC.sr ?_
   refine VO.mv rfl rfl rfl rfl ?_
   refine VO.ma rfl rfl rfl rfl ?_
   refine VO.nil ?_
   refine VC.seq ?_
   refine VC.draw (fun _ => NoB) hB (by kernel_rfl) ?_
   refine VA.take (i := 0) rfl (by kernel_rfl) (by kernel_rfl) (by kernel_rfl) rfl rfl (OpV.move (.inl rfl) rfl) ?_
   refine VA.take (i := 1) rfl (by kernel_rfl) (by kernel_rfl) (by kernel_rfl) rfl rfl (OpV.move (.inl rfl) rfl) ?_
   refine VA.take (i := 2) rfl (by kernel_rfl) (by kernel_rfl) (by kernel_rfl) rfl rfl (OpV.indexAddr_E rfl Tryz.underlying44 Tryz.sizeOf41 rfl rfl rfl (by omega)) ?_
   refine VA.take (i := 3) rfl (by kernel_rfl) (by kernel_rfl) (by kernel_rfl) rfl rfl (OpV.loadK_at rfl hB OutW.wi0 Tryz.isAgg41 Tryz.sizeOf41 rfl rfl) ?_
   refine VA.take (i := 4) rfl (by kernel_rfl) (by kernel_rfl) (by kernel_rfl) rfl rfl (OpV.move (.inl rfl) rfl) ?_
   refine VA.take (i := 5) rfl (by kernel_rfl) (by kernel_rfl) (by kernel_rfl) rfl rfl (OpV.move (.inl rfl) rfl) ?_
   refine VA.take (i := 6) rfl (by kernel_rfl) (by kernel_rfl) (by kernel_rfl) rfl rfl (OpV.indexAddr_E rfl Tryz.underlying44 Tryz.sizeOf41 rfl rfl rfl (by omega)) ?_
   refine VA.take (i := 7) rfl (by kernel_rfl) (by kernel_rfl) (by kernel_rfl) rfl rfl (OpV.loadK_at rfl hB OutW.wi0 Tryz.isAgg41 Tryz.sizeOf41 rfl rfl) ?_
   refine VA.take (i := 8) rfl (by kernel_rfl) (by kernel_rfl) (by kernel_rfl) rfl rfl (OpV.aneq rfl Tryz.underlying41 (by kernel_rfl) (by kernel_rfl) rfl rfl (EqFs.int Tryz.underlying3 Tryz.isAgg3 rfl (by decide) (EqFs.str Tryz.underlying9 Tryz.isAgg9 rfl (by decide) (EqFs.int Tryz.underlying3 Tryz.isAgg3 rfl (by decide) (EqFs.int Tryz.underlying3 Tryz.isAgg3 rfl (by decide) (EqFs.int Tryz.underlying3 Tryz.isAgg3 rfl (by decide) (EqFs.nil _))))))) ?_
   refine VA.done (by kernel_rfl) ?_
   refine VC.cond rfl (fun h2b => ?_) (fun h2b => ?_)
   ·have h2 := h2b
    try simp only [qqT, qqF, qqN, qqM, qqL, qqE] at h2
    refine VC.sr ?_
    refine VO.ma rfl rfl rfl rfl ?_
    refine VO.nil ?_
    refine VC.ret ?_
    exact Exists.intro _ (And.intro (RetN.one Tryz.results29 (ResN.v rfl)) (by first | rw [eqLs_len (by omega)] | rw [eqLs_at (d := default) (q := q) (by omega) (not_true_false h2b)] | rw [eqLs_all (d := default) (by omega) (fun j hj => hn j (by omega))]))
   ·have h2 := h2b
    try simp only [qqT, qqF, qqN, qqM, qqL, qqE] at h2
    refine VC.skip ?_
    refine VC.region ?_
    refine VO.val rfl rfl (OpV.add rfl rfl rfl (by unfold fits; omega)) ?_
    refine VO.mv rfl rfl rfl rfl ?_
    refine VO.nil ?_
    exact Exists.intro (⟨q + 1, by omega, lt_succ_cases hn (not_false_true h2b)⟩) (And.intro (Le.mk hB [] ⟨rfl, rfl, rfl, rfl, trivial⟩ rfl rfl (Nat.le_refl _)) (by first | omega | (show _ < _; omega) | (simp only []; omega)))
  ·have aH2 := aH2b
   try simp only [qqT, qqF, qqN, qqM, qqL, qqE] at aH2
   refine VC.exit ?_
   refine VC.sr ?_
   refine VO.ma rfl rfl rfl rfl ?_
   refine VO.nil ?_
   refine VC.ret ?_
   exact Exists.intro _ (And.intro (RetN.one Tryz.results29 (ResN.v rfl)) (by first | rw [eqLs_len (by omega)] | rw [eqLs_at (d := default) (q := q) (by omega) (not_true_false h2b)] | rw [eqLs_all (d := default) (by omega) (fun j hj => hn j (by omega))]))
set_option maxRecDepth 100000 in
theorem rf_PlacementAt1 {x : PlaceS} {k : ByteArray}  :
  SpecN Tryz.prog 79 [avT x, .at_ 1 (fun _ => avS k)] (fun y => y = avB (sEq x.name k)) := by
 refine SpecN.of_VCN Tryz.func79 rfl Tryz.ntmps79 (Nle rfl) fun w A hB => ?_
 have hnew : True := trivial
 refine VC.sr ?_
 refine VO.op rfl (OpE.box rfl hB rfl rfl rfl ?_)
 intro g2
 refine VO.ma rfl rfl rfl rfl ?_
 refine VO.nil ?_
 refine VC.sr ?_
 refine VO.val rfl rfl (OpV.fieldAddrO 0 rfl Tryz.underlying50 rfl rfl Tryz.sizeOf9 rfl) ?_
 refine VO.val rfl rfl (OpV.load_own (i := 0) rfl hB Tryz.isAgg9 rfl rfl rfl (fun h => h)) ?_
 refine VO.val rfl rfl (OpV.load_at rfl hB OutW.no Tryz.isAgg9 rfl rfl) ?_
 refine VO.val rfl rfl (OpV.seql rfl rfl rfl) ?_
 refine VO.ma rfl rfl rfl rfl ?_
 refine VO.nil ?_
 refine VC.ret ?_
 exact Exists.intro _ (And.intro (RetN.one Tryz.results79 (ResN.v rfl)) (rfl))
set_option maxRecDepth 100000 in
theorem slices_IndexFunc_place {xs : List PlaceS} {F : FuncId} {cs : List AV} {p : PlaceS → Bool} (hl : xs.length ≤ 1000000000) (hcall : ∀ us w, (callFunc F us).run Tryz.prog w = .ok (.enter F us) w) (hF : ∀ x, Spec Tryz.prog F ([avT x] ++ cs) (fun y => y = avB (p x))) :
  SpecN Tryz.prog 78 [avL xs, .fn F cs] (fun y => ∃ q : Int, ((q = -1 ∧ ∀ j, j < xs.length → p (xs.getD j default) = false) ∨ ∃ m : Nat, q = (m : Int) ∧ m < xs.length ∧ p (xs.getD m default) = true ∧ ∀ j, j < m → p (xs.getD j default) = false) ∧ y = avI q) := by
 refine SpecN.of_VCN Tryz.func78 rfl Tryz.ntmps78 (Nle rfl) fun w A hB => ?_
 have hnew : True := trivial
 refine VC.sr ?_
 refine VO.ma rfl rfl rfl rfl ?_
 refine VO.nil ?_
 refine VC.seq ?_
 refine VC.sr ?_
 refine VO.mv rfl rfl rfl rfl ?_
 refine VO.val rfl rfl (OpV.len_im rfl Tryz.underlying26 rfl) ?_
 refine VO.mv rfl rfl rfl rfl ?_
 refine VO.nil ?_
 refine VC.block ?_
 refine VC.loopK [(0, _), (1, _), (7, _)] ⟨rfl, rfl, rfl, trivial⟩ ({q : Nat // q ≤ xs.length ∧ ∀ j, j < q → p (xs.getD j default) = false}) (fun (iZ : {q : Nat // q ≤ xs.length ∧ ∀ j, j < q → p (xs.getD j default) = false}) => match iZ with | ⟨q, hq, hn⟩ => [(8, avI (q : Int))]) (fun (iZ : {q : Nat // q ≤ xs.length ∧ ∀ j, j < q → p (xs.getD j default) = false}) => match iZ with | ⟨q, hq, hn⟩ => []) (fun (iZ : {q : Nat // q ≤ xs.length ∧ ∀ j, j < q → p (xs.getD j default) = false}) => match iZ with | ⟨q, hq, hn⟩ => 0) (fun (iZ : {q : Nat // q ≤ xs.length ∧ ∀ j, j < q → p (xs.getD j default) = false}) => match iZ with | ⟨q, hq, hn⟩ => xs.length - q) ⟨0, Nat.zero_le _, fun j hj => absurd hj (Nat.not_lt_zero j)⟩ (Le.mk hB [] ⟨rfl, rfl, rfl, rfl, trivial⟩ rfl rfl (Nat.le_refl _)) ?_
 rintro ⟨q, hq, hn⟩
 show VC _ _ _ _ ⟨[(8, avI (q : Int))] ++ [(0, _), (1, _), (7, _)], [], 0⟩
 refine VC.sr ?_
 refine VO.val rfl rfl (OpV.lss rfl rfl rfl) ?_
 refine VO.nil ?_
 refine VC.seq ?_
 refine VC.cond rfl (fun aH1b => ?_) (fun aH1b => ?_)
 ·have aH1 := aH1b
  try simp only [qqT, qqF, qqN, qqM, qqL, qqE] at aH1
  refine VC.skip ?_
  refine VC.seq ?_
  refine VC.block ?_
  refine VC.sr ?_
  refine VO.mv rfl rfl rfl rfl ?_
  refine VO.ma rfl rfl rfl rfl ?_
  refine VO.nil ?_
  refine VC.sr ?_
  refine VO.mv rfl rfl rfl rfl ?_
  refine VO.mv rfl rfl rfl rfl ?_
  refine VO.mv rfl rfl rfl rfl ?_
  refine VO.val rfl rfl (OpV.indexAddr_E rfl Tryz.underlying26 Tryz.sizeOf50 rfl rfl rfl (by omega)) ?_
  refine VO.val rfl rfl (OpV.loadK_at rfl hB OutW.no Tryz.isAgg50 Tryz.sizeOf50 rfl rfl) ?_
  refine VO.op rfl (OpE.callF rfl hB rfl hcall rfl rfl (hF _) ?_)
  rintro _ rfl
  refine VO.nil ?_
  refine VC.cond rfl (fun aH2b => ?_) (fun aH2b => ?_)
  ·have aH2 := aH2b
   try simp only [qqT, qqF, qqN, qqM, qqL, qqE] at aH2
   refine VC.sr ?_
   refine VO.mv rfl rfl rfl rfl ?_
   refine VO.ma rfl rfl rfl rfl ?_
   refine VO.nil ?_
   refine VC.ret ?_
   exact Exists.intro _ (And.intro (RetN.one Tryz.results78 (ResN.v rfl)) (by first | exact ⟨_, .inr ⟨q, rfl, by omega, by assumption, hn⟩, rfl⟩ | exact ⟨_, .inl ⟨rfl, fun j hj => hn j (by omega)⟩, rfl⟩))
  ·have aH2 := aH2b
   try simp only [qqT, qqF, qqN, qqM, qqL, qqE] at aH2
   refine VC.skip ?_
   refine VC.region ?_
   refine VO.val rfl rfl (OpV.add rfl rfl rfl (by unfold fits; omega)) ?_
   refine VO.mv rfl rfl rfl rfl ?_
   refine VO.nil ?_
   exact Exists.intro (⟨q + 1, by omega, lt_succ_cases hn ((by assumption))⟩) (And.intro (Le.mk hB [] ⟨rfl, rfl, rfl, rfl, trivial⟩ rfl rfl (Nat.le_refl _)) (by first | omega | (show _ < _; omega) | (simp only []; omega)))
 ·have aH1 := aH1b
  try simp only [qqT, qqF, qqN, qqM, qqL, qqE] at aH1
  refine VC.exit ?_
  refine VC.sr ?_
  refine VO.ma rfl rfl rfl rfl ?_
  refine VO.nil ?_
  refine VC.ret ?_
  exact Exists.intro _ (And.intro (RetN.one Tryz.results78 (ResN.v rfl)) (by first | exact ⟨_, .inr ⟨q, rfl, by omega, by assumption, hn⟩, rfl⟩ | exact ⟨_, .inl ⟨rfl, fun j hj => hn j (by omega)⟩, rfl⟩))
set_option maxRecDepth 100000 in
theorem rf_PlacementAt {p : ProdS} {k : ByteArray} (hl : p.places.length ≤ 1000000) :
  SpecN Tryz.prog 20 [avProd p, avS k] (fun y => y = .tup [avPl (atPl p k), avB (hasN p k)]) := by
 refine SpecN.of_VCN Tryz.func20 rfl Tryz.ntmps20 (Nle rfl) fun w A hB => ?_
 have hnew : True := trivial
 refine VC.sr ?_
 refine VO.op rfl (OpE.box rfl hB rfl rfl rfl ?_)
 intro g2
 refine VO.op rfl (OpE.box rfl hB rfl rfl rfl ?_)
 intro g3
 refine VO.op rfl (OpE.alloc rfl hB rfl Tryz.zeroValue50 rfl ?_)
 intro g4
 refine VO.ma rfl rfl rfl rfl ?_
 refine VO.nil ?_
 refine VC.sr ?_
 refine VO.val rfl rfl (OpV.fieldAddrO 3 rfl Tryz.underlying28 rfl rfl Tryz.sizeOf26 rfl) ?_
 refine VO.val rfl rfl (OpV.load_own (i := 0) rfl hB Tryz.isAgg26 rfl rfl rfl (fun h => h)) ?_
 refine VO.val rfl rfl (OpV.makeFunc1 rfl rfl) ?_
 refine VO.op rfl (OpE.callL rfl hB rfl Tryz.call78 (slices_IndexFunc_place (xs := p.places) (p := fun x => sEq x.name k) (by omega) Tryz.call79 (fun x => rf_PlacementAt1.spec)) (ArgsP.cons (ArgP.ev rfl) (ArgsP.cons (ArgP.fn1 (i := 1) (m := 1) (f := fun _ => avS k) rfl rfl (Nle rfl) (lt1 rfl)) (ArgsP.nil))) ?_)
 rintro _ ⟨i, hi, rfl⟩
 refine VO.ma rfl rfl rfl rfl ?_
 refine VO.nil ?_
 refine VC.seq ?_
 refine VC.sr ?_
 refine VO.mv rfl rfl rfl rfl ?_
 refine VO.val rfl rfl (OpV.lss rfl rfl rfl) ?_
 refine VO.nil ?_
 refine VC.cond rfl (fun h0b => ?_) (fun h0b => ?_)
 ·have h0 := h0b
  try simp only [qqT, qqF, qqN, qqM, qqL, qqE] at h0
  have hno := hi.elim (fun h => h.2) (fun ⟨m, h1, _⟩ => by omega)
  obtain ⟨e1, e2⟩ := hasN_none hno
  refine VC.sr ?_
  refine VO.val rfl rfl (OpV.build (pls := #[(0, 1), (1, 1), (2, 1), (3, 1), (4, 1)]) rfl Tryz.zeroValue50 Tryz.underlying50 (fun w => by kernel_rfl) rfl rfl) ?_
  refine VO.op rfl (OpE.store (i := 2) rfl hB rfl Tryz.sizeOf50 rfl rfl rfl rfl rfl rfl (Nle rfl) trivial ?_)
  refine VO.ma rfl rfl rfl rfl ?_
  refine VO.nil ?_
  refine VC.ret ?_
  exact Exists.intro _ (And.intro (RetN.two Tryz.results20 ((by first | exact ResN.cellF (i := 0) Tryz.isAgg50 Tryz.sizeOf50 rfl rfl rfl (flat_ofB rfl) | exact ResN.cellF (i := 1) Tryz.isAgg50 Tryz.sizeOf50 rfl rfl rfl (flat_ofB rfl) | exact ResN.cellF (i := 2) Tryz.isAgg50 Tryz.sizeOf50 rfl rfl rfl (flat_ofB rfl))) (ResN.v rfl)) (by rw [e1, e2]; rfl))
 ·have h0 := h0b
  try simp only [qqT, qqF, qqN, qqM, qqL, qqE] at h0
  obtain ⟨m, rfl, hm, hf, hn⟩ := hi.elim (fun h => by omega) id
  obtain ⟨e1, e2⟩ := hasN_found hm hf hn
  refine VC.skip ?_
  refine VC.sr ?_
  refine VO.val rfl rfl (OpV.fieldAddrO 3 rfl Tryz.underlying28 rfl rfl Tryz.sizeOf26 rfl) ?_
  refine VO.val rfl rfl (OpV.load_own (i := 0) rfl hB Tryz.isAgg26 rfl rfl rfl (fun h => h)) ?_
  refine VO.mv rfl rfl rfl rfl ?_
  refine VO.val rfl rfl (OpV.indexAddr_E rfl Tryz.underlying26 Tryz.sizeOf50 rfl rfl rfl (by omega)) ?_
  refine VO.val rfl rfl (OpV.loadK_at rfl hB OutW.no Tryz.isAgg50 Tryz.sizeOf50 rfl rfl) ?_
  refine VO.op rfl (OpE.store (i := 2) rfl hB rfl Tryz.sizeOf50 rfl rfl rfl rfl rfl rfl (Nle rfl) trivial ?_)
  refine VO.ma rfl rfl rfl rfl ?_
  refine VO.nil ?_
  refine VC.ret ?_
  exact Exists.intro _ (And.intro (RetN.two Tryz.results20 ((by first | exact ResN.cellF (i := 0) Tryz.isAgg50 Tryz.sizeOf50 rfl rfl rfl (flat_ofB rfl) | exact ResN.cellF (i := 1) Tryz.isAgg50 Tryz.sizeOf50 rfl rfl rfl (flat_ofB rfl) | exact ResN.cellF (i := 2) Tryz.isAgg50 Tryz.sizeOf50 rfl rfl rfl (flat_ofB rfl))) (ResN.v rfl)) (by rw [e1, e2]; rfl))
set_option maxRecDepth 100000 in
set_option maxHeartbeats 2000000 in
theorem rf_SpotOf {p : ProdS} {n : PanS} {i : Nat} {c : PlaceS} (hw : 1 ≤ p.wide ∧ p.wide ≤ 500000) (hh : 1 ≤ p.high ∧ p.high ≤ 500000) (hi : i < n.slots.length) (hs : (0 ≤ (n.slots.getD i default).x ∧ (n.slots.getD i default).x ≤ 500000) ∧ (0 ≤ (n.slots.getD i default).y ∧ (n.slots.getD i default).y ≤ 500000) ∧ 0 ≤ (n.slots.getD i default).quarter ∧ (n.slots.getD i default).quarter ≤ 3) (hc : (0 ≤ c.x ∧ c.x ≤ p.wide) ∧ (0 ≤ c.y ∧ c.y ≤ p.high) ∧ 0 ≤ c.quarter ∧ c.quarter ≤ 3) :
  SpecN Tryz.prog 25 [avProd p, avPan n, avI (i : Int), avPl c] (fun y => y = avSpot (spotF p n i c)) := by
 refine SpecN.of_VCN Tryz.func25 rfl Tryz.ntmps25 (Nle rfl) fun w A hB => ?_
 have hnew : True := trivial
 refine VC.sr ?_
 refine VO.op rfl (OpE.box rfl hB rfl rfl rfl ?_)
 intro g4
 refine VO.op rfl (OpE.box rfl hB rfl rfl rfl ?_)
 intro g5
 refine VO.op rfl (OpE.box rfl hB rfl rfl rfl ?_)
 intro g7
 refine VO.op rfl (OpE.alloc rfl hB rfl Tryz.zeroValue41 rfl ?_)
 intro g8
 refine VO.nil ?_
 refine VC.sr ?_
 refine VO.val rfl rfl (OpV.fieldAddrO 2 rfl Tryz.underlying32 rfl rfl Tryz.sizeOf30 rfl) ?_
 refine VO.val rfl rfl (OpV.load_own (i := 1) rfl hB Tryz.isAgg30 rfl rfl rfl (fun h => h)) ?_
 refine VO.mv rfl rfl rfl rfl ?_
 refine VO.val rfl rfl (OpV.indexAddr_E rfl Tryz.underlying30 Tryz.sizeOf94 rfl rfl rfl (by omega)) ?_
 refine VO.val rfl rfl (OpV.loadK_at rfl hB OutW.no Tryz.isAgg94 Tryz.sizeOf94 rfl rfl) ?_
 refine VO.op rfl (OpE.alloc rfl hB rfl Tryz.zeroValue94 rfl ?_)
 intro g9
 refine VO.op rfl (OpE.store (i := 4) rfl hB rfl Tryz.sizeOf94 rfl rfl rfl rfl rfl rfl (Nle rfl) trivial ?_)
 refine VO.nil ?_
 refine VC.sr ?_
 refine VO.val rfl rfl (OpV.loadK_own (i := 0) rfl hB Tryz.isAgg28 Tryz.sizeOf28 rfl rfl rfl (fun h => h)) ?_
 refine VO.val rfl rfl (OpV.loadK_own (i := 4) rfl hB Tryz.isAgg94 Tryz.sizeOf94 rfl rfl rfl (fun h => h)) ?_
 refine VO.val rfl rfl (OpV.fieldAddrO 2 rfl Tryz.underlying50 rfl rfl Tryz.sizeOf3 rfl) ?_
 refine VO.val rfl rfl (OpV.load_own (i := 2) rfl hB Tryz.isAgg3 rfl rfl rfl (fun h => h)) ?_
 refine VO.val rfl rfl (OpV.fieldAddrO 3 rfl Tryz.underlying50 rfl rfl Tryz.sizeOf3 rfl) ?_
 refine VO.val rfl rfl (OpV.load_own (i := 2) rfl hB Tryz.isAgg3 rfl rfl rfl (fun h => h)) ?_
 refine VO.op rfl (OpE.call rfl hB rfl Tryz.call81 rfl (SpecN.spec (rf_placed (s := n.slots.getD i default) ⟨hw, hh⟩ hs (by omega) (by omega))) ?_)
 rintro _ rfl
 refine VO.mv rfl rfl rfl rfl ?_
 refine VO.val rfl rfl (OpV.extract rfl rfl rfl) ?_
 refine VO.val rfl rfl (OpV.extract rfl rfl rfl) ?_
 refine VO.ma rfl rfl rfl rfl ?_
 refine VO.ma rfl rfl rfl rfl ?_
 refine VO.nil ?_
 refine VC.seq ?_
 have h4 := Int.tmod_eq_emod_of_nonneg (a := c.quarter + (n.slots.getD i default).quarter) (b := 4) (by omega)
 refine VC.region ?_
 refine VO.mv rfl rfl rfl rfl ?_
 refine VO.val rfl rfl (OpV.fieldAddrO 0 rfl Tryz.underlying50 rfl rfl Tryz.sizeOf9 rfl) ?_
 refine VO.val rfl rfl (OpV.load_own (i := 2) rfl hB Tryz.isAgg9 rfl rfl rfl (fun h => h)) ?_
 refine VO.mv rfl rfl rfl rfl ?_
 refine VO.mv rfl rfl rfl rfl ?_
 refine VO.val rfl rfl (OpV.fieldAddrO 4 rfl Tryz.underlying50 rfl rfl Tryz.sizeOf3 rfl) ?_
 refine VO.val rfl rfl (OpV.load_own (i := 2) rfl hB Tryz.isAgg3 rfl rfl rfl (fun h => h)) ?_
 refine VO.val rfl rfl (OpV.fieldAddrO 2 rfl Tryz.underlying94 rfl rfl Tryz.sizeOf3 rfl) ?_
 refine VO.val rfl rfl (OpV.load_own (i := 4) rfl hB Tryz.isAgg3 rfl rfl rfl (fun h => h)) ?_
 refine VO.val rfl rfl (OpV.add rfl rfl rfl (by unfold fits; omega)) ?_
 refine VO.val rfl rfl (OpV.rem rfl rfl rfl (by omega) (by unfold fits; omega)) ?_
 refine VO.val rfl rfl (OpV.build (pls := #[(0, 1), (1, 1), (2, 1), (3, 1), (4, 1)]) rfl Tryz.zeroValue41 Tryz.underlying41 (fun w => by kernel_rfl) rfl rfl) ?_
 refine VO.op rfl (OpE.store (i := 3) rfl hB rfl Tryz.sizeOf41 rfl rfl rfl rfl rfl rfl (Nle rfl) trivial ?_)
 refine VO.nil ?_
 refine VC.ret ?_
 exact Exists.intro _ (And.intro (RetN.one Tryz.results25 ((by first | exact ResN.cellF (i := 0) Tryz.isAgg41 Tryz.sizeOf41 rfl rfl rfl (flat_ofB rfl) | exact ResN.cellF (i := 1) Tryz.isAgg41 Tryz.sizeOf41 rfl rfl rfl (flat_ofB rfl) | exact ResN.cellF (i := 2) Tryz.isAgg41 Tryz.sizeOf41 rfl rfl rfl (flat_ofB rfl) | exact ResN.cellF (i := 3) Tryz.isAgg41 Tryz.sizeOf41 rfl rfl rfl (flat_ofB rfl) | exact ResN.cellF (i := 4) Tryz.isAgg41 Tryz.sizeOf41 rfl rfl rfl (flat_ofB rfl)))) (by rw [Int.add_comm (plX _ _ _ _), Int.add_comm (plY _ _ _ _), Int.add_comm c.quarter]; rfl))
set_option maxRecDepth 100000 in
set_option maxHeartbeats 4000000 in
theorem rf_SpotsOf {p : ProdS} {n : PanS} (h00 : panelF p n = 0) :
  SpecN Tryz.prog 24 [avProd p, avPan n] (fun y => y = avL (spotsR p n)) := by
 refine SpecN.of_VCN Tryz.func24 rfl Tryz.ntmps24 (Nle rfl) fun w A hB => ?_
 have hnew : True := trivial
 refine VC.seq ?_
 have hz := panelF_0 h00
 have hok := prodOk hz.1
 have hpn := panOk hz.2
 have hp1 := hok.len
 have hn1 := hpn.len
 refine VC.region ?_
 refine VO.op rfl (OpE.box rfl hB rfl rfl rfl ?_)
 intro g2
 refine VO.op rfl (OpE.box rfl hB rfl rfl rfl ?_)
 intro g3
 refine VO.ma rfl rfl rfl rfl ?_
 refine VO.nil ?_
 refine VC.sr ?_
 refine VO.ma rfl rfl rfl rfl ?_
 refine VO.nil ?_
 refine VC.seq ?_
 refine VC.sr ?_
 refine VO.val rfl rfl (OpV.fieldAddrO 2 rfl Tryz.underlying32 rfl rfl Tryz.sizeOf30 rfl) ?_
 refine VO.val rfl rfl (OpV.load_own (i := 1) rfl hB Tryz.isAgg30 rfl rfl rfl (fun h => h)) ?_
 refine VO.val rfl rfl (OpV.len_im rfl Tryz.underlying30 rfl) ?_
 refine VO.mv rfl rfl rfl rfl ?_
 refine VO.nil ?_
 refine VC.block ?_
 refine VC.le _ (Le.nilRow 5 41) ?_
 refine VC.loopK [(2, _), (3, _), (11, _), (12, _)] ⟨rfl, rfl, rfl, rfl, trivial⟩ ({z : Value × Nat // z.2 ≤ n.slots.length}) (fun (iZ : {z : Value × Nat // z.2 ≤ n.slots.length}) => match iZ with | ⟨⟨u, q⟩, hq⟩ => [(5, .v u), (13, avI (q : Int))]) (fun (iZ : {z : Value × Nat // z.2 ≤ n.slots.length}) => match iZ with | ⟨⟨u, q⟩, hq⟩ => [boxProd g2 p 28, boxPan g3 n 32, .row u (spotQ p n q).length 5 (rowL (spotQ p n q)) 41]) (fun (iZ : {z : Value × Nat // z.2 ≤ n.slots.length}) => match iZ with | ⟨⟨u, q⟩, hq⟩ => 0) (fun (iZ : {z : Value × Nat // z.2 ≤ n.slots.length}) => match iZ with | ⟨⟨u, q⟩, hq⟩ => n.slots.length - q) ⟨(.slice none 0 0, 0), Nat.zero_le _⟩ (Le.mk hB [0, 1, 2] ⟨rfl, rfl, rfl, rfl, rfl, rfl, trivial⟩ rfl rfl (Nat.le_refl _)) ?_
 rintro ⟨⟨u, q⟩, hq⟩
 show VC _ _ _ _ ⟨[(5, .v u), (13, avI (q : Int))] ++ [(2, _), (3, _), (11, _), (12, _)], [boxProd g2 p 28, boxPan g3 n 32, .row u (spotQ p n q).length 5 (rowL (spotQ p n q)) 41], 0⟩
 simp only at hq
 have hbd := spotQ_bd (p := p) (n := n) (q := q) hq hn1 hp1
 refine VC.sr ?_
 refine VO.val rfl rfl (OpV.lss rfl rfl rfl) ?_
 refine VO.nil ?_
 refine VC.seq ?_
 refine VC.cond rfl (fun aH1b => ?_) (fun aH1b => ?_)
 ·have aH1 := aH1b
  try simp only [qqT, qqF, qqN, qqM, qqL, qqE] at aH1
  refine VC.skip ?_
  refine VC.seq ?_
  refine VC.block ?_
  refine VC.sr ?_
  refine VO.mv rfl rfl rfl rfl ?_
  refine VO.val rfl rfl (OpV.indexAddr_E rfl Tryz.underlying30 Tryz.sizeOf94 rfl rfl rfl (by omega)) ?_
  refine VO.val rfl rfl (OpV.loadK_at rfl hB OutW.no Tryz.isAgg94 Tryz.sizeOf94 rfl rfl) ?_
  refine VO.op rfl (OpE.alloc rfl hB rfl Tryz.zeroValue94 rfl ?_)
  intro g7
  refine VO.ma rfl rfl rfl rfl ?_
  refine VO.op rfl (OpE.store (i := 3) rfl hB rfl Tryz.sizeOf94 rfl rfl rfl rfl rfl rfl (Nle rfl) trivial ?_)
  refine VO.nil ?_
  refine VC.sr ?_
  refine VO.val rfl rfl (OpV.fieldAddrO 3 rfl Tryz.underlying28 rfl rfl Tryz.sizeOf26 rfl) ?_
  refine VO.val rfl rfl (OpV.load_own (i := 0) rfl hB Tryz.isAgg26 rfl rfl rfl (fun h => h)) ?_
  refine VO.val rfl rfl (OpV.len_im rfl Tryz.underlying26 rfl) ?_
  refine VO.mv rfl rfl rfl rfl ?_
  refine VO.nil ?_
  refine VC.block ?_
  refine VC.loopK [(2, _), (3, _), (6, _), (7, _), (11, _), (12, _), (13, _), (19, _), (20, _)] ⟨rfl, rfl, rfl, rfl, rfl, rfl, rfl, rfl, rfl, trivial⟩ ({z : Value × Nat // z.2 ≤ p.places.length}) (fun (iZ : {z : Value × Nat // z.2 ≤ p.places.length}) => match iZ with | ⟨⟨u, r⟩, hr⟩ => [(5, .v u), (21, avI (r : Int))]) (fun (iZ : {z : Value × Nat // z.2 ≤ p.places.length}) => match iZ with | ⟨⟨u, r⟩, hr⟩ => [boxProd g2 p 28, boxPan g3 n 32, .row u (spotP p n q r).length 5 (rowL (spotP p n q r)) 41, .box g7 ⟨[avI (n.slots.getD q default).x, avI (n.slots.getD q default).y, avI (n.slots.getD q default).quarter, avB (n.slots.getD q default).skip], 94, 4⟩]) (fun (iZ : {z : Value × Nat // z.2 ≤ p.places.length}) => match iZ with | ⟨⟨u, r⟩, hr⟩ => 0) (fun (iZ : {z : Value × Nat // z.2 ≤ p.places.length}) => match iZ with | ⟨⟨u, r⟩, hr⟩ => p.places.length - r) ⟨(u, 0), Nat.zero_le _⟩ (Le.mk hB [0, 1, 2, 3] ⟨rfl, rfl, rfl, rfl, rfl, rfl, rfl, rfl, rfl, rfl, rfl, trivial⟩ rfl (by dsimp only; rw [spotP_0]; rfl) (Nat.le_refl _)) ?_
  rintro ⟨⟨u, r⟩, hr⟩
  show VC _ _ _ _ ⟨[(5, .v u), (21, avI (r : Int))] ++ [(2, _), (3, _), (6, _), (7, _), (11, _), (12, _), (13, _), (19, _), (20, _)], [boxProd g2 p 28, boxPan g3 n 32, .row u (spotP p n q r).length 5 (rowL (spotP p n q r)) 41, .box g7 ⟨[avI (n.slots.getD q default).x, avI (n.slots.getD q default).y, avI (n.slots.getD q default).quarter, avB (n.slots.getD q default).skip], 94, 4⟩], 0⟩
  simp only at hr
  have hbp := spotP_len p n q r
  refine VC.sr ?_
  refine VO.val rfl rfl (OpV.lss rfl rfl rfl) ?_
  refine VO.nil ?_
  refine VC.seq ?_
  refine VC.cond rfl (fun aH2b => ?_) (fun aH2b => ?_)
  ·have aH2 := aH2b
   try simp only [qqT, qqF, qqN, qqM, qqL, qqE] at aH2
   refine VC.skip ?_
   refine VC.seq ?_
   refine VC.block ?_
   refine VC.sr ?_
   refine VO.val rfl rfl (OpV.indexAddr_E rfl Tryz.underlying26 Tryz.sizeOf50 rfl rfl rfl (by omega)) ?_
   refine VO.val rfl rfl (OpV.loadK_at rfl hB OutW.no Tryz.isAgg50 Tryz.sizeOf50 rfl rfl) ?_
   refine VO.op rfl (OpE.alloc rfl hB rfl Tryz.zeroValue50 rfl ?_)
   intro g9
   refine VO.op rfl (OpE.store (i := 4) rfl hB rfl Tryz.sizeOf50 rfl rfl rfl rfl rfl rfl (Nle rfl) trivial ?_)
   refine VO.nil ?_
   refine VC.sr ?_
   refine VO.val rfl rfl (OpV.fieldAddrO 3 rfl Tryz.underlying94 rfl rfl Tryz.sizeOf4 rfl) ?_
   refine VO.val rfl rfl (OpV.load_own (i := 3) rfl hB Tryz.isAgg4 rfl rfl rfl (fun h => h)) ?_
   refine VO.val rfl rfl (OpV.not rfl rfl) ?_
   refine VO.nil ?_
   refine VC.cond rfl (fun h2b => ?_) (fun h2b => ?_)
   ·have h2 := h2b
    try simp only [qqT, qqF, qqN, qqM, qqL, qqE] at h2
    refine VC.region ?_
    refine VO.mv rfl rfl rfl rfl ?_
    refine VO.val rfl rfl (OpV.loadK_own (i := 0) rfl hB Tryz.isAgg28 Tryz.sizeOf28 rfl rfl rfl (fun h => h)) ?_
    refine VO.val rfl rfl (OpV.loadK_own (i := 1) rfl hB Tryz.isAgg32 Tryz.sizeOf32 rfl rfl rfl (fun h => h)) ?_
    refine VO.mv rfl rfl rfl rfl ?_
    refine VO.val rfl rfl (OpV.loadK_own (i := 4) rfl hB Tryz.isAgg50 Tryz.sizeOf50 rfl rfl rfl (fun h => h)) ?_
    refine VO.op rfl (OpE.call rfl hB rfl Tryz.call25 rfl (SpecN.spec (rf_SpotOf (i := q) (c := p.places.getD r default) hok.wide hok.high (by omega) (hpn.all q (by omega)) (placeE_zero (hok.all r (by omega))))) ?_)
    rintro _ rfl
    refine VO.op rfl (OpE.buildSlice (zc := #[.int .i64 0, .string ⟨#[]⟩, .int .i64 0, .int .i64 0, .int .i64 0]) rfl hB rfl Tryz.underlying44 Tryz.sizeOf41 Tryz.zeroValue41 (by decide) (by decide) (by kernel_rfl) rfl rfl ?_)
    refine VO.op rfl (OpE.append1 (i := 2) rfl hB rfl Tryz.underlying44 (infoOf Tryz.t41 5 (by kernel_rfl) rfl rfl) rfl (by decide) (by decide) rfl rfl rfl rfl (rowL_snoc _ (spotF p n q (p.places.getD r default))) (by omega) (fun _ _ => trivial) ?_)
    intro u35
    refine VO.ma rfl rfl rfl rfl ?_
    refine VO.nil ?_
    refine VC.region ?_
    refine VO.val rfl rfl (OpV.add rfl rfl rfl (by unfold fits; omega)) ?_
    refine VO.mv rfl rfl rfl rfl ?_
    refine VO.nil ?_
    exact Exists.intro (⟨(u35, r + 1), by show r + 1 ≤ _; omega⟩) (And.intro (Le.mk hB [0, 1, 2, 3] ⟨rfl, rfl, rfl, rfl, rfl, rfl, rfl, rfl, rfl, rfl, rfl, trivial⟩ rfl (by dsimp only; first | (rw [spotP_skip h2]; rfl) | (rw [spotP_some h2 (by omega), List.length_append]; rfl)) (Nat.le_refl _)) (by first | omega | (show _ < _; omega) | (simp only []; omega)))
   ·have h2 := h2b
    try simp only [qqT, qqF, qqN, qqM, qqL, qqE] at h2
    refine VC.skip ?_
    refine VC.region ?_
    refine VO.val rfl rfl (OpV.add rfl rfl rfl (by unfold fits; omega)) ?_
    refine VO.mv rfl rfl rfl rfl ?_
    refine VO.nil ?_
    exact Exists.intro (⟨(u, r + 1), by show r + 1 ≤ _; omega⟩) (And.intro (Le.mk hB [0, 1, 2, 3] ⟨rfl, rfl, rfl, rfl, rfl, rfl, rfl, rfl, rfl, rfl, rfl, trivial⟩ rfl (by dsimp only; first | (rw [spotP_skip h2]; rfl) | (rw [spotP_some h2 (by omega), List.length_append]; rfl)) (Nat.le_refl _)) (by first | omega | (show _ < _; omega) | (simp only []; omega)))
  ·have aH2 := aH2b
   try simp only [qqT, qqF, qqN, qqM, qqL, qqE] at aH2
   obtain rfl : r = p.places.length := by omega
   refine VC.exit ?_
   refine VC.region ?_
   refine VO.val rfl rfl (OpV.add rfl rfl rfl (by unfold fits; omega)) ?_
   refine VO.mv rfl rfl rfl rfl ?_
   refine VO.nil ?_
   exact Exists.intro (⟨(u, q + 1), by show q + 1 ≤ _; omega⟩) (And.intro (Le.mk hB [0, 1, 2] ⟨rfl, rfl, rfl, rfl, rfl, rfl, trivial⟩ rfl (by dsimp only; rw [← spotP_end]; rfl) (Nat.le_refl _)) (by first | omega | (show _ < _; omega) | (simp only []; omega)))
 ·have aH1 := aH1b
  try simp only [qqT, qqF, qqN, qqM, qqL, qqE] at aH1
  refine VC.exit ?_
  refine VC.sr ?_
  refine VO.mv rfl rfl rfl rfl ?_
  refine VO.ma rfl rfl rfl rfl ?_
  refine VO.nil ?_
  refine VC.ret ?_
  exact Exists.intro _ (And.intro (RetN.one Tryz.results24 (ResN.rowT (i := 2) rfl rfl rfl (flat_spot _))) (by rw [spotsR, if_pos h00, show q = n.slots.length by omega]))
set_option maxRecDepth 100000 in
theorem rf_needsOf1 {x z : NeedS}  :
  SpecN Tryz.prog 127 [avNd x, avNd z] (fun y => y = avI (cmpB x.key z.key)) := by
 refine SpecN.of_VCN Tryz.func127 rfl Tryz.ntmps127 (Nle rfl) fun w A hB => ?_
 have hnew : True := trivial
 refine VC.sr ?_
 refine VO.op rfl (OpE.box rfl hB rfl rfl rfl ?_)
 intro g2
 refine VO.op rfl (OpE.box rfl hB rfl rfl rfl ?_)
 intro g3
 refine VO.ma rfl rfl rfl rfl ?_
 refine VO.nil ?_
 refine VC.sr ?_
 refine VO.val rfl rfl (OpV.fieldAddrO 0 rfl Tryz.underlying60 rfl rfl Tryz.sizeOf9 rfl) ?_
 refine VO.val rfl rfl (OpV.load_own (i := 0) rfl hB Tryz.isAgg9 rfl rfl rfl (fun h => h)) ?_
 refine VO.val rfl rfl (OpV.fieldAddrO 0 rfl Tryz.underlying60 rfl rfl Tryz.sizeOf9 rfl) ?_
 refine VO.val rfl rfl (OpV.load_own (i := 1) rfl hB Tryz.isAgg9 rfl rfl rfl (fun h => h)) ?_
 refine VO.op rfl (OpE.call rfl hB rfl Tryz.call123 rfl (SpecN.spec (strings_Compare_S)) ?_)
 rintro _ rfl
 refine VO.ma rfl rfl rfl rfl ?_
 refine VO.nil ?_
 refine VC.ret ?_
 exact Exists.intro _ (And.intro (RetN.one Tryz.results127 (ResN.v rfl)) (rfl))
set_option maxRecDepth 100000 in
set_option maxHeartbeats 4000000 in
theorem rf_needsOf {l : List (ByteArray × Int)} (hd : (l.map (·.1)).Nodup) (hl : l.length ≤ 12) :
  SpecN Tryz.prog 80 [avMap kvS eI l] (fun y => y = avL (needsM l)) := by
 refine SpecN.of_VCN Tryz.func80 rfl Tryz.ntmps80 (Nle rfl) fun w A hB => ?_
 have hnew : True := trivial
 refine VC.sr ?_
 refine VO.ma rfl rfl rfl rfl ?_
 refine VO.nil ?_
 refine VC.sr ?_
 refine VO.ma rfl rfl rfl rfl ?_
 refine VO.nil ?_
 refine VC.seq ?_
 refine VC.sr ?_
 refine VO.mv rfl rfl rfl rfl ?_
 refine VO.op rfl (OpE.rangeM rfl hB rfl Tryz.underlying128 rfl ?_)
 intro g7
 refine VO.nil ?_
 refine VC.block ?_
 refine VC.le _ (Le.nilRow 2 60) ?_
 refine VC.loopK [(7, _)] ⟨rfl, trivial⟩ ({z : Value × List Nat // z.2.Nodup ∧ ∀ j ∈ z.2, j < l.length}) (fun (iZ : {z : Value × List Nat // z.2.Nodup ∧ ∀ j ∈ z.2, j < l.length}) => match iZ with | ⟨⟨u, seen⟩, hsd, hsn⟩ => [(3, .v u)]) (fun (iZ : {z : Value × List Nat // z.2.Nodup ∧ ∀ j ∈ z.2, j < l.length}) => match iZ with | ⟨⟨u, seen⟩, hsd, hsn⟩ => [.it g7 l.length (fun j => kvS (l.getD j default).1) (fun j => eI (l.getD j default).2) seen, .row u (pickN l seen).length 2 (rowL (pickN l seen)) 60]) (fun (iZ : {z : Value × List Nat // z.2.Nodup ∧ ∀ j ∈ z.2, j < l.length}) => match iZ with | ⟨⟨u, seen⟩, hsd, hsn⟩ => 0) (fun (iZ : {z : Value × List Nat // z.2.Nodup ∧ ∀ j ∈ z.2, j < l.length}) => match iZ with | ⟨⟨u, seen⟩, hsd, hsn⟩ => l.length - seen.length) ⟨(.slice none 0 0, []), List.nodup_nil, fun j hj => by simp at hj⟩ (Le.mk hB [0, 1] ⟨rfl, rfl, trivial⟩ rfl rfl (Nat.le_refl _)) ?_
 rintro ⟨⟨u, seen⟩, hsd, hsn⟩
 show VC _ _ _ _ ⟨[(3, .v u)] ++ [(7, _)], [.it g7 l.length (fun j => kvS (l.getD j default).1) (fun j => eI (l.getD j default).2) seen, .row u (pickN l seen).length 2 (rowL (pickN l seen)) 60], 0⟩
 simp only at hsd hsn
 have hsl := seen_len hsd hsn
 have hpl := pickN_len l seen
 refine VC.sr ?_
 refine VO.op rfl (OpE.nextM (i := 0) rfl hB rfl rfl rfl trivial ?_ ?_)
 ·intro hall8
  refine VO.val rfl rfl (OpV.extract rfl rfl rfl) ?_
  refine VO.nil ?_
  refine VC.seq ?_
  refine VC.condF rfl rfl ?_
  refine VC.exit ?_
  refine VC.sr ?_
  refine VO.mv rfl rfl rfl rfl ?_
  refine VO.op rfl (OpE.callH (rest := [_]) rfl hB rfl Tryz.call126 rfl rfl (SpecH.fnv (sortFunc_need (l0 := pickN l seen) (F := 127) (cs := []) (c := fun x z => cmpB x.key z.key) (by omega) Tryz.call127 (fun x z => rf_needsOf1.spec) ltN_trans ltN_as ltN_neg)) (List.Perm.swap _ _ _) (fun _ _ => trivial) ?_)
  rintro _ _ ⟨r, hpr, rfl, rfl⟩
  refine VO.nil ?_
  refine VC.sr ?_
  refine VO.mv rfl rfl rfl rfl ?_
  refine VO.ma rfl rfl rfl rfl ?_
  refine VO.nil ?_
  refine VC.ret ?_
  exact Exists.intro _ (And.intro (RetN.one Tryz.results80 (ResN.rowT (i := 0) (xs := r) rfl rfl hpr.1.length_eq.symm (flat_need _))) (by rw [needsM_one hd hsd hsn hall8 hpr.1 hpr.2]))
 ·intro j8 hj8 hn8
  have hsd2 : (j8 :: seen).Nodup := List.nodup_cons.2 ⟨hn8, hsd⟩
  have hsn2 : ∀ j ∈ j8 :: seen, j < l.length := fun j hj => (List.mem_cons.1 hj).elim (fun e => e ▸ hj8) (hsn j)
  have hsl2 := seen_len hsd2 hsn2
  have hsl3 : (j8 :: seen).length = seen.length + 1 := rfl
  refine VO.val rfl rfl (OpV.extract rfl rfl rfl) ?_
  refine VO.nil ?_
  refine VC.seq ?_
  refine VC.condT rfl rfl ?_
  refine VC.skip ?_
  refine VC.block ?_
  refine VC.sr ?_
  refine VO.val rfl rfl (OpV.entryM (i := 0) rfl hB rfl rfl) ?_
  refine VO.val rfl rfl (OpV.extract rfl rfl rfl) ?_
  refine VO.val rfl rfl (OpV.extract rfl rfl rfl) ?_
  refine VO.ma rfl rfl rfl rfl ?_
  refine VO.ma rfl rfl rfl rfl ?_
  refine VO.nil ?_
  refine VC.region ?_
  refine VO.mv rfl rfl rfl rfl ?_
  refine VO.mv rfl rfl rfl rfl ?_
  refine VO.mv rfl rfl rfl rfl ?_
  refine VO.val rfl rfl (OpV.build (pls := #[(0, 1), (1, 1)]) rfl Tryz.zeroValue60 Tryz.underlying60 (fun w => by kernel_rfl) rfl rfl) ?_
  refine VO.op rfl (OpE.buildSlice (zc := #[.string ⟨#[]⟩, .int .i64 0]) rfl hB rfl Tryz.underlying36 Tryz.sizeOf60 Tryz.zeroValue60 (by decide) (by decide) (by kernel_rfl) rfl rfl ?_)
  refine VO.op rfl (OpE.append1 (i := 1) rfl hB rfl Tryz.underlying36 (infoOf Tryz.t60 2 (by kernel_rfl) rfl rfl) rfl (by decide) (by decide) rfl rfl rfl rfl (rowL_snoc _ (ndOf (l.getD j8 default))) (by omega) (fun _ _ => trivial) ?_)
  intro u18
  refine VO.ma rfl rfl rfl rfl ?_
  refine VO.nil ?_
  exact Exists.intro (⟨(u18, j8 :: seen), hsd2, hsn2⟩) (And.intro (Le.mk hB [0, 1] ⟨rfl, rfl, trivial⟩ rfl (by dsimp only; rw [pickN_cons, List.length_append]; rfl) (Nat.le_refl _)) (by first | omega | (show _ < _; omega) | (simp only []; omega)))
set_option maxRecDepth 100000 in
set_option maxHeartbeats 4000000 in
theorem rf_NeedsOf {p : ProdS} (hs : SmP p) (h12 : p.places.length ≤ 12) :
  Spec Tryz.prog 23 [avProd p] (fun y => y = avL (needsL p)) := by
 refine Spec.of_VC Tryz.func23 rfl Tryz.ntmps23 (Nle rfl) fun w A hB => ?_
 have hnew : True := trivial
 refine VC.sr ?_
 refine VO.op rfl (OpE.box rfl hB rfl rfl rfl ?_)
 intro g1
 refine VO.ma rfl rfl rfl rfl ?_
 refine VO.nil ?_
 refine VC.sr ?_
 refine VO.op rfl (OpE.makeMap (kvS) (eI) rfl hB rfl ?_)
 intro g6
 refine VO.ma rfl rfl rfl rfl ?_
 refine VO.nil ?_
 refine VC.seq ?_
 refine VC.sr ?_
 refine VO.val rfl rfl (OpV.fieldAddrO 3 rfl Tryz.underlying28 rfl rfl Tryz.sizeOf26 rfl) ?_
 refine VO.val rfl rfl (OpV.load_own (i := 0) rfl hB Tryz.isAgg26 rfl rfl rfl (fun h => h)) ?_
 refine VO.val rfl rfl (OpV.len_im rfl Tryz.underlying26 rfl) ?_
 refine VO.mv rfl rfl rfl rfl ?_
 refine VO.nil ?_
 refine VC.block ?_
 refine VC.loopK [(3, _), (8, _), (9, _)] ⟨rfl, rfl, rfl, trivial⟩ ({q : Nat // q ≤ p.places.length}) (fun (iZ : {q : Nat // q ≤ p.places.length}) => match iZ with | ⟨q, hq⟩ => [(10, avI (q : Int))]) (fun (iZ : {q : Nat // q ≤ p.places.length}) => match iZ with | ⟨q, hq⟩ => [boxProd g1 p 28, mapE kvS g6 eI (cntP (p.places.take q))]) (fun (iZ : {q : Nat // q ≤ p.places.length}) => match iZ with | ⟨q, hq⟩ => 0) (fun (iZ : {q : Nat // q ≤ p.places.length}) => match iZ with | ⟨q, hq⟩ => p.places.length - q) ⟨0, Nat.zero_le _⟩ (Le.mk hB [0, 1] ⟨rfl, rfl, rfl, rfl, trivial⟩ rfl rfl (Nat.le_refl _)) ?_
 rintro ⟨q, hq⟩
 show VC _ _ _ _ ⟨[(10, avI (q : Int))] ++ [(3, _), (8, _), (9, _)], [boxProd g1 p 28, mapE kvS g6 eI (cntP (p.places.take q))], 0⟩
 refine VC.sr ?_
 refine VO.val rfl rfl (OpV.lss rfl rfl rfl) ?_
 refine VO.nil ?_
 refine VC.seq ?_
 refine VC.cond rfl (fun aH1b => ?_) (fun aH1b => ?_)
 ·have aH1 := aH1b
  try simp only [qqT, qqF, qqN, qqM, qqL, qqE] at aH1
  refine VC.skip ?_
  refine VC.seq ?_
  refine VC.block ?_
  refine VC.sr ?_
  refine VO.val rfl rfl (OpV.indexAddr_E rfl Tryz.underlying26 Tryz.sizeOf50 rfl rfl rfl (by omega)) ?_
  refine VO.val rfl rfl (OpV.loadK_at rfl hB OutW.no Tryz.isAgg50 Tryz.sizeOf50 rfl rfl) ?_
  refine VO.op rfl (OpE.alloc rfl hB rfl Tryz.zeroValue50 rfl ?_)
  intro g5
  refine VO.op rfl (OpE.store (i := 2) rfl hB rfl Tryz.sizeOf50 rfl rfl rfl rfl rfl rfl (Nle rfl) trivial ?_)
  refine VO.nil ?_
  refine VC.region ?_
  refine VO.mv rfl rfl rfl rfl ?_
  refine VO.val rfl rfl (OpV.fieldAddrO 1 rfl Tryz.underlying50 rfl rfl Tryz.sizeOf9 rfl) ?_
  refine VO.val rfl rfl (OpV.load_own (i := 2) rfl hB Tryz.isAgg9 rfl rfl rfl (fun h => h)) ?_
  refine VO.val rfl rfl (OpV.lookup_own (i := 1) rfl hB Tryz.underlying128 (KeyOk.str Tryz.underlying9) Tryz.zeroValue3 rfl (KeyE.v rfl) rfl (fun h => h)) ?_
  refine VO.le _ (Le.recast (t := 17) (y := avI (mgetD (cntP (p.places.take q)) (p.places.getD q default).part 0)) rfl (fun w Z u h => by unfold mgetD; revert h; cases mget (cntP (p.places.take q)) (p.places.getD q default).part <;> exact id)) ?_
  refine VO.val rfl rfl (OpV.add rfl rfl rfl (by have h := cntP_bd (p.places.take q) (p.places.getD q default).part; have h2 := List.length_take_le q p.places; unfold fits; omega)) ?_
  refine VO.op rfl (OpE.mapUpdate (i := 1) (xx := mgetD (cntP (p.places.take q)) (p.places.getD q default).part 0 + 1) rfl hB rfl Tryz.underlying128 (KeyOk.str Tryz.underlying9) rfl (KeyE.v rfl) rfl rfl trivial ?_)
  refine VO.nil ?_
  refine VC.region ?_
  refine VO.val rfl rfl (OpV.add rfl rfl rfl (by unfold fits; omega)) ?_
  refine VO.mv rfl rfl rfl rfl ?_
  refine VO.nil ?_
  exact Exists.intro (⟨q + 1, by omega⟩) (And.intro (Le.mk hB [0, 1] ⟨rfl, rfl, rfl, rfl, trivial⟩ rfl (by dsimp only; rw [cntP_take (by omega)]; rfl) (Nat.le_refl _)) (by first | omega | (show _ < _; omega) | (simp only []; omega)))
 ·have aH1 := aH1b
  try simp only [qqT, qqF, qqN, qqM, qqL, qqE] at aH1
  refine VC.exit ?_
  refine VC.seq ?_
  have hqe : p.places.take q = p.places := List.take_of_length_le (by omega)
  rw [hqe]
  have hcl := cntP_len p.places
  refine VC.le _ (Le.freezeM (t := 3) (i := 1) hB hnew rfl rfl) ?_
  refine VC.region ?_
  refine VO.mv rfl rfl rfl rfl ?_
  refine VO.op rfl (OpE.call rfl hB rfl Tryz.call80 rfl (SpecN.spec (rf_needsOf (cntP_nodup _) (by omega))) ?_)
  rintro _ rfl
  refine VO.ma rfl rfl rfl rfl ?_
  refine VO.nil ?_
  refine VC.ret ?_
  exact Exists.intro _ (And.intro (RetV.one Tryz.results23 (ResV.tmp rfl)) (rfl))
end Go.Proofs.YtceflkkgmmcieaaGreatDoor
namespace Go.Proofs.YtceflkkgmmcieaaGreatDoor
open Go.RowKit
set_option linter.unusedVariables false
set_option linter.unusedSimpArgs false

def Inp (w : World) (a : Option Addr) (L : List Int) : Prop :=
 L.length ≤ 9223372036854775807 ∧ ∀ i, i < L.length → ∃ b o, a = some ⟨b, o, none⟩ ∧ w.cell? ⟨b, o + i, none⟩ = some (.int .i64 (L.getD i 0))

theorem Inp.ofRow {w : World} {a : Option Addr} {len cap : Nat} {zs : List Int}
  (h : (a = none ∧ len = 0 ∧ cap = 0 ∧ zs = []) ∨
   ∃ x, a = some x ∧ len ≤ cap ∧ cap ≤ maxLen ∧ zs.length = cap ∧ (∀ i, i < zs.length → w.cell? (x.add i) = some (.int .i64 (zs.getD i 0))) ∧ ∀ n ∈ zs, (Lit.int .i64 n).wf = true) :
  ∃ L : List Int, L.length = len ∧ Inp w a L := by
 rcases h with ⟨rfl, rfl, rfl, rfl⟩ | ⟨x, rfl, h1, h2, h3, h4, h5⟩
 ·exact ⟨[], rfl, by simp, by simp⟩
 ·unfold maxLen at h2
  refine ⟨zs.take len, by simp; omega, by simp; omega, fun i hi => ?_⟩
  have hi' : i < len ∧ i < zs.length := by simp at hi; omega
  obtain ⟨b, o, s⟩ := x
  have h0 := h4 0 (by omega)
  have hs : s = none := by
   cases s with
   | none => rfl
   | some s =>
    simp only [Addr.add, if_true, World.cell?] at h0
    split at h0 <;> simp at h0
  subst hs
  have hadd : (⟨b, o, none⟩ : Addr).add i = ⟨b, o + i, none⟩ := by unfold Addr.add; split <;> simp_all
  have := h4 i hi'.2
  rw [hadd] at this
  exact ⟨b, o, rfl, by rw [this]; simp [hi'.1, hi'.2]⟩

def lawQ (t : Nat) (x : Value) (e : Exit) (s : St') : Prop := e = .ret ∧ look s.sl t = some (.v x)
section
variable {P : Program} {w : World} {A : Nat → Prop} {nt t : Nat} {x : Value} {c : Code} {s : St'}
theorem VC.rebase (h : ∀ a w1, R (B0 w A nt) s a w1 → ∃ (B1 : Bs) (s1 : St'), B1.nt = nt ∧ B1.w0 = w1 ∧ (∀ b, B1.S b → w.heap.size ≤ b) ∧ R B1 s1 a w1 ∧ VC P B1 c (lawQ t x) s1) : VC P (B0 w A nt) c (lawQ t x) s := fun a w1 hr => by
 obtain ⟨B1, s1, h1, h2, h3, h4, h5⟩ := h a w1 hr
 refine Code.wp_mono (fun e a' w' ⟨s2, ⟨k1, k2⟩, k3⟩ => ?_) (h5 a w1 h4)
 refine ⟨⟨[(t, .v x)], [], 0⟩, ⟨k1, by simp [look_put]⟩, fun t' y hy => ?_, k3.size.trans h1, k3.defs, fun p hp => by simp at hp, List.Pairwise.nil, ?_, fun p hp => by simp at hp, trivial⟩
 ·rw [look_put] at hy
  split at hy
  ·rename_i e; subst e; cases hy; exact (k3.slots _ _ k2).flat ⟨_, rfl⟩
  ·cases hy
 ·have c1 := hr.chg
  have c2 := k3.chg
  rw [h2] at c2
  exact (c1.any.trans c2).mono fun b hb hs => (Nat.not_lt.2 (h3 b hs) hb).elim
theorem VC.stream {a0 : Option Addr} {cap0 g tot i : Nat} {L : List Int} {sl : List (Nat × AV)} (hi : s.hp[i]? = some (.box g ⟨[.v (.slice a0 L.length cap0), .v (.int .i64 0)], 25, tot⟩)) (htot : tot = 2) (hin : Inp w a0 L) (hsl : LeL s.sl sl) (hf : ∀ p ∈ sl, ∃ v, p.2 = .v v)
  (h : ∀ w1, w.heap.size ≤ g → (B1 w1 (fun b => b ≠ g) nt (fun b => b = g) (fun b => b ≤ g) (TT g L)).Ok → VC P (B1 w1 (fun b => b ≠ g) nt (fun b => b = g) (fun b => b ≤ g) (TT g L)) c (lawQ t x) ⟨sl, [], 0⟩) : VC P (B0 w A nt) c (lawQ t x) s :=
 VC.rebase fun a w1 hr => by
  have hm := List.mem_of_getElem? hi
  obtain ⟨cc, k1, k2, k3, k4⟩ := hr.blocks _ hm
  have hnew : ¬ g < w.heap.size := hr.isNew (fun b h => h) hm rfl
  have hge : w.heap.size ≤ g := by omega
  have hcc : cc = #[.slice a0 L.length cap0, .int .i64 0] := by
   obtain ⟨u0, p0, q0⟩ := k4 0 (by simp)
   obtain ⟨u1, p1, q1⟩ := k4 1 (by simp)
   have e0 := q0.eq_v
   have e1 := q1.eq_v
   have hsz : cc.size = 2 := k2.trans htot
   apply Array.ext (by simpa using hsz)
   intro i hi hi'
   simp at hi'
   match i, hi' with
   | 0, _ => have := Array.getElem?_eq_some_iff.1 p0; simp; rw [this.2, e0]
   | 1, _ => have := Array.getElem?_eq_some_iff.1 p1; simp; rw [this.2, e1]
  subst hcc
  have hT : TT g L w1 0 := ⟨0, Nat.le_refl _, a0, cap0, k1, hin.1, fun i hi => by
   obtain ⟨b, o, e1, e2⟩ := hin.2 i hi
   have hb := World.block_lt_of_cell? w _ e2
   exact ⟨b, o, e1, Nat.lt_of_lt_of_le hb hge, hr.chg.cell e2 fun h => h⟩⟩
  refine ⟨_, _, rfl, rfl, fun b hb => by rw [hb]; exact hge, ?_, h w1 hge (TT.ok hT)⟩
  refine ⟨fun t' y hy => ?_, hr.size, hr.defs, fun p hp => by simp at hp, List.Pairwise.nil, Chg.refl _ _, fun p hp => by simp at hp, hT⟩
  have hs := hr.slots t' y (LeL.look hsl t' y hy)
  have : ∃ v, y = .v v := by
   have key : ∀ (l : List (Nat × AV)), (∀ p ∈ l, ∃ v, p.2 = .v v) → look l t' = some y → ∃ v, y = .v v := by
    intro l
    induction l with
    | nil => intro _ h; cases h
    | cons p r ih =>
     intro hp hl
     obtain ⟨k, z⟩ := p
     rw [look_put] at hl
     split at hl
     ·cases hl; exact hp (k, y) (by simp)
     ·exact ih (fun q hq => hp q (by simp [hq])) hl
   exact key sl hf hy
  exact hs.flat this
theorem law_calls {F : FuncId} {fn : Func} {a0 : Option Addr} {cap0 : Nat} {L : List Int} {body : Code} (hf : P.funcs[F]? = some fn) (hb : fn.body = some body) (hn : fn.ntmps = nt) (h1 : 1 ≤ nt) (hres : fn.results = #[.tmp t])
  (h : VC P (B0 w (fun _ => True) nt) body (lawQ t (.bool true)) ⟨slots0 0 [.v (.slice a0 L.length cap0)], [], 0⟩) : Calls P F #[.slice a0 L.length cap0] w fun e w' => e = .returned (.bool true) ∧ Chg NoB w w' := by
 subst hn
 refine calls_of_wp hf hb (Code.wp_mono (fun e a w' hq => ?_) (h _ w (R.start (us := #[.slice a0 L.length cap0]) (k := 0) rfl ⟨rfl, fun j hj => by simp at hj; subst hj; exact .v _⟩ (fun _ h => h.elim) trivial (by show fn.ntmps = 1 + (fn.ntmps - 1); omega))))
 obtain ⟨s, ⟨rfl, hq⟩, hr⟩ := hq
 refine ⟨hr.defs, .bool true, ?_, rfl, hr.chg⟩
 have hv := (hr.slots t _ hq).eq_v
 simp [results_eq, hres, resRun, hv]
end
theorem Le.boolT {B : Bs} {s : St'} {t : Nat} {b : Bool} (ht : look s.sl t = some (avB b)) (hb : b = true) : Le B s ⟨(t, avB true) :: s.sl, s.hp, s.k⟩ := Le.recast ht fun w Z u h => by subst hb; exact h
end Go.Proofs.YtceflkkgmmcieaaGreatDoor
