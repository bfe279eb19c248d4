/- The symbolic walk: a family of rows of one's own; the order of one's own things. -/
import Derived.Test.YtgikefjbdhnffaaDoorSxTop
namespace Go.Proofs.YtgikefjbdhnffaaDoor
open Go.RowKit
set_option linter.unusedVariables false
set_option linter.unusedSimpArgs false

section
variable {P : Program} {B : Bs} {W : Nat → Prop} {s : St'} {o : Oper} {K : St' → Prop} {Q : Exit → St' → Prop} {a : Act} {w : World}
theorem OpV.convStr {t u : TypeId} {x : Operand} {k : IntKind} {n : Int} (ho : o.op = .convert t u x) (h1 : P.underlying t = some (.int k)) (h2 : P.underlying u = some .string) (hx : evO s x = some (.v (.int k n))) : OpV P B W s o (avS (Utf8.encode n)) :=
  OpV.conc (fun a w hr w' hcw => by simp [execOp, ho, hr.evv hx, convert, run_underlying h1, run_underlying h2, Conv.intToString])
/-- The order of one's own things does not matter. -/
theorem R.perm (hr : R B s a w) {hp : List Ent} (h : s.hp.Perm hp) : R B ⟨s.sl, hp, s.k⟩ a w := by
  have hm : ∀ p, p ∈ hp ↔ p ∈ s.hp := fun p => (h.mem_iff).symm
  have hZ : ∀ b, Zn B s.hp w b → Zn B hp w b := fun b hb => ⟨hb.1, fun p hp => hb.2.1 p ((hm p).1 hp), hb.2.2⟩
  refine ⟨fun t x hx => (hr.slots t x hx).keep fun b hb _ => ⟨rfl, hZ b hb⟩, hr.size, hr.defs, fun p hp => ?_, ?_, hr.chg, fun p hp g hg => hr.own p ((hm p).1 hp) g hg, hr.res⟩
  · exact (hr.blocks p ((hm p).1 hp)).keep (fun b hb _ => ⟨rfl, hZ b hb⟩) fun g _ => rfl
  · refine (h.pairwise_iff ?_).1 hr.nodup
    intro p q hpq g hg hq
    exact hpq g hq hg
theorem Le.perm {hp : List Ent} (h : s.hp.Perm hp) : Le B s ⟨s.sl, hp, s.k⟩ := fun a w hr => hr.perm h
theorem Le.mkP {sl : List (Nat × AV)} {hp hp1 : List Ent} {k : Nat} (hB : B.Ok) (h1 : LeL s.sl sl) (h2 : hp1.Sublist s.hp) (h3 : hp1.Perm hp) (hk : s.k ≤ k) : Le B s ⟨sl, hp, k⟩ := fun a w hr => by
  have hr1 : R B ⟨sl, hp1, s.k⟩ a w := hr.drop (LeL.look h1) h2
  have hr2 : R B ⟨sl, hp, s.k⟩ a w := hr1.perm h3
  exact ⟨hr2.slots, hr2.size, hr2.defs, hr2.blocks, hr2.nodup, hr2.chg, hr2.own, hB.up hr2.res hk⟩
/-- What has come last is put first. -/
theorem Le.front {hp : List Ent} {e : Ent} (h : s.hp = hp ++ [e]) : Le B s ⟨s.sl, e :: hp, s.k⟩ := Le.perm (by rw [h]; exact List.perm_append_comm)
theorem OpE.know {K2 : St' → Prop} (h : OpE P B W s o K2) (hk : ∀ s' a w, K2 s' → R B s' a w → K s') : OpE P B W s o K := fun a w hr next Qx hn =>
  h a w hr next Qx fun s' a' w' h1 h2 h3 => hn s' a' w' (hk s' a' w' h1 h2) h2 h3
/-- A row's value is a slice. -/
theorem R.rowIs (hr : R B s a w) {i n sz : Nat} {u : Value} {cs : List AV} {ty : TypeId} (hi : s.hp[i]? = some (.row u n sz cs ty)) : ∃ b c, u = .slice b n c := by
  obtain ⟨_, ⟨rfl, rfl⟩ | ⟨g, cap, c, rfl, _⟩⟩ := hr.blocks _ (List.mem_of_getElem? hi)
  · exact ⟨none, 0, rfl⟩
  · exact ⟨_, cap, rfl⟩
theorem OpE.append1S {x y : Operand} {T e i n sz bytes : Nat} {u z : Value} {cs cs' : List AV} {F : Nat → AV} (ho : o.op = .call { callee := .builtin .append, args := #[x, y], argTypes := #[T, T] }) (hB : B.Ok) (hd : okd B.nt o.dst = true)
    (hu : P.underlying T = some (.slice e)) (hinfo : (P.info? e).map (fun i => (i.zero, i.size, i.bytes)) = some (some z, sz, bytes)) (hz : z.cells.size = sz) (hsz : 0 < sz) (hby : bytes ≤ 4096)
    (hx : evO s x = some (.v u)) (hi : s.hp[i]? = some (.row u n sz cs e)) (hy : evO s y = some (.im 1 sz F)) (hone : (tab sz F).all AV.one = true) (hcs : cs ++ tab sz F = cs') (hlen : n + 1 ≤ 10000000000) (hW : ∀ g, u.ownBlock = some g → W g)
    (hK : ∀ b c, K ((St'.mk s.sl (s.hp.set i (.row (.slice b (n + 1) c) (n + 1) sz cs' e)) s.k).put o.dst (.v (.slice b (n + 1) c)))) : OpE P B W s o K := by
  refine OpE.know (K2 := fun s' => ∃ u', s' = (St'.mk s.sl (s.hp.set i (.row u' (n + 1) sz cs' e)) s.k).put o.dst (.v u')) (OpE.append1 ho hB hd hu hinfo hz hsz hby hx hi hy hone hcs hlen hW fun u' => ⟨u', rfl⟩) ?_
  rintro s' a w ⟨u', rfl⟩ hr
  have hil := (List.getElem?_eq_some_iff.1 hi).1
  obtain ⟨b, c, rfl⟩ := R.rowIs hr (i := i) (u := u') (n := n + 1) (sz := sz) (cs := cs') (ty := e) (by
    have : ((St'.mk s.sl (s.hp.set i (.row u' (n + 1) sz cs' e)) s.k).put o.dst (.v u')).hp = s.hp.set i (.row u' (n + 1) sz cs' e) := by cases o.dst <;> rfl
    rw [this, List.getElem?_set, if_pos rfl, if_pos hil])
  exact hK b c
end
end Go.Proofs.YtgikefjbdhnffaaDoor
