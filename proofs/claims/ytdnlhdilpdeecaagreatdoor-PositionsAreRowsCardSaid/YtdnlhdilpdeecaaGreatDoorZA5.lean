/- Part 5 of a proof: the walks and laws that it needs. -/
import Derived.BigRegion
import Derived.Deep.RegionLaw
import Derived.Deep.LoopGhost
import Derived.Deep.DeepCutAuto
import Derived.Test.YtdnlhdilpdeecaaGreatDoorZA4
namespace Go.Proofs.YtdnlhdilpdeecaaGreatDoor
open Go.RowKit
set_option linter.unusedVariables false
set_option linter.unusedSimpArgs false

structure Mat {α : Type} [Enc α] (w : World) (lo g n : Nat) (eo ei : TypeId) (V : Nat → Value) (R : Nat → List α) : Prop where
 low : lo ≤ g
 ex : ∃ cur, w.heap[g]? = some (.cells cur eo (0, 0)) ∧ cur.size = n ∧ ∀ k, k < n → cur[k]? = some (V k)
 own : ∀ k, k < n → Own w lo ei (V k) (R k)
 out : ∀ k, k < n → (V k).ownBlock ≠ some g
 sep : ∀ j k, j < n → k < n → j ≠ k → ∀ q, (V j).ownBlock = some q → (V k).ownBlock ≠ some q

namespace Mat
variable {α : Type} [Enc α] {w w' : World} {lo g n : Nat} {eo ei : TypeId} {V : Nat → Value} {R R' : Nat → List α}
theorem lt (h : Mat w lo g n eo ei V R) : g < w.heap.size := by obtain ⟨cur, h1, _⟩ := h.ex; exact (Array.getElem?_eq_some_iff.1 h1).1
theorem start (w : World) (lo n : Nat) (eo ei : TypeId) (hlo : lo ≤ w.heap.size) : Mat (α := α) (w.alloc (.cells (Array.replicate n (.slice none 0 0)) eo)) lo w.heap.size n eo ei (fun _ => .slice none 0 0) (fun _ => []) :=
 ⟨hlo, ⟨_, heap_alloc_new w _, by simp, fun k hk => by simp [hk]⟩, fun k hk => Own.nil _ _ _, fun k hk => by simp [Value.ownBlock], fun j k _ _ _ q h => by simp [Value.ownBlock] at h⟩
theorem congr (h : Mat w lo g n eo ei V R) (e : ∀ k, k < n → R k = R' k) : Mat w lo g n eo ei V R' :=
 ⟨h.low, h.ex, fun k hk => e k hk ▸ h.own k hk, h.out, h.sep⟩
theorem keep {S : Nat → Prop} (h : Mat w lo g n eo ei V R) (c : Chg S w w') (hs : ∀ k, lo ≤ k → k < w.heap.size → ¬ S k) : Mat w' lo g n eo ei V R := by
 obtain ⟨cur, h1, h2, h3⟩ := h.ex
 exact ⟨h.low, ⟨cur, (c.block g h.lt (hs g h.low h.lt)).trans h1, h2, h3⟩, fun k hk => (h.own k hk).keep c hs, h.out, h.sep⟩
theorem cell (h : Mat w lo g n eo ei V R) (k : Nat) (hk : k < n) : w.cell? ⟨g, k, none⟩ = some (V k) := by
 obtain ⟨cur, h1, h2, h3⟩ := h.ex
 simp [World.cell?, h1, h3 k hk]
theorem froz (h : Mat w lo g n eo ei V R) (k : Nat) : w.frozen? ⟨g, k, none⟩ = false := by
 obtain ⟨cur, h1, h2, h3⟩ := h.ex
 simp [World.frozen?, h1]
theorem step [Flat α] (h : Mat w lo g n eo ei V R) (k : Nat) (hk : k < n) (v' : Value) (xs : List α) (ho : Own w' lo ei v' xs) (c : Chg (blk (V k)) w w')
  (hb : ∀ q, v'.ownBlock = some q → (V k).ownBlock = some q ∨ w.heap.size ≤ q) :
  Mat (w'.setCell ⟨g, k, none⟩ v') lo g n eo ei (fun j => if j = k then v' else V j) (fun j => if j = k then xs else R j) := by
 obtain ⟨cur, h1, h2, h3⟩ := h.ex
 have hg : w'.heap[g]? = some (.cells cur eo (0, 0)) := (c.block g h.lt (h.out k hk)).trans h1
 have hs : Chg (AtB g) w' (w'.setCell ⟨g, k, none⟩ v') := Chg.setAt _ _ _ _
 have hvg : v'.ownBlock ≠ some g := by
  intro e
  rcases hb g e with e | e
  ·exact h.out k hk e
  ·have := h.lt; omega
 refine ⟨h.low, ⟨cur.setIfInBounds k v', ?_, by simpa using h2, ?_⟩, ?_, ?_, ?_⟩
 ·simp [World.setCell, Array.getElem?_modify, hg]
 ·intro j hj
  rw [Array.getElem?_setIfInBounds]
  by_cases hjk : k = j
  ·subst hjk; simp [h2, hk]
  ·rw [if_neg hjk, if_neg (fun e => hjk e.symm)]; exact h3 j hj
 ·intro j hj
  by_cases hjk : j = k
  ·subst hjk
   simp only [if_true]
   exact ho.keepF hs fun q hq x => by unfold AtB at x; subst x; exact hvg hq
  ·simp only [if_neg hjk]
   refine ((h.own j hj).keepF c fun q hq x => h.sep j k hj hk hjk q hq x).keepF hs fun q hq x => ?_
   unfold AtB at x; subst x; exact h.out j hj hq
 ·intro j hj
  by_cases hjk : j = k
  ·subst hjk; simpa using hvg
  ·simp only [if_neg hjk]; exact h.out j hj
 ·intro j i hj hi hne q hq
  by_cases hjk : j = k
  ·subst hjk
   simp only [if_true, if_neg (fun e : i = j => hne e.symm)] at hq ⊢
   rcases hb q hq with e | e
   ·exact h.sep j i hk hi hne q e
   ·intro e2
    have := ((h.own i hi).lt q e2).2
    omega
  ·simp only [if_neg hjk] at hq
   by_cases hik : i = k
   ·subst hik
    simp only [if_true]
    intro e
    rcases hb q e with e | e
    ·exact h.sep j i hj hi hjk q hq e
    ·have := ((h.own j hj).lt q hq).2
     omega
   ·simp only [if_neg hik]; exact h.sep j i hj hi hne q hq
theorem isSl (h : Mat w lo g n eo ei V R) (hm : n ≤ maxLen) : IsSl w (fun k => lo ≤ k) (.slice (some ⟨g, 0, none⟩) n n) ((List.range n).map R) := by
 obtain ⟨cur, h1, h2, h3⟩ := h.ex
 refine .inr ⟨g, 0, n, cur, eo, by simp, h.low, by simp, hm, h1, fun i hi => ?_⟩
 simp at hi
 refine ⟨V i, ?_, ?_⟩
 ·simpa [Enc.sz] using h3 i hi
 ·simpa using (h.own i hi).isSl
end Mat

theorem Own.pcell {w : World} {lo e g n cap : Nat} {xs : List Pass} (h : Own w lo e (.slice (some ⟨g, 0, none⟩) n cap) xs) (i : Nat) (hi : i < xs.length) :
  w.cell? ⟨g, i * 2, none⟩ = some (.int .i64 xs[i].taken) ∧ w.cell? ⟨g, i * 2 + 1, none⟩ = some (.int .i64 xs[i].left) := by
 obtain ⟨b, off, ha, hb, hc⟩ := h.isSl.cells.2 (by omega)
 cases ha
 have := hc i hi
 simp only [Enc.Is, Enc.sz, Nat.zero_add, Nat.add_zero] at this
 exact this

theorem infoPass : (Tryz.prog.info? 263).map (fun i => (i.zero, i.size, i.bytes)) = some (some (.agg #[.int .i64 0, .int .i64 0]), 2, 16) := by kernel_rfl
theorem infoSlPass : (Tryz.prog.info? 261).map (fun i => (i.zero, i.size, i.bytes)) = some (some (.slice none 0 0), 1, 24) := by kernel_rfl

def PBlk (w : World) (P : Nat) (x y : Int) : Prop := w.heap[P]? = some (.cells #[.int .i64 x, .int .i64 y] 263 (0, 0))
theorem PBlk.new (w : World) (x y : Int) : PBlk (w.alloc (.cells #[.int .i64 x, .int .i64 y] 263)) w.heap.size x y := heap_alloc_new w _
theorem PBlk.facts {w : World} {P : Nat} {x y : Int} (h : PBlk w P x y) : w.cell? ⟨P, 0, none⟩ = some (.int .i64 x) ∧ w.cell? ⟨P, 1, none⟩ = some (.int .i64 y) ∧ w.frozen? ⟨P, 0, none⟩ = false ∧ w.frozen? ⟨P, 1, none⟩ = false := by
 unfold PBlk at h
 simp [World.cell?, World.frozen?, h]
theorem PBlk.set1 {w : World} {P : Nat} {x y : Int} (h : PBlk w P x y) (z : Int) : PBlk (w.setCell ⟨P, 1, none⟩ (.int .i64 z)) P x z := by
 unfold PBlk at h ⊢; simp [World.setCell, Array.getElem?_modify, h]

def rowP (c bf : List Int) (b k j : Nat) : List Pass := (List.range (if j < k then b + 1 else b)).map fun q => pas c bf q j


theorem flow_step {c bf : List Int} {w wr w5 w6 : World} {V : Nat → Value} {b k g6 cap6 : Nat} {ak : Option Addr} {capk : Nat} {T Z : Int} (hkl : k < c.length)
  (hmx : Mat w5 w.heap.size w.heap.size c.length 261 263 V (rowP c bf b k)) (hT : T = (pas c bf b k).taken) (hZ : Z = (pas c bf b k).left)
  (hv : V k = .slice ak b capk) (hown : Own w6 w.heap.size 263 (.slice (some ⟨g6, 0, none⟩) ((rowP c bf b k k).length + 1) cap6) (rowP c bf b k k ++ [⟨T, Z⟩]))
  (hc6 : Chg (blk (.slice ak b capk)) w5.drew w6) (hg6 : (Value.slice ak b capk).ownBlock = some g6 ∨ w5.drew.heap.size ≤ g6)
  (hch : Chg (NewB w.heap.size) w wr) (hcx : Chg (NewB wr.heap.size) wr w5) :
  Mat (w6.setCell ⟨w.heap.size, k, none⟩ (.slice (some ⟨g6, 0, none⟩) ((rowP c bf b k k).length + 1) cap6)) w.heap.size w.heap.size c.length 261 263
    (fun j => if j = k then .slice (some ⟨g6, 0, none⟩) ((rowP c bf b k k).length + 1) cap6 else V j) (rowP c bf b (k + 1)) ∧
   Chg (NewB w.heap.size) w (w6.setCell ⟨w.heap.size, k, none⟩ (.slice (some ⟨g6, 0, none⟩) ((rowP c bf b k k).length + 1) cap6)) ∧ here c bf b (k + 1) = Z := by
 rw [← hv] at hc6 hg6
 refine ⟨(hmx.step k hkl _ _ hown hc6.ofDrew fun q hq => ?_).congr fun j hj => ?_, ?_, ?_⟩
 ·simp only [Value.ownBlock, Option.some.injEq] at hq
  subst hq; exact hg6
 ·by_cases hjk : j = k
  ·subst hjk
   simp only [if_true, rowP, Nat.lt_irrefl, if_false, Nat.lt_succ_self, List.range_succ, List.map_append, List.map_cons, List.map_nil]
   rw [hT, hZ]
  ·simp only [if_neg hjk, rowP]
   have : j < k + 1 ↔ j < k := by omega
   simp only [this]
 ·have h1 : Chg (NewB w.heap.size) w w5 := hch.trans (hcx.mono fun q hq x => by have := hch.size; unfold NewB at x ⊢; omega)
  exact (h1.trans (hc6.ofDrew.mono fun q hq x => ((hmx.own k hkl).lt q x).1)).setCell (a := ⟨w.heap.size, k, none⟩) (fun _ => Nat.le_refl _) _
 ·simp [here, hZ]

set_option maxHeartbeats 2000000 in
set_option maxRecDepth 100000 in
theorem flow_any (v1 v2 : Value) (c bf : List Int) (n : Nat) (A1 A2 : Nat → Prop) (w : World) (h1 : IsSl w A1 v1 c) (h2 : IsSl w A2 v2 bf) (hr : RightLine c bf) (hn : n ≤ 2000) :
    Calls Tryz.prog 222 #[v1, v2, .int .i64 n] w fun e w' => ∃ v, e = .returned v ∧ IsSl w' (fun k => w.heap.size ≤ k) v ((List.range c.length).map fun k => (List.range n).map fun q => pas c bf q k) ∧ Chg NoB w w' := by
  obtain ⟨a1, cap1, rfl, g1, g2⟩ := h1.shape
  obtain ⟨a2, cap2, rfl, g3, g4⟩ := h2.shape
  unfold maxLen at g2 g4
  have hlen := hr.len
  have hpos := hr.pos
  have hbl := hr.bl
  have HR := hid hr; clear hr
  go_enter Tryz.func222, Tryz.ntmps222
  go_wp2_with (at_make; refine wpl_make_raw w rfl _ _ 259 261 rfl (.slice none 0 0) 24 Tryz.underlying259 infoSlPass rfl (by decide) .i64 .i64 _ _ rfl rfl c.length rfl rfl (by omega) ?_)
  have hst := Mat.start (α := Pass) w w.heap.size c.length 261 263 (Nat.le_refl _)
  obtain ⟨w0, hw0⟩ : ∃ w0, w0 = w.alloc (.cells (Array.replicate c.length (.slice none 0 0)) 261) := ⟨_, rfl⟩
  have hc0 : Chg NoB w w0 := by rw [hw0]; exact (Chg.refl _ _).alloc _
  rw [← hw0] at hst ⊢
  clear hw0
  go_loopw [8, 18] (fun _ i wr => ∃ (b : Nat) (V : Nat → Value), b ≤ n ∧ i = .int .i64 b ∧ Mat wr w.heap.size w.heap.size c.length 261 263 V (rowP c bf b 0) ∧ Chg (NewB w.heap.size) w wr)
    (fun _ i _ => n - (intOf i).toNat)
  case atStart => exact ⟨0, _, by omega, rfl, hst.congr fun k hk => by simp [rowP], hc0.any⟩
  case round =>
    obtain ⟨b, V, hb, rfl, hmat, hch⟩ := hrel
    by_cases hbn : b < n
    · obtain ⟨wo, rfl⟩ : ∃ wo : World, wo = wr := ⟨_, rfl⟩
      go_wp2_with fail
      go_loopw [9, 10, 11, 13, 23] (fun h _ _ _ i wr => ∃ (k : Nat) (V : Nat → Value), k ≤ c.length ∧ i = .int .i64 k ∧ h = .int .i64 (here c bf b k) ∧ Mat wr w.heap.size w.heap.size c.length 261 263 V (rowP c bf b k) ∧ Chg (NewB w.heap.size) w wr)
        (fun _ _ _ _ i _ => c.length - (intOf i).toNat)
      case atStart => exact ⟨0, _, by omega, rfl, rfl, hmat, hch⟩
      case round =>
        clear hmat hch
        obtain ⟨k, V, hk, rfl, rfl, hmat, hch⟩ := hrel
        by_cases hkl : k < c.length
        · have hszr := hch.size
          have hgl := hmat.lt
          obtain ⟨bc, oc, rfl, _, hcc⟩ := h1.ints (by omega)
          have hcell := hch.cellNew (Nat.le_refl _) (hcc k hkl)
          have hbd := pas_bd HR.out b k hkl
          have hck := HR.out.c1 k hkl
          have hac : at' c k = c[k] := by simp [at', hkl]
          rw [hac] at hbd hck
          obtain ⟨T, hT⟩ : ∃ T, T = (pas c bf b k).taken := ⟨_, rfl⟩
          obtain ⟨Z, hZ⟩ : ∃ Z, Z = (pas c bf b k).left := ⟨_, rfl⟩
          rw [← hT, ← hZ] at hbd
          have HT := hid hT; clear hT
          have HZ := hid hZ; clear hZ
          have HAC := hid hac; clear hac
          have HCC := hid hcc; clear hcc
          go_upto_if 31 with (fail)
          go_cut [] (fun wx => PBlk wx wr.heap.size T 0 ∧ Chg (NewB wr.heap.size) wr wx)
          case first =>
            have htk := pas_taken c bf b k
            rw [← HT.out] at htk
            by_cases hb0 : 0 < b
            · rw [if_neg (by omega)] at htk
              obtain ⟨q, rfl⟩ : ∃ q, b = q + 1 := ⟨b - 1, by omega⟩
              simp only [Nat.add_sub_cancel] at htk
              have HTK := hid htk; clear htk
              have hVk : (rowP c bf (q + 1) k k).length = q + 1 := by simp [rowP]
              have hok := hmat.own k hkl
              obtain ⟨ak, capk, hav, _, _⟩ := hok.shape
              rw [hav] at hok
              obtain ⟨gk, rfl, hgk1, hgk2⟩ := hok.head (by omega)
              have hov := hmat.cell k hkl
              rw [hav] at hov
              have hpk := (hok.pcell q (by omega)).2
              have e1 : (rowP c bf (q + 1) k k)[q]'(by omega) = pas c bf q k := by simp [rowP]
              rw [e1] at hpk
              rw [hVk] at hov
              clear e1 hVk hav
              go_wp2_with fail
              go_meet
              case rel =>
                rw [HTK.out]
                exact ⟨PBlk.new _ _ _, (Chg.refl _ _).alloc _⟩
            · rw [if_pos (by omega)] at htk
              have HTK := hid htk; clear htk
              go_wp2_with fail
              go_meet
              case rel =>
                rw [HTK.out]
                exact ⟨PBlk.new _ _ _, (Chg.refl _ _).alloc _⟩
          case rest =>
            obtain ⟨hpb, hcx⟩ := hcut
            obtain ⟨f0, f1, f2, f3⟩ := hpb.facts
            have hszx := hcx.size
            have hcell1 := hcx.cellNew (Nat.le_refl _) hcell
            go_upto_if 53 with (fail)
            have hpb1 := hpb.set1 (T + c[k])
            have hcx1 : Chg (NewB wr.heap.size) wr (wc.setCell ⟨wr.heap.size, 1, none⟩ (.int .i64 (T + c[k]))) := hcx.setCell (a := ⟨wr.heap.size, 1, none⟩) (fun _ => Nat.le_refl _) _
            go_cut [] (fun wx => PBlk wx wr.heap.size T Z ∧ Chg (NewB wr.heap.size) wr wx)
            case first =>
              have hlf := pas_left c bf b k
              rw [← HT.out, ← HZ.out, HAC.out] at hlf
              obtain ⟨f0', f1', f2', f3'⟩ := hpb1.facts
              by_cases hk1 : k + 1 < c.length
              · rw [if_pos hk1] at hlf
                obtain ⟨bb, ob, rfl, _, hbc⟩ := h2.ints (by omega)
                have hbcell := hcx1.cell (hch.cellNew (Nat.le_refl _) (hbc k (by omega))) (Nat.not_le_of_lt (World.block_lt_of_cell? _ _ (hch.cellNew (Nat.le_refl _) (hbc k (by omega)))))
                have hb0k := HR.out.b0 k
                have hbk : at' bf k = bf[k]'(by omega) := by simp [at', show k < bf.length by omega]
                obtain ⟨r, hr⟩ : ∃ r : Nat, bf[k]'(by omega) = (r : Int) := ⟨(bf[k]'(by omega)).toNat, by omega⟩
                rw [hr] at hbcell hbk
                rw [hbk] at hlf
                clear hbc hb0k hbk hr f0 f1 f2 f3
                by_cases hr0 : r = 0
                · subst hr0
                  rw [if_pos (by simp)] at hlf
                  by_cases hb0 : 0 < b
                  · obtain ⟨q, rfl⟩ : ∃ q, b = q + 1 := ⟨b - 1, by omega⟩
                    rw [if_neg (by omega)] at hlf
                    simp only [Nat.add_sub_cancel] at hlf
                    have HLF := hid hlf; clear hlf
                    have hVn : (rowP c bf (q + 1) k (k + 1)).length = q + 1 := by simp [rowP]
                    have hon := hmat.own (k + 1) hk1
                    obtain ⟨an, capn, han, _, _⟩ := hon.shape
                    rw [han] at hon
                    obtain ⟨gn, rfl, hgn1, hgn2⟩ := hon.head (by omega)
                    have hovn := hcx1.cell (hmat.cell (k + 1) hk1) (Nat.not_le_of_lt hgl)
                    rw [han, hVn] at hovn
                    have hpn := hcx1.cell (hon.pcell q (by omega)).2 (Nat.not_le_of_lt hgn2)
                    have e1 : (rowP c bf (q + 1) k (k + 1))[q]'(by omega) = pas c bf q (k + 1) := by simp [rowP]
                    rw [e1] at hpn
                    clear e1 hVn han
                    go_wp2_with fail
                    go_region
                    all_goals go_wp2_with fail
                    all_goals go_meet
                    case rel => rw [HLF.out]; exact ⟨hpb1.set1 _, (hcx1.setCell (a := ⟨wr.heap.size, 1, none⟩) (fun _ => Nat.le_refl _) _).drew⟩
                  · rw [if_pos (by omega)] at hlf
                    have HLF := hid hlf; clear hlf
                    have hb1 : b = 0 := by omega
                    subst hb1
                    go_wp2_with fail
                    go_meet
                    case rel => rw [HLF.out]; exact ⟨hpb1, hcx1⟩
                · rw [if_neg (by omega)] at hlf
                  by_cases hrb : r ≤ b
                  · rw [if_pos (by omega)] at hlf
                    have hr1 : ((r : Int) == 0) = false := by simp; omega
                    obtain ⟨t, rfl⟩ : ∃ t, b = t + r := ⟨b - r, by omega⟩
                    have ht1 : ((t + r : Nat) : Int) - ((r : Int)) = (t : Int) := by omega
                    have ht2 : t + r - (r : Int).toNat = t := by omega
                    rw [ht2] at hlf
                    have HLF := hid hlf; clear hlf ht2
                    have hVn : (rowP c bf (t + r) k (k + 1)).length = t + r := by simp [rowP]
                    have hon := hmat.own (k + 1) hk1
                    obtain ⟨an, capn, han, _, _⟩ := hon.shape
                    rw [han] at hon
                    obtain ⟨gn, rfl, hgn1, hgn2⟩ := hon.head (by omega)
                    have hovn := hcx1.cell (hmat.cell (k + 1) hk1) (Nat.not_le_of_lt hgl)
                    rw [han, hVn] at hovn
                    have hpn := hcx1.cell (hon.pcell t (by omega)).1 (Nat.not_le_of_lt hgn2)
                    have e1 : (rowP c bf (t + r) k (k + 1))[t]'(by omega) = pas c bf t (k + 1) := by simp [rowP]
                    rw [e1] at hpn
                    clear e1 hVn han
                    go_wp2_with fail
                    go_region
                    all_goals go_wp2_with fail
                    all_goals go_meet
                    case rel => rw [HLF.out]; exact ⟨hpb1.set1 _, (hcx1.setCell (a := ⟨wr.heap.size, 1, none⟩) (fun _ => Nat.le_refl _) _).drew⟩
                  · rw [if_neg (by omega)] at hlf
                    have HLF := hid hlf; clear hlf
                    have hr1 : ((r : Int) == 0) = false := by simp; omega
                    go_wp2_with fail
                    go_meet
                    case rel => rw [HLF.out]; exact ⟨hpb1, hcx1⟩
              · rw [if_neg hk1] at hlf
                have HLF := hid hlf; clear hlf
                go_wp2_with fail
                go_meet
                case rel => rw [HLF.out]; exact ⟨hpb1, hcx1⟩
            case rest =>
              clear hpb hcx f0 f1 f2 f3 hcell1 hpb1 hcx1 hszx
              obtain ⟨hpb, hcx⟩ := hcut
              obtain ⟨w5, rfl⟩ : ∃ w5 : World, w5 = wc := ⟨_, rfl⟩
              obtain ⟨f0, f1, f2, f3⟩ := hpb.facts
              have hszx := hcx.size
              have hVk : (rowP c bf b k k).length = b := by simp [rowP]
              have hmx : Mat w5 w.heap.size w.heap.size c.length 261 263 V (rowP c bf b k) := hmat.keep hcx fun q _ h2 h3 => Nat.not_le_of_lt h2 h3
              have hok := hmx.own k hkl
              obtain ⟨ak, capk, hav, _, _⟩ := hok.shape
              have hov := hmx.cell k hkl
              have hfz := hmx.froz k
              rw [hav] at hok
              rw [hav, hVk] at hov
              rw [hVk] at hok
              obtain ⟨i0, hi, hz0, hz1, hz2⟩ := info_parts infoPass
              have HI := hid hi; clear hi
              have HZ0 := hid hz0; clear hz0
              have HZ1 := hid hz1; clear hz1
              have HZ2 := hid hz2; clear hz2
              have HOUT := hid (hmx.out k hkl)
              rw [hav, hVk] at HOUT
              have HAV : Hid (V k = .slice ak b capk) := by unfold Hid; rw [hav, hVk]
              clear hav
              have hpout : ¬ blk (.slice ak b capk) wr.heap.size := fun x => by
                have := ((hmat.own k hkl).lt wr.heap.size (by rw [HAV.out]; exact x)).2
                omega
              have HPO := hid hpout; clear hpout
              have hlo5 : w.heap.size ≤ w5.heap.size := by omega
              have hlt5 : w.heap.size < w5.heap.size := hmx.lt
              have hVk' : (rowP c bf b k k).length ≤ 1000000000 := by omega
              have hHV := hid hVk; clear hVk
              go_wp2_with fail
              go_region_law ((refine step_append1 (α := Pass) w5.drew #[.int .i64 T, .int .i64 Z] rfl (.tmp 107) (.tmp 109) 261 263 rfl i0 (.agg #[.int .i64 0, .int .i64 0]) 16 Tryz.underlying261 HI.out HZ0.out HZ1.out HZ2.out rfl (by decide) w.heap.size (.slice ak b capk) (rowP c bf b k k) ⟨T, Z⟩ hok hlo5 hVk' ⟨rfl, rfl⟩ rfl rfl rfl ?_; intro g6 cap6 w6 hown6 hc6 hg6 hl6; have hov6 := hc6.cell hov (fun x => HOUT.out x); have hfz6 := (hc6.froz (a := ⟨w.heap.size, k, none⟩) hlt5 (fun x => HOUT.out x)).trans hfz; have hp6 := hc6.cell f1 (fun x => HPO.out x)))
              all_goals go_wp2_with fail
              all_goals
                have hfs := flow_step hkl hmx HT.out HZ.out HAV.out hown6 hc6 hg6 hch hcx
                go_roundw
                case rel => exact ⟨k + 1, _, by omega, by go_num, by rw [hfs.2.2], hfs.1, hfs.2.1⟩
                case measure => simp [intOf]; omega
        · go_wp2_with fail
          go_roundw
          case rel => exact ⟨b + 1, V, by omega, by go_num, hmat.congr fun j hj => by simp [rowP, show j < k by omega], hch⟩
          case measure => simp [intOf]; omega
    · obtain rfl : b = n := by omega
      go_wp2_with fail
      go_ret
      refine ⟨_, rfl, ?_, hch.mono fun q h1 h2 => by unfold NewB at h2; omega⟩
      have := hmat.isSl (by simp only [maxLen]; omega)
      have e : rowP c bf b 0 = fun k => (List.range b).map fun q => pas c bf q k := by funext k; simp [rowP]
      rwa [e] at this
end Go.Proofs.YtdnlhdilpdeecaaGreatDoor
namespace Go.Proofs.YtdnlhdilpdeecaaGreatDoor
open Go.RowKit
set_option linter.unusedVariables false
set_option linter.unusedSimpArgs false

theorem any_false {lo hi : Int} {xs : List Int} (h : xs.any (outB lo hi) = false) : ∀ k, k < xs.length → lo ≤ at' xs k ∧ at' xs k ≤ hi := by
 intro k hk
 rw [List.any_eq_false] at h
 have := h xs[k] (List.getElem_mem _)
 simp only [outB, Bool.or_eq_true, decide_eq_true_eq, not_or] at this
 simp only [at', List.getD, List.getElem?_eq_getElem hk, Option.getD_some]
 omega

theorem flowF_right {c b : List Int} {n : Int} (h : flowF c b n = 0) : RightLine c b ∧ 1 ≤ n ∧ n ≤ 2000 := by
 unfold flowF at h
 by_cases hc : cycF c ≠ 0
 ·rw [if_pos hc] at h; exact absurd h hc
 ·rw [if_neg hc] at h
  have hc' : cycF c = 0 := by simpa using hc
  unfold cycF at hc'
  by_cases h0 : c.length = 0
  ·rw [if_pos h0] at hc'; omega
  ·rw [if_neg h0] at hc'
   by_cases h6 : 6 < c.length
   ·rw [if_pos h6] at hc'; omega
   ·rw [if_neg h6] at hc'
    cases ha : c.any (outB 1 10000000) with
    | true => rw [ha] at hc'; simp at hc'
    | false =>
     by_cases hl : (b.length : Int) ≠ c.length - 1
     ·rw [if_pos hl] at h; omega
     ·rw [if_neg hl] at h
      cases hb : b.any (outB 0 2000) with
      | true => rw [hb] at h; simp at h
      | false =>
       cases hn : outB 1 2000 n with
       | true => rw [hn] at h; simp at h
       | false =>
        simp only [outB, Bool.or_eq_false_iff, decide_eq_false_iff_not] at hn
        refine ⟨⟨by omega, by omega, any_false ha, fun k => ?_, by omega⟩, by omega, by omega⟩
        by_cases hk : k < b.length
        ·exact (any_false hb k hk).1
        ·simp [at', List.getD, List.getElem?_eq_none (show b.length ≤ k by omega)]

theorem IsSl.rows {α : Type} [Enc α] {w : World} {A : Nat → Prop} {a : Option Addr} {n cap : Nat} {xs : List (List α)} (h : IsSl w A (.slice a n cap) xs) (hp : 0 < xs.length) :
  ∃ b off, a = some ⟨b, off, none⟩ ∧ A b ∧ ∀ i, (hi : i < xs.length) → ∃ v, w.cell? ⟨b, off + i, none⟩ = some v ∧ IsSl w A v xs[i] := by
 obtain ⟨b, off, ha, hb, hc⟩ := h.cells.2 hp
 refine ⟨b, off, ha, hb, fun i hi => ?_⟩
 have := hc i hi
 simpa [Enc.Is, Enc.sz] using this
theorem IsSl.passes {w : World} {A : Nat → Prop} {a : Option Addr} {n cap : Nat} {xs : List Pass} (h : IsSl w A (.slice a n cap) xs) (hp : 0 < xs.length) :
  ∃ b off, a = some ⟨b, off, none⟩ ∧ A b ∧ ∀ i, (hi : i < xs.length) → w.cell? ⟨b, off + i * 2, none⟩ = some (.int .i64 xs[i].taken) ∧ w.cell? ⟨b, off + i * 2 + 1, none⟩ = some (.int .i64 xs[i].left) := by
 obtain ⟨b, off, ha, hb, hc⟩ := h.cells.2 hp
 refine ⟨b, off, ha, hb, fun i hi => ?_⟩
 have := hc i hi
 simpa [Enc.Is, Enc.sz] using this

def leaves (c bf : List Int) (n : Nat) : List Int := (List.range n).map fun q => (pas c bf q (c.length - 1)).left
def leavesF (c bf : List Int) (n : Int) : List Int := if flowF c bf n = 0 then leaves c bf n.toNat else []

set_option maxHeartbeats 1000000 in
theorem leave_any (v1 v2 : Value) (c bf : List Int) (n : Int) (A1 A2 : Nat → Prop) (w : World) (h1 : IsSl w A1 v1 c) (h2 : IsSl w A2 v2 bf) :
  Calls Tryz.prog 154 #[v1, v2, .int .i64 n] w fun e w' => ∃ v, e = .returned (.tuple #[v, .int .i64 (flowF c bf n)]) ∧ IsSl w' (fun k => w.heap.size ≤ k) v (leavesF c bf n) ∧ Chg NoB w w' := by
 have HF := hid (flowFault_any v1 v2 c bf n A1 A2 w h1 h2)
 by_cases hf : flowF c bf n = 0
 ·obtain ⟨hr, hn1, hn2⟩ := flowF_right hf
  obtain ⟨m, rfl⟩ : ∃ m : Nat, n = m := ⟨n.toNat, by omega⟩
  have HL : Hid (leavesF c bf m = leaves c bf m) := by unfold Hid; rw [leavesF, if_pos hf]; simp
  have HFL : Hid (∀ w1, Chg NoB w w1 → _) := hid fun w1 (hc : Chg NoB w w1) => flow_any v1 v2 c bf m A1 A2 w1 (h1.keepN hc) (h2.keepN hc) hr (by omega)
  have hpos := hr.pos
  have hlen := hr.len
  rw [hf] at HF ⊢
  have HR := hid hr; clear hr hf
  go_enter Tryz.func154, Tryz.ntmps154
  go_wp2_with fail
  refine HF.out.mono ?_
  rintro e w1 ⟨rfl, hc1⟩
  go_wp2_with fail
  refine (HFL.out w1 hc1).mono ?_
  rintro e w2 ⟨v, rfl, hv, hc2⟩
  obtain ⟨a, cap, rfl, g1, g2⟩ := hv.shape
  obtain ⟨b, off, rfl, hb, hrows⟩ := hv.rows (by simp; omega)
  obtain ⟨vr, hcell, hrow⟩ := hrows (c.length - 1) (by simp; omega)
  obtain ⟨ar, capr, rfl, g3, g4⟩ := hrow.shape
  simp only [List.getElem_map, List.getElem_range, List.length_map, List.length_range] at hcell hrow g1 g3 ⊢
  have hc12 := hc1.trans hc2
  have hsz2 := hc12.size
  go_wp2_with fail
  go_loopw [10, 12, 31] (fun v _ i wr => ∃ (j : Nat), j ≤ m ∧ i = .int .i64 j ∧ Own wr w2.heap.size 3 v ((List.range j).map fun q => (pas c bf q (c.length - 1)).left) ∧ Chg (NewB w2.heap.size) w2 wr)
   (fun _ _ i _ => m - (intOf i).toNat)
  case atStart => exact ⟨0, by omega, rfl, Own.nil _ _ _, Chg.refl _ _⟩
  case round =>
   obtain ⟨j, hj, rfl, hown, hch⟩ := hrel
   have hszr := hch.size
   by_cases hjm : j < m
   ·obtain ⟨br, offr, rfl, _, hps⟩ := hrow.passes (by simp; omega)
    obtain ⟨p0, p1⟩ := hps j (by simp; omega)
    simp only [List.getElem_map, List.getElem_range] at p0 p1
    have p0' := hch.cellNew (Nat.le_refl _) p0
    have p1' := hch.cellNew (Nat.le_refl _) p1
    clear hps p0 p1
    obtain ⟨X, hX⟩ : ∃ X, X = (pas c bf j (c.length - 1)).left := ⟨_, rfl⟩
    obtain ⟨Y, hY⟩ : ∃ Y, Y = (pas c bf j (c.length - 1)).taken := ⟨_, rfl⟩
    rw [← hX] at p1'
    rw [← hY] at p0'
    have HX := hid hX; clear hX hY
    obtain ⟨av, capv, hv', _, _⟩ := hown.shape
    simp only [List.length_map, List.length_range] at hv'
    subst hv'
    have hal := hown.keep (S := NoB) ((Chg.refl NoB wr).alloc (.cells #[.int .i64 Y, .int .i64 X] 263)) (fun _ _ _ x => x)
    go_wp2_with (at_builtin; refine wpl_append_intB (wr.alloc (.cells #[.int .i64 Y, .int .i64 X] 263)) rfl _ _ 22 3 rfl Tryz.underlying22 infoInt w2.heap.size _ _ _ hal (by simp; omega) (by simp; omega) _ (by simp) j (by simp) rfl rfl ?_; intro g cap' w3 hown3 hc3 hg3 hlg)
    have hc23 : Chg (NewB w2.heap.size) w2 w3 := (hch.trans ((Chg.refl _ wr).alloc _)).trans (hc3.mono fun q hq x => (hal.lt q x).1)
    go_roundw
    case rel => exact ⟨j + 1, by omega, by go_num, by rw [List.range_succ, List.map_append]; simpa [HX.out] using hown3, hc23⟩
    case measure => simp [intOf]; omega
   ·obtain rfl : j = m := by omega
    go_wp2_with fail
    go_ret2
    exact ⟨_, rfl, by rw [HL.out]; exact hown.isSl.low fun q hq _ => by omega, hc12.trans (hch.mono fun q h1 h2 => by unfold NewB at h2; omega)⟩
 ·have hb : (flowF c bf n != 0) = true := by simp [hf]
  have HL : Hid (leavesF c bf n = []) := by unfold Hid; rw [leavesF, if_neg hf]
  clear hf
  go_enter Tryz.func154, Tryz.ntmps154
  go_wp2_with fail
  refine HF.out.mono ?_
  rintro e w1 ⟨rfl, hc1⟩
  go_wp2_with fail
  go_ret2
  exact ⟨_, rfl, by rw [HL.out]; exact IsSl.nil _ _, hc1⟩
end Go.Proofs.YtdnlhdilpdeecaaGreatDoor
namespace Go.Proofs.YtdnlhdilpdeecaaGreatDoor
open Go.RowKit
set_option linter.unusedVariables false
set_option linter.unusedSimpArgs false

theorem lined_flow : flowF [10, 30] [0] 2 = 0 := by decide +kernel
theorem lined_leaves : leavesF [10, 30] [0] 2 = [40, 70] := by
 rw [leavesF, if_pos lined_flow]
 have a00 : (pas [10, 30] [0] 0 0).taken = 0 := by rw [pas_taken]; simp [here]
 have b00 : (pas [10, 30] [0] 0 0).left = 10 := by rw [pas_left, a00]; simp [at']
 have a01 : (pas [10, 30] [0] 0 1).taken = 10 := by rw [pas_taken]; simp [here, b00]
 have b01 : (pas [10, 30] [0] 0 1).left = 40 := by rw [pas_left, a01]; simp [at']
 have a10 : (pas [10, 30] [0] 1 0).taken = 10 := by rw [pas_taken]; simp [here, b00]; decide
 have b10 : (pas [10, 30] [0] 1 0).left = 40 := by rw [pas_left, a10]; simp [at', b01]; decide
 have a11 : (pas [10, 30] [0] 1 1).taken = 40 := by rw [pas_taken]; simp [here, b10, b01]
 have b11 : (pas [10, 30] [0] 1 1).left = 70 := by rw [pas_left, a11]; simp [at']
 simp [leaves, List.range_succ, b01, b11]

end Go.Proofs.YtdnlhdilpdeecaaGreatDoor
namespace Go.Proofs.YtdnlhdilpdeecaaGreatDoor
open Go.RowKit
set_option linter.unusedVariables false
set_option linter.unusedSimpArgs false

theorem isSl_of_rep {w : World} {Z : Nat → Prop} {xs : List Int} {v : Value} (h : Rep w Z (avInts xs) v) : IsSl w Z v xs := by
 change Rep w Z (.im xs.length 1 fun j => avI (xs.getD j 0)) v at h
 generalize hn : xs.length = n at h
 cases h with
 | nil => exact .inl ⟨rfl, List.eq_nil_of_length_eq_zero hn⟩
 | im n sz f b off cap c e u hZ h1 h2 hb hc hr =>
  refine .inr ⟨b, off, cap, c, e, by rw [hn], hZ, by omega, h2, hb, fun i hi => ?_⟩
  show c[off + i * 1 + 0]? = some (.int .i64 xs[i])
  have k1 := hc i (by omega)
  have k2 := (hr i (by omega)).eq_v
  rw [k2] at k1
  simpa [hi] using k1
theorem rep_of_isSl {w : World} {A : Nat → Prop} {v : Value} {xs : List Int} (h : IsSl w A v xs) : Rep w A (avInts xs) v := by
 rcases h with ⟨rfl, rfl⟩ | ⟨b, off, cap, c, e, rfl, hb, hl, hm, hh, hi⟩
 ·exact .nil _ _
 ·refine .im _ 1 _ b off cap c e (fun j => .int .i64 (xs.getD j 0)) hb hl hm hh (fun j hj => ?_) fun j hj => .v _
  have : c[off + j * 1 + 0]? = some (.int .i64 (xs[j]'(by omega))) := hi j (by omega)
  have hj' : j < xs.length := by omega
  simpa [hj'] using this
theorem argsLLv {x y : AV} {u : Value} {w : World} {A : Nat → Prop} {us : Array Value} (h : Args w A [x, y, .v u] us) : ∃ v1 v2, us = #[v1, v2, u] ∧ Rep w (fun b => b < w.heap.size ∧ A b) x v1 ∧ Rep w (fun b => b < w.heap.size ∧ A b) y v2 := by
 obtain ⟨h1, h2⟩ := h
 have e2 := (h2 2 (by simp)).eq_v
 refine ⟨us.getD 0 undef, us.getD 1 undef, ?_, h2 0 (by simp), h2 1 (by simp)⟩
 apply Array.ext (by simpa using h1)
 intro i hi hi'
 simp at hi'
 rw [h1] at hi
 match i, hi' with
 | 0, _ => simp [Array.getD_eq_getD_getElem?, h1]
 | 1, _ => simp [Array.getD_eq_getD_getElem?, h1]
 | 2, _ => simpa [Array.getD_eq_getD_getElem?, h1] using e2
theorem line_Leave_S {c b : List Int} {n : Int} : SpecN Tryz.prog 154 [avInts c, avInts b, avI n] (fun y => y = .tup [avInts (leavesF c b n), avI (flowF c b n)]) := by
 intro w us ha
 obtain ⟨v1, v2, rfl, q1, q2⟩ := argsLLv ha
 refine (leave_any v1 v2 c b n _ _ w (isSl_of_rep q1) (isSl_of_rep q2)).mono ?_
 rintro e w' ⟨v, rfl, hv, hc⟩
 refine ⟨_, _, rfl, rfl, .tup _ _ rfl fun j hj => ?_, hc, trivial⟩
 match j, hj with
 | 0, _ => exact (rep_of_isSl hv).keep fun b hb hl => ⟨rfl, hl, fun h => absurd h (Nat.not_lt.2 hb)⟩
 | 1, _ => exact .v _
end Go.Proofs.YtdnlhdilpdeecaaGreatDoor
namespace Go.Proofs.YtdnlhdilpdeecaaGreatDoor
open Go.RowKit
set_option linter.unusedVariables false
set_option linter.unusedSimpArgs false
set_option maxRecDepth 100000 in
theorem rk_errs {xs : List Int} (hl : xs.length ≤ 1000000000) :
  SpecN Tryz.prog 46 [avInts xs] (fun y => y = avI (errsF xs)) := by
 refine SpecN.of_VCN Tryz.func46 rfl Tryz.ntmps46 (Nle rfl) fun w A hB => ?_
 have hnew : True := trivial
 refine VC.sr ?_
 refine VO.ma rfl rfl rfl rfl ?_
 refine VO.nil ?_
 refine VC.seq ?_
 refine VC.sr ?_
 refine VO.mv rfl rfl rfl rfl ?_
 refine VO.val rfl rfl (OpV.len_im rfl Tryz.underlying173 rfl) ?_
 refine VO.mv rfl rfl rfl rfl ?_
 refine VO.nil ?_
 refine VC.block ?_
 refine VC.loopK [(5, _), (6, _)] ⟨rfl, rfl, trivial⟩ ({q : Nat // q ≤ xs.length ∧ ∀ j, j < q → xs.getD j 0 = 0}) (fun (iZ : {q : Nat // q ≤ xs.length ∧ ∀ j, j < q → xs.getD j 0 = 0}) => match iZ with | ⟨q, hq, hn⟩ => [(7, avI (q : Int))]) (fun (iZ : {q : Nat // q ≤ xs.length ∧ ∀ j, j < q → xs.getD j 0 = 0}) => match iZ with | ⟨q, hq, hn⟩ => []) (fun (iZ : {q : Nat // q ≤ xs.length ∧ ∀ j, j < q → xs.getD j 0 = 0}) => match iZ with | ⟨q, hq, hn⟩ => 0) (fun (iZ : {q : Nat // q ≤ xs.length ∧ ∀ j, j < q → xs.getD j 0 = 0}) => match iZ with | ⟨q, hq, hn⟩ => xs.length - q) ⟨0, Nat.zero_le _, fun j hj => absurd hj (Nat.not_lt_zero j)⟩ (Le.mk hB [] ⟨rfl, rfl, rfl, trivial⟩ rfl rfl (Nat.le_refl _)) ?_
 rintro ⟨q, hq, hn⟩
 show VC _ _ _ _ ⟨[(7, avI (q : Int))] ++ [(5, _), (6, _)], [], 0⟩
 refine VC.sr ?_
 refine VO.val rfl rfl (OpV.lss rfl rfl rfl) ?_
 refine VO.nil ?_
 refine VC.seq ?_
 refine VC.cond rfl (fun aH1b => ?_) (fun aH1b => ?_)
 ·have aH1 := aH1b
  try simp only [qqT, qqF, qqN, qqM, qqL, qqE] at aH1
  refine VC.skip ?_
  refine VC.seq ?_
  refine VC.block ?_
  refine VC.sr ?_
  refine VO.val rfl rfl (OpV.indexAddr_1 rfl Tryz.underlying173 Tryz.sizeOf36 rfl rfl rfl (by omega)) ?_
  refine VO.val rfl rfl (OpV.load_at rfl hB OutW.no Tryz.isAgg36 rfl rfl) ?_
  refine VO.ma rfl rfl rfl rfl ?_
  refine VO.nil ?_
  refine VC.sr ?_
  refine VO.mv rfl rfl rfl rfl ?_
  refine VO.val rfl rfl (OpV.neq rfl rfl rfl) ?_
  refine VO.nil ?_
  refine VC.cond rfl (fun h1b => ?_) (fun h1b => ?_)
  ·have h1 := h1b
   try simp only [qqT, qqF, qqN, qqM, qqL, qqE] at h1
   refine VC.sr ?_
   refine VO.mv rfl rfl rfl rfl ?_
   refine VO.ma rfl rfl rfl rfl ?_
   refine VO.nil ?_
   refine VC.ret ?_
   exact Exists.intro _ (And.intro (RetN.one Tryz.results46 (ResN.v rfl)) (by rw [errsF_at (q := q) (by omega) hn h1]))
  ·have h1 := h1b
   try simp only [qqT, qqF, qqN, qqM, qqL, qqE] at h1
   refine VC.skip ?_
   refine VC.region ?_
   refine VO.val rfl rfl (OpV.add rfl rfl rfl (by unfold fits; omega)) ?_
   refine VO.mv rfl rfl rfl rfl ?_
   refine VO.nil ?_
   exact Exists.intro (⟨q + 1, by omega, lt_succ_cases hn ((by omega))⟩) (And.intro (Le.mk hB [] ⟨rfl, rfl, rfl, trivial⟩ rfl rfl (Nat.le_refl _)) (by first | omega | (show _ < _; omega) | (simp only []; omega)))
 ·have aH1 := aH1b
  try simp only [qqT, qqF, qqN, qqM, qqL, qqE] at aH1
  refine VC.exit ?_
  refine VC.sr ?_
  refine VO.ma rfl rfl rfl rfl ?_
  refine VO.nil ?_
  refine VC.ret ?_
  exact Exists.intro _ (And.intro (RetN.one Tryz.results46 (ResN.v rfl)) (by rw [errsF_none (fun j hj => hn j (by omega))]))
def rdL : List LookS := [⟨⟨#[98]⟩, ⟨#[99]⟩, 0, 1, true, ⟨#[109]⟩, ⟨#[110]⟩, ⟨#[114]⟩⟩]
theorem one_sz {α : Type} [Inhabited α] {f : α → ByteArray} {x : α} (h : (f x).size ≤ 1000000) (h0 : (f default).size ≤ 1000000) (i : Nat) : (f ([x].getD i default)).size ≤ 1000000 := by
 match i with
 | 0 => exact h
 | i + 1 => exact h0
theorem rdL_sm : SmLk rdL := ⟨by decide, one_sz (f := LookS.board) (by decide) (by decide), one_sz (f := LookS.name) (by decide) (by decide), one_sz (f := LookS.machine) (by decide) (by decide), one_sz (f := LookS.nozzle) (by decide) (by decide), one_sz (f := LookS.reel) (by decide) (by decide)⟩
theorem rdL_ok : millE rdL = 0 := by decide +kernel
theorem rdL_n : (millN rdL).1 = 1000000 := by decide +kernel
def rdP : List PaceS := [⟨⟨#[112]⟩, 10, []⟩]
def rdO : List OrdrS := [⟨⟨#[111]⟩, ⟨#[112]⟩, 3, 0, 5⟩]
theorem rdP_sm : SmPc rdP := ⟨by decide, one_sz (f := PaceS.product) (by decide) (by decide), fun i => by
 match i with
 | 0 => decide
 | i + 1 => show ([] : List NeedS).length ≤ _; decide, fun i j => by
 match i with
 | 0 => show (([] : List NeedS).getD j default).key.size ≤ _; simp; decide
 | i + 1 => show (([] : List NeedS).getD j default).key.size ≤ _; simp; decide⟩
theorem rdO_sm : SmOr rdO := ⟨by decide, one_sz (f := OrdrS.key) (by decide) (by decide), one_sz (f := OrdrS.product) (by decide) (by decide)⟩
theorem rd_sch : scheF rdP rdO [0] 1 0 = 0 := by decide +kernel
theorem rd_from : fromP rdP rdO [0] 1 0 0 = 1 := by decide +kernel
theorem rd_end : endP rdP rdO [0] 1 0 0 = 31 := by decide +kernel
theorem rd_times : timesR rdP rdO [0] 1 0 = [⟨1, 31⟩] := by
 rw [timesR, if_pos rd_sch]
 show [winP rdP rdO [0] 1 0 0] = _
 rw [winP, rd_from, rd_end]
theorem pace_nil {w : World} {Z : Nat → Prop} {u : Value} {a : ByteArray} {b : Int} (h : Rep w Z (.agg [avS a, avI b, .v (.slice none 0 0)]) u) : Rep w Z (avPc ⟨a, b, []⟩) u := by
 cases h with
 | agg cs us hl hr =>
  refine .agg _ us hl fun j hj => ?_
  match j, hj with
  | 0, _ => exact hr 0 (by simp)
  | 1, _ => exact hr 1 (by simp)
  | 2, _ =>
   have := hr 2 (by simp)
   show Rep w Z (.im 0 2 _) _
   rw [this.eq_v]; exact .nil _ _
set_option maxRecDepth 100000 in
set_option maxHeartbeats 4000000 in
theorem rk_ready   :
  SpecN Tryz.prog 51 [] (fun y => y = avB true) := by
 refine SpecN.of_VCN Tryz.func51 rfl Tryz.ntmps51 (Nle rfl) fun w A hB => ?_
 have hnew : True := trivial
 refine VC.sr ?_
 refine VO.ma rfl rfl rfl rfl ?_
 refine VO.nil ?_
 refine VC.sr ?_
 refine VO.val rfl rfl (OpV.build (pls := #[(0, 1), (1, 1), (2, 1), (3, 1), (4, 1)]) rfl Tryz.zeroValue187 Tryz.underlying187 (fun w => by kernel_rfl) rfl rfl) ?_
 refine VO.op rfl (OpE.buildSlice (zc := #[.string ⟨#[]⟩, .string ⟨#[]⟩, .int .i64 0, .int .i64 0, .int .i64 0]) rfl hB rfl Tryz.underlying81 Tryz.sizeOf187 Tryz.zeroValue187 (by decide) (by decide) (by kernel_rfl) rfl rfl ?_)
 refine VO.le _ (Le.recast (t := 13) (y := avL panL) rfl (fun w Z u h => Rep.rowL (xs := panL) rfl h)) ?_
 refine VO.val rfl rfl (OpV.build (pls := #[(0, 1), (1, 1), (2, 1), (3, 1)]) rfl Tryz.zeroValue83 Tryz.underlying83 (fun w => by kernel_rfl) rfl rfl) ?_
 refine VO.op rfl (OpE.call rfl hB rfl Tryz.call79 rfl (SpecN.spec (panel_Needs (p := panP) panP_sm)) ?_)
 rintro _ rfl
 refine VO.le _ (Le.recast (t := 15) (y := .tup [avL ([⟨⟨#[99, 97, 112]⟩, 1⟩] : List NeedS), avI 0]) rfl (fun w Z u h => by rw [← panP_needs, ← panP_ok]; exact h)) ?_
 refine VO.mv rfl rfl rfl rfl ?_
 refine VO.val rfl rfl (OpV.extract rfl rfl rfl) ?_
 refine VO.val rfl rfl (OpV.extract rfl rfl rfl) ?_
 refine VO.ma rfl rfl rfl rfl ?_
 refine VO.ma rfl rfl rfl rfl ?_
 refine VO.nil ?_
 refine VC.sr ?_
 refine VO.op rfl (OpE.buildSlice (zc := #[.string ⟨#[]⟩]) rfl hB rfl Tryz.underlying29 Tryz.sizeOf9 Tryz.zeroValue9 (by decide) (by decide) (by kernel_rfl) rfl rfl ?_)
 refine VO.le _ (Le.recast (t := 19) (y := avStrs loadS) rfl (fun w Z u h => Rep.strs (xs := loadS) rfl h)) ?_
 refine VO.op rfl (OpE.buildSlice (zc := #[.string ⟨#[]⟩]) rfl hB rfl Tryz.underlying29 Tryz.sizeOf9 Tryz.zeroValue9 (by decide) (by decide) (by kernel_rfl) rfl rfl ?_)
 refine VO.le _ (Le.recast (t := 20) (y := avStrs [⟨#[97]⟩]) rfl (fun w Z u h => Rep.strs (xs := [⟨#[97]⟩]) rfl h)) ?_
 refine VO.op rfl (OpE.buildSlice (zc := #[.string ⟨#[]⟩]) rfl hB rfl Tryz.underlying29 Tryz.sizeOf9 Tryz.zeroValue9 (by decide) (by decide) (by kernel_rfl) rfl rfl ?_)
 refine VO.le _ (Le.recast (t := 21) (y := avStrs [⟨#[98]⟩]) rfl (fun w Z u h => Rep.strs (xs := [⟨#[98]⟩]) rfl h)) ?_
 refine VO.op rfl (OpE.buildSlice (zc := #[.slice none 0 0, .slice none 0 0]) rfl hB rfl Tryz.underlying27 Tryz.sizeOf29 Tryz.zeroValue29 (by decide) (by decide) (by kernel_rfl) rfl rfl ?_)
 refine VO.le _ (Le.recast (t := 22) (y := avM loadP) rfl (fun w Z u h => Rep.listM (xs := loadP) rfl h)) ?_
 refine VO.op rfl (OpE.call rfl hB rfl Tryz.call110 rfl (SpecN.spec (setup_Total load_sms load_smss)) ?_)
 rintro _ rfl
 refine VO.le _ (Le.recast (t := 23) (y := .tup [avI 2, avI 0]) rfl (fun w Z u h => by rw [load_two, load_ok] at h; exact h)) ?_
 refine VO.mv rfl rfl rfl rfl ?_
 refine VO.val rfl rfl (OpV.extract rfl rfl rfl) ?_
 refine VO.val rfl rfl (OpV.extract rfl rfl rfl) ?_
 refine VO.ma rfl rfl rfl rfl ?_
 refine VO.ma rfl rfl rfl rfl ?_
 refine VO.nil ?_
 refine VC.sr ?_
 refine VO.op rfl (OpE.buildSlice (zc := #[.int .i64 0, .int .i64 0]) rfl hB rfl Tryz.underlying22 Tryz.sizeOf3 Tryz.zeroValue3 (by decide) (by decide) (by kernel_rfl) rfl rfl ?_)
 refine VO.le _ (Le.lits (t := 27) (xs := [10, 30]) rfl rfl) ?_
 refine VO.op rfl (OpE.buildSlice (zc := #[.int .i64 0]) rfl hB rfl Tryz.underlying22 Tryz.sizeOf3 Tryz.zeroValue3 (by decide) (by decide) (by kernel_rfl) rfl rfl ?_)
 refine VO.le _ (Le.lits (t := 28) (xs := [0]) rfl rfl) ?_
 refine VO.op rfl (OpE.call rfl hB rfl Tryz.call154 rfl (SpecN.spec (line_Leave_S)) ?_)
 rintro _ rfl
 refine VO.le _ (Le.recast (t := 29) (y := .tup [avInts [40, 70], avI 0]) rfl (fun w Z u h => by rw [lined_leaves, lined_flow] at h; exact h)) ?_
 refine VO.mv rfl rfl rfl rfl ?_
 refine VO.val rfl rfl (OpV.extract rfl rfl rfl) ?_
 refine VO.val rfl rfl (OpV.extract rfl rfl rfl) ?_
 refine VO.ma rfl rfl rfl rfl ?_
 refine VO.ma rfl rfl rfl rfl ?_
 refine VO.nil ?_
 refine VC.sr ?_
 refine VO.val rfl rfl (OpV.build (pls := #[(0, 1), (1, 1), (2, 1), (3, 1), (4, 1), (5, 1), (6, 1), (7, 1)]) rfl Tryz.zeroValue80 Tryz.underlying80 (fun w => by kernel_rfl) rfl rfl) ?_
 refine VO.op rfl (OpE.buildSlice (zc := #[.string ⟨#[]⟩, .string ⟨#[]⟩, .int .i64 0, .int .i64 0, .bool false, .string ⟨#[]⟩, .string ⟨#[]⟩, .string ⟨#[]⟩]) rfl hB rfl Tryz.underlying54 Tryz.sizeOf80 Tryz.zeroValue80 (by decide) (by decide) (by kernel_rfl) rfl rfl ?_)
 refine VO.le _ (Le.recast (t := 34) (y := avL rdL) rfl (fun w Z u h => Rep.rowL (xs := rdL) rfl h)) ?_
 refine VO.op rfl (OpE.call rfl hB rfl Tryz.call149 rfl (SpecN.spec (inspect_Million rdL_sm)) ?_)
 rintro _ rfl
 refine VO.le _ (Le.recast (t := 35) (y := .tup [.agg [avI 1000000, avI ((millN rdL).2 : Int)], avI 0]) rfl (fun w Z u h => by rw [rdL_n, rdL_ok] at h; exact h)) ?_
 refine VO.mv rfl rfl rfl rfl ?_
 refine VO.val rfl rfl (OpV.extract rfl rfl rfl) ?_
 refine VO.val rfl rfl (OpV.extract rfl rfl rfl) ?_
 refine VO.op rfl (OpE.alloc rfl hB rfl Tryz.zeroValue180 rfl ?_)
 intro g7
 refine VO.op rfl (OpE.store (i := 0) rfl hB rfl Tryz.sizeOf180 rfl rfl rfl rfl rfl rfl (Nle rfl) trivial ?_)
 refine VO.ma rfl rfl rfl rfl ?_
 refine VO.nil ?_
 refine VC.sr ?_
 refine VO.val rfl rfl (OpV.build (pls := #[(0, 1), (1, 1), (2, 1)]) rfl Tryz.zeroValue194 Tryz.underlying194 (fun w => by kernel_rfl) rfl rfl) ?_
 refine VO.le _ (Le.recast (t := 39) (y := avPc ⟨⟨#[112]⟩, 10, []⟩) rfl (fun w Z u h => pace_nil h)) ?_
 refine VO.op rfl (OpE.buildSlice (zc := #[.string ⟨#[]⟩, .int .i64 0, .slice none 0 0]) rfl hB rfl Tryz.underlying195 Tryz.sizeOf194 Tryz.zeroValue194 (by decide) (by decide) (by kernel_rfl) rfl rfl ?_)
 refine VO.le _ (Le.recast (t := 40) (y := avL rdP) rfl (fun w Z u h => Rep.rowL (xs := rdP) rfl h)) ?_
 refine VO.val rfl rfl (OpV.build (pls := #[(0, 1), (1, 1), (2, 1), (3, 1), (4, 1)]) rfl Tryz.zeroValue104 Tryz.underlying104 (fun w => by kernel_rfl) rfl rfl) ?_
 refine VO.op rfl (OpE.buildSlice (zc := #[.string ⟨#[]⟩, .string ⟨#[]⟩, .int .i64 0, .int .i64 0, .int .i64 0]) rfl hB rfl Tryz.underlying95 Tryz.sizeOf104 Tryz.zeroValue104 (by decide) (by decide) (by kernel_rfl) rfl rfl ?_)
 refine VO.le _ (Le.recast (t := 42) (y := avL rdO) rfl (fun w Z u h => Rep.rowL (xs := rdO) rfl h)) ?_
 refine VO.op rfl (OpE.buildSlice (zc := #[.int .i64 0]) rfl hB rfl Tryz.underlying22 Tryz.sizeOf3 Tryz.zeroValue3 (by decide) (by decide) (by kernel_rfl) rfl rfl ?_)
 refine VO.le _ (Le.lits (t := 43) (xs := [0]) rfl rfl) ?_
 refine VO.op rfl (OpE.call rfl hB rfl Tryz.call155 rfl (SpecN.spec (plan_Times rdP_sm rdO_sm (by decide))) ?_)
 rintro _ rfl
 refine VO.le _ (Le.recast (t := 44) (y := .tup [avL ([⟨1, 31⟩] : List WinS), avI 0]) rfl (fun w Z u h => by rw [rd_times, rd_sch] at h; exact h)) ?_
 refine VO.mv rfl rfl rfl rfl ?_
 refine VO.val rfl rfl (OpV.extract rfl rfl rfl) ?_
 refine VO.val rfl rfl (OpV.extract rfl rfl rfl) ?_
 refine VO.ma rfl rfl rfl rfl ?_
 refine VO.ma rfl rfl rfl rfl ?_
 refine VO.nil ?_
 refine VC.sr ?_
 refine VO.mv rfl rfl rfl rfl ?_
 refine VO.mv rfl rfl rfl rfl ?_
 refine VO.mv rfl rfl rfl rfl ?_
 refine VO.mv rfl rfl rfl rfl ?_
 refine VO.mv rfl rfl rfl rfl ?_
 refine VO.op rfl (OpE.buildSlice (zc := #[.int .i64 0, .int .i64 0, .int .i64 0, .int .i64 0, .int .i64 0]) rfl hB rfl Tryz.underlying173 Tryz.sizeOf36 Tryz.zeroValue36 (by decide) (by decide) (by kernel_rfl) rfl rfl ?_)
 refine VO.le _ (Le.lits (t := 52) (xs := [0, 0, 0, 0, 0]) rfl rfl) ?_
 refine VO.op rfl (OpE.call rfl hB rfl Tryz.call46 rfl (SpecN.spec (rk_errs (by decide))) ?_)
 rintro _ rfl
 refine VO.val rfl rfl (OpV.eql rfl rfl rfl) ?_
 refine VO.le _ (Le.boolT (t := 54) rfl (decide_eq_true rfl)) ?_
 refine VO.mv rfl rfl rfl rfl ?_
 refine VO.opY rfl rfl rfl rfl rfl ?_
 refine OpE.val (W := NoB) (OpV.move (.inl rfl) rfl) rfl ?_
 refine VO.opY rfl rfl rfl rfl rfl ?_
 refine OpE.val (W := NoB) (OpV.len_im rfl Tryz.underlying110 rfl) rfl ?_
 refine VO.opY rfl rfl rfl rfl rfl ?_
 refine OpE.val (W := NoB) (OpV.eql rfl rfl rfl) rfl ?_
 refine VO.le _ (Le.boolT (t := 58) rfl (decide_eq_true rfl)) ?_
 refine VO.val rfl rfl (OpV.pickT rfl rfl rfl rfl rfl) ?_
 refine VO.mv rfl rfl rfl rfl ?_
 refine VO.opY rfl rfl rfl rfl rfl ?_
 refine OpE.val (W := NoB) (OpV.move (.inl rfl) rfl) rfl ?_
 refine VO.opY rfl rfl rfl rfl rfl ?_
 refine OpE.val (W := NoB) (OpV.eql rfl rfl rfl) rfl ?_
 refine VO.le _ (Le.boolT (t := 62) rfl (decide_eq_true rfl)) ?_
 refine VO.val rfl rfl (OpV.pickT rfl rfl rfl rfl rfl) ?_
 refine VO.mv rfl rfl rfl rfl ?_
 refine VO.opY rfl rfl rfl rfl rfl ?_
 refine OpE.val (W := NoB) (OpV.move (.inl rfl) rfl) rfl ?_
 refine VO.opY rfl rfl rfl rfl rfl ?_
 refine OpE.val (W := NoB) (OpV.len_im rfl Tryz.underlying22 rfl) rfl ?_
 refine VO.opY rfl rfl rfl rfl rfl ?_
 refine OpE.val (W := NoB) (OpV.eql rfl rfl rfl) rfl ?_
 refine VO.le _ (Le.boolT (t := 67) rfl (decide_eq_true rfl)) ?_
 refine VO.val rfl rfl (OpV.pickT rfl rfl rfl rfl rfl) ?_
 refine VO.mv rfl rfl rfl rfl ?_
 refine VO.opY rfl rfl rfl rfl rfl ?_
 refine OpE.val (W := NoB) (OpV.fieldAddrO 0 rfl Tryz.underlying180 rfl rfl Tryz.sizeOf3 rfl) rfl ?_
 refine VO.opY rfl rfl rfl rfl rfl ?_
 refine OpE.val (W := NoB) (OpV.load_own (i := 0) rfl hB Tryz.isAgg3 rfl rfl rfl (fun h => h)) rfl ?_
 refine VO.opY rfl rfl rfl rfl rfl ?_
 refine OpE.val (W := NoB) (OpV.eql rfl rfl rfl) rfl ?_
 refine VO.le _ (Le.boolT (t := 72) rfl (decide_eq_true rfl)) ?_
 refine VO.val rfl rfl (OpV.pickT rfl rfl rfl rfl rfl) ?_
 refine VO.mv rfl rfl rfl rfl ?_
 refine VO.opY rfl rfl rfl rfl rfl ?_
 refine OpE.val (W := NoB) (OpV.move (.inl rfl) rfl) rfl ?_
 refine VO.opY rfl rfl rfl rfl rfl ?_
 refine OpE.val (W := NoB) (OpV.len_im rfl Tryz.underlying190 rfl) rfl ?_
 refine VO.opY rfl rfl rfl rfl rfl ?_
 refine OpE.val (W := NoB) (OpV.eql rfl rfl rfl) rfl ?_
 refine VO.le _ (Le.boolT (t := 77) rfl (decide_eq_true rfl)) ?_
 refine VO.val rfl rfl (OpV.pickT rfl rfl rfl rfl rfl) ?_
 refine VO.mv rfl rfl rfl rfl ?_
 refine VO.opY rfl rfl rfl rfl rfl ?_
 refine OpE.val (W := NoB) (OpV.move (.inl rfl) rfl) rfl ?_
 refine VO.opY rfl rfl rfl rfl rfl ?_
 refine OpE.val (W := NoB) (OpV.indexAddr_E rfl Tryz.underlying190 Tryz.sizeOf197 rfl rfl rfl (by show 0 < 1; decide)) rfl ?_
 refine VO.opY rfl rfl rfl rfl rfl ?_
 refine OpE.val (W := NoB) (OpV.fieldAddr_atO 1 rfl Tryz.underlying197 rfl rfl Tryz.sizeOf3 rfl rfl) rfl ?_
 refine VO.opY rfl rfl rfl rfl rfl ?_
 refine OpE.val (W := NoB) (OpV.load_at rfl hB OutW.no Tryz.isAgg3 rfl rfl) rfl ?_
 refine VO.opY rfl rfl rfl rfl rfl ?_
 refine OpE.val (W := NoB) (OpV.eql rfl rfl rfl) rfl ?_
 refine VO.le _ (Le.boolT (t := 84) rfl (decide_eq_true rfl)) ?_
 refine VO.val rfl rfl (OpV.pickT rfl rfl rfl rfl rfl) ?_
 refine VO.ma rfl rfl rfl rfl ?_
 refine VO.nil ?_
 refine VC.ret ?_
 exact Exists.intro _ (And.intro (RetN.one Tryz.results51 (ResN.v rfl)) (rfl))
end Go.Proofs.YtdnlhdilpdeecaaGreatDoor
namespace Go.Proofs.YtdnlhdilpdeecaaGreatDoor
open Go.RowKit
set_option linter.unusedVariables false
set_option linter.unusedSimpArgs false
theorem Le.boolF {B : Bs} {s : St'} {t : Nat} {b : Bool} (ht : look s.sl t = some (avB b)) (hb : b = false) : Le B s ⟨(t, avB false) :: s.sl, s.hp, s.k⟩ := Le.recast ht fun w Z u h => by subst hb; exact h
end Go.Proofs.YtdnlhdilpdeecaaGreatDoor
namespace Go.Proofs.YtdnlhdilpdeecaaGreatDoor
open Go.RowKit
set_option linter.unusedVariables false
set_option linter.unusedSimpArgs false
theorem atoi_decB : ∀ i, i < 100 → Lib.atoi (byL (decB i)) = some (i : Int) := by decide +kernel
theorem OpV.inneq {P : Program} {B : Bs} {W : Nat → Prop} {s : St'} {o : Oper} {x : Operand} {t u : TypeId} (ho : o.op = .binOp .neq t x (.const .nilIface) u) (hu : P.underlying t = some (.interface (P.methodsAt t))) (hx : evO s x = some (.v .nilIface)) : OpV P B W s o (avB false) :=
 OpV.conc (fun a w hr w' hcw => by
  have e := run_neq_nil_nil (P := P) w' t hu
  have e2 : a.eval (.const .nilIface) = .nilIface := rfl
  simp [execOp, ho, hr.evv hx, eqGuard, e2]
  rw [e]
  rfl)
theorem outR_no3 {n a b : Int} (h : a ≤ n ∧ n ≤ b) : outR n a b = false := by unfold outR; simp; omega
theorem any_in {k : ByteArray} {p : List ByteArray} (h : k ∈ p) : (p.any fun y => sEq k y) = true := List.any_eq_true.2 ⟨k, h, sEq_refl k⟩
theorem any_out {k : ByteArray} {p : List ByteArray} (h : k ∉ p) : (p.any fun y => sEq k y) = false := by
 rw [Bool.eq_false_iff]
 intro e
 obtain ⟨y, hy, e⟩ := List.any_eq_true.1 e
 exact h (by rw [sEq_eq.1 e]; exact hy)
theorem pos_sub {l : List LookS} {n : Int} : ((psN l (n + 1)).any fun k => !((psN l n).any fun y => sEq k y)) = false := by
 rw [Bool.eq_false_iff]
 intro e
 obtain ⟨k, hk, e⟩ := List.any_eq_true.1 e
 rw [any_in (psN_mono hk)] at e
 cases e
theorem psN_len (l : List LookS) (n : Int) : (psN l n).length ≤ l.length := by
 have h1 := uK_len (l.map fun x => x.name)
 rw [List.length_map] at h1
 exact Nat.le_trans (List.length_filter_le _ _) h1
theorem gdB_len (l : List LookS) : (gdB l).length ≤ l.length := by
 have h1 := uK_len (l.map fun x => x.board)
 rw [List.length_map] at h1
 exact Nat.le_trans (List.length_filter_le _ _) h1
theorem rowsL_len (l : List LookS) (n : Int) : (rowsL l n).length ≤ (uK (l.map (·.name))).length := by
 unfold rowsL
 rw [rwOut_len, (rowsR_perm _ _).length_eq]
 have h1 : (rowsU (rwS l).2 n).length ≤ (rwS l).2.length := by
  unfold rowsU
  refine Nat.le_trans (List.length_filter_le _ _) ?_
  rw [List.length_map]; exact Nat.le_refl _
 exact Nat.le_trans h1 (rwS_len (Nat.le_refl _))
set_option maxRecDepth 100000 in
theorem posRows1 {k : ByteArray} {p : List ByteArray} (hp : p.length ≤ 1000000) :
  Spec Tryz.prog 48 [avS k, .at_ 1 (fun _ => avStrs p)] (fun y => y = avB (!(p.any fun y => sEq k y))) := by
 refine Spec.of_VC Tryz.func48 rfl Tryz.ntmps48 (Nle rfl) fun w A hB => ?_
 have hnew : True := trivial
 refine VC.sr ?_
 refine VO.ma rfl rfl rfl rfl ?_
 refine VO.nil ?_
 refine VC.sr ?_
 refine VO.val rfl rfl (OpV.load_at rfl hB OutW.no Tryz.isAgg29 rfl rfl) ?_
 refine VO.mv rfl rfl rfl rfl ?_
 refine VO.op rfl (OpE.call rfl hB rfl Tryz.call49 rfl (SpecN.spec (slices_Contains_str (by omega))) ?_)
 rintro _ rfl
 refine VO.val rfl rfl (OpV.not rfl rfl) ?_
 refine VO.ma rfl rfl rfl rfl ?_
 refine VO.nil ?_
 refine VC.ret ?_
 exact Exists.intro _ (And.intro (RetV.one Tryz.results48 (ResV.tmp rfl)) (rfl))
set_option maxRecDepth 100000 in
set_option maxHeartbeats 40000000 in
theorem positionsRows_any (a0 : Option Addr) (cap0 : Nat) (L : List Int) (w : World) (hin : Inp w a0 L) :
  Calls Tryz.prog 5 #[.slice a0 L.length cap0] w fun e w' => e = .returned (.bool true) ∧ Chg NoB w w' := by
 refine law_calls Tryz.func5 rfl Tryz.ntmps5 (Nle rfl) Tryz.results5 ?_
 have hB := B0.ok w (fun _ => True) 108
 have hnew : True := trivial
 refine VC.sr ?_
 refine VO.ma rfl rfl rfl rfl ?_
 refine VO.nil ?_
 refine VC.sr ?_
 refine VO.mv rfl rfl rfl rfl ?_
 refine VO.val rfl rfl (OpV.build (pls := #[(0, 1), (1, 1)]) rfl Tryz.zeroValue25 Tryz.underlying25 (fun w => by kernel_rfl) rfl rfl) ?_
 refine VO.op rfl (OpE.box rfl hB rfl rfl rfl ?_)
 intro g
 refine VO.ma rfl rfl rfl rfl ?_
 refine VO.nil ?_
 refine VC.stream (i := 0) (sl := [(3, sp g)]) (by exact rfl) (by exact rfl) hin (by exact ⟨rfl, trivial⟩) (fun p hp => by simp at hp; subst hp; exact ⟨_, rfl⟩) (fun w1 hge hB => ?_)
 refine VC.sr ?_
 refine VO.mv rfl rfl rfl rfl ?_
 refine VO.mv rfl rfl rfl rfl ?_
 refine VO.op rfl (OpE.callT' (0) rfl rfl hB rfl Tryz.call10 rfl ((range_T (by omega) (by omega) (by omega))) (by omega) ?_)
 rintro _ ⟨r25, hr25, rfl⟩
 obtain ⟨nb, rfl⟩ : ∃ nb : Nat, r25 = nb := ⟨r25.toNat, by omega⟩
 refine VO.op rfl (OpE.callTO (0 + 1) rfl rfl hB rfl Tryz.call45 rfl (rightLooks_O (by omega)) (by omega) ?_)
 rintro _ _ ⟨a, ua, ⟨hal, hak, ha0⟩, rfl, rfl⟩
 refine VO.le _ (Le.rowT (t := 26) (i := 0) (xs := a) hB hnew rfl rfl rfl) ?_
 refine VO.mv rfl rfl rfl rfl ?_
 refine VO.op rfl (OpE.callT' (0 + 1 + 1300) rfl rfl hB rfl Tryz.call10 rfl ((range_T (by omega) (by omega) (by omega))) (by omega) ?_)
 rintro _ ⟨r28, hr28, rfl⟩
 refine VO.ma rfl rfl rfl rfl ?_
 refine VO.ma rfl rfl rfl rfl ?_
 refine VO.nil ?_
 refine VC.seq ?_
 have ha18 : a.length ≤ 18 := by omega
 have hs := LkG.sm hak (by omega)
 have hle : leastE a r28 = 0 := leastE_3 ha0 (outR_no3 (by omega))
 have hle2 : leastE a (r28 + 1) = 0 := leastE_3 ha0 (outR_no3 (by omega))
 have hnf := names_few hak ha0
 have hpl := psN_len a r28
 have hql := psN_len a (r28 + 1)
 have hbl := gdB_len a
 have hrl := rowsL_len a r28
 have hrk := fun k => rowsL_ok (l := a) (n := r28) (k := k)
 obtain ⟨rr, hrr⟩ : ∃ rr, rowsL a r28 = rr := ⟨_, rfl⟩
 obtain ⟨pp, hpp⟩ : ∃ pp, psN a r28 = pp := ⟨_, rfl⟩
 obtain ⟨qq, hqq⟩ : ∃ qq, psN a (r28 + 1) = qq := ⟨_, rfl⟩
 obtain ⟨bb, hbb⟩ : ∃ bb, gdB a = bb := ⟨_, rfl⟩
 rw [hrr] at hrl hrk
 rw [hpp] at hpl hrk
 rw [hqq] at hql
 rw [hbb] at hbl
 refine VC.region ?_
 refine VO.mv rfl rfl rfl rfl ?_
 refine VO.mv rfl rfl rfl rfl ?_
 refine VO.op rfl (OpE.call rfl hB rfl Tryz.call35 rfl (SpecN.spec (inspect_Rows hs (by omega) (fun _ => hnf))) ?_)
 rintro _ rfl
 refine VO.le _ (Le.recast (t := 32) (y := .tup [avL rr, avI 0]) rfl (fun w Z u h => by rw [hle, if_pos rfl, hrr] at h; exact h)) ?_
 refine VO.mv rfl rfl rfl rfl ?_
 refine VO.val rfl rfl (OpV.extract rfl rfl rfl) ?_
 refine VO.val rfl rfl (OpV.extract rfl rfl rfl) ?_
 refine VO.ma rfl rfl rfl rfl ?_
 refine VO.ma rfl rfl rfl rfl ?_
 refine VO.nil ?_
 refine VC.sr ?_
 refine VO.mv rfl rfl rfl rfl ?_
 refine VO.mv rfl rfl rfl rfl ?_
 refine VO.op rfl (OpE.call rfl hB rfl Tryz.call34 rfl (SpecN.spec (inspect_Positions hs)) ?_)
 rintro _ rfl
 refine VO.le _ (Le.recast (t := 38) (y := .tup [avStrs pp, avI 0]) rfl (fun w Z u h => by rw [hle, if_pos rfl, hpp] at h; exact h)) ?_
 refine VO.mv rfl rfl rfl rfl ?_
 refine VO.val rfl rfl (OpV.extract rfl rfl rfl) ?_
 refine VO.val rfl rfl (OpV.extract rfl rfl rfl) ?_
 refine VO.op rfl (OpE.alloc rfl hB rfl Tryz.zeroValue29 rfl ?_)
 intro g8
 refine VO.op rfl (OpE.store (i := 0) rfl hB rfl Tryz.sizeOf29 rfl rfl rfl rfl rfl rfl (Nle rfl) trivial ?_)
 refine VO.ma rfl rfl rfl rfl ?_
 refine VO.nil ?_
 refine VC.sr ?_
 refine VO.mv rfl rfl rfl rfl ?_
 refine VO.mv rfl rfl rfl rfl ?_
 refine VO.val rfl rfl (OpV.add rfl rfl rfl (by unfold fits; omega)) ?_
 refine VO.op rfl (OpE.call rfl hB rfl Tryz.call34 rfl (SpecN.spec (inspect_Positions hs)) ?_)
 rintro _ rfl
 refine VO.le _ (Le.recast (t := 45) (y := .tup [avStrs qq, avI 0]) rfl (fun w Z u h => by rw [hle2, if_pos rfl, hqq] at h; exact h)) ?_
 refine VO.mv rfl rfl rfl rfl ?_
 refine VO.val rfl rfl (OpV.extract rfl rfl rfl) ?_
 refine VO.val rfl rfl (OpV.extract rfl rfl rfl) ?_
 refine VO.ma rfl rfl rfl rfl ?_
 refine VO.ma rfl rfl rfl rfl ?_
 refine VO.nil ?_
 refine VC.seq ?_
 refine VC.le _ (Le.freezeAt (t := 8) (m := 1) (f := fun _ => avStrs pp) (i := 0) rfl rfl (Nat.le_refl _) (fun w Z u h => h.at_congr (g := fun _ => avStrs pp) (fun j hj => by rcases j with _ | j <;> first | rfl | omega)) hnew hB) ?_
 refine VC.region ?_
 refine VO.mv rfl rfl rfl rfl ?_
 refine VO.op rfl (OpE.call rfl hB rfl Tryz.call33 rfl (SpecN.spec (inspect_GoodBoards hs)) ?_)
 rintro _ rfl
 refine VO.le _ (Le.recast (t := 50) (y := .tup [avStrs bb, avI 0]) rfl (fun w Z u h => by rw [ha0, if_pos rfl, hbb] at h; exact h)) ?_
 refine VO.mv rfl rfl rfl rfl ?_
 refine VO.val rfl rfl (OpV.extract rfl rfl rfl) ?_
 refine VO.val rfl rfl (OpV.extract rfl rfl rfl) ?_
 refine VO.ma rfl rfl rfl rfl ?_
 refine VO.ma rfl rfl rfl rfl ?_
 refine VO.nil ?_
 refine VC.seq ?_
 refine VC.sr ?_
 refine VO.mv rfl rfl rfl rfl ?_
 refine VO.mv rfl rfl rfl rfl ?_
 refine VO.mv rfl rfl rfl rfl ?_
 refine VO.mv rfl rfl rfl rfl ?_
 refine VO.op rfl (OpE.buildSlice (zc := #[.int .i64 0, .int .i64 0, .int .i64 0, .int .i64 0]) rfl hB rfl Tryz.underlying173 Tryz.sizeOf36 Tryz.zeroValue36 (by decide) (by decide) (by kernel_rfl) rfl rfl ?_)
 refine VO.le _ (Le.lits (t := 57) (xs := [0, 0, 0, 0]) rfl rfl) ?_
 refine VO.op rfl (OpE.call rfl hB rfl Tryz.call46 rfl (SpecN.spec (rk_errs (by simp))) ?_)
 rintro _ rfl
 refine VO.val rfl rfl (OpV.neq rfl rfl rfl) ?_
 refine VO.le _ (Le.boolF (t := 59) rfl (decide_eq_false (by decide))) ?_
 refine VO.mv rfl rfl rfl rfl ?_
 refine VO.opY rfl rfl rfl rfl rfl ?_
 refine OpE.val (W := NoB) (OpV.move (.inl rfl) rfl) rfl ?_
 refine VO.opY rfl rfl rfl rfl rfl ?_
 refine OpE.val (W := NoB) (OpV.makeFuncF1 rfl rfl) rfl ?_
 refine VO.opY rfl rfl rfl rfl rfl ?_
 refine OpE.call rfl hB rfl Tryz.call47 rfl (SpecN.spec (slices_ContainsFunc_str (xs := qq) (cs := [.at_ 1 (fun _ => avStrs pp)]) (p := fun k => !(pp.any fun y => sEq k y)) (by omega) Tryz.call48 (fun x => posRows1 (by omega)))) ?_
 rintro _ rfl
 refine VO.le _ (Le.boolF (t := 63) rfl (by rw [← hqq, ← hpp]; exact pos_sub)) ?_
 refine VO.val rfl rfl (OpV.pickF rfl rfl rfl rfl rfl) ?_
 refine VO.nil ?_
 refine VC.condF rfl rfl ?_
 refine VC.skip ?_
 refine VC.seq ?_
 refine VC.sr ?_
 refine VO.mv rfl rfl rfl rfl ?_
 refine VO.val rfl rfl (OpV.len_im rfl Tryz.underlying56 rfl) ?_
 refine VO.mv rfl rfl rfl rfl ?_
 refine VO.nil ?_
 refine VC.block ?_
 refine VC.loopK [(4, _), (5, _), (8, _), (12, _), (65, _), (66, _)] ⟨rfl, rfl, rfl, rfl, rfl, rfl, trivial⟩ ({q : Nat // q ≤ rr.length}) (fun (iZ : {q : Nat // q ≤ rr.length}) => match iZ with | ⟨q, hq⟩ => [(67, avI (q : Int))]) (fun (iZ : {q : Nat // q ≤ rr.length}) => match iZ with | ⟨q, hq⟩ => []) (fun (iZ : {q : Nat // q ≤ rr.length}) => match iZ with | ⟨q, hq⟩ => 100000) (fun (iZ : {q : Nat // q ≤ rr.length}) => match iZ with | ⟨q, hq⟩ => rr.length - q) ⟨0, Nat.zero_le _⟩ (Le.mk hB [] ⟨rfl, rfl, rfl, rfl, rfl, rfl, rfl, trivial⟩ rfl rfl (Nle rfl)) ?_
 rintro ⟨q, hq⟩
 show VC _ _ _ _ ⟨[(67, avI (q : Int))] ++ [(4, _), (5, _), (8, _), (12, _), (65, _), (66, _)], [], 100000⟩
 refine VC.sr ?_
 refine VO.val rfl rfl (OpV.lss rfl rfl rfl) ?_
 refine VO.nil ?_
 refine VC.seq ?_
 refine VC.cond rfl (fun aH1b => ?_) (fun aH1b => ?_)
 ·have aH1 := aH1b
  try simp only [qqT, qqF, qqN, qqM, qqL, qqE] at aH1
  refine VC.skip ?_
  refine VC.seq ?_
  refine VC.block ?_
  refine VC.sr ?_
  refine VO.val rfl rfl (OpV.indexAddr_E rfl Tryz.underlying56 Tryz.sizeOf71 rfl rfl rfl (by omega)) ?_
  refine VO.val rfl rfl (OpV.loadK_at rfl hB OutW.no Tryz.isAgg71 Tryz.sizeOf71 rfl rfl) ?_
  refine VO.op rfl (OpE.alloc rfl hB rfl Tryz.zeroValue71 rfl ?_)
  intro g15
  refine VO.op rfl (OpE.store (i := 0) rfl hB rfl Tryz.sizeOf71 rfl rfl rfl rfl rfl rfl (Nle rfl) trivial ?_)
  refine VO.nil ?_
  refine VC.seq ?_
  obtain ⟨i, hv, hi1, hi2, hnm⟩ := hrk q (by omega)
  have hat := atoi_decB i (by omega)
  have hds := decB_size i (by omega)
  refine VC.region ?_
  refine VO.val rfl rfl (OpV.fieldAddrO 1 rfl Tryz.underlying71 rfl rfl Tryz.sizeOf9 rfl) ?_
  refine VO.val rfl rfl (OpV.load_own (i := 0) rfl hB Tryz.isAgg9 rfl rfl rfl (fun h => h)) ?_
  refine VO.op rfl (OpE.call rfl hB rfl Tryz.call50 rfl (SpecN.spec (strconv_Atoi_S (n := (i : Int)) (by rw [hv]; omega) (by rw [hv]; exact hat))) ?_)
  rintro _ rfl
  refine VO.mv rfl rfl rfl rfl ?_
  refine VO.val rfl rfl (OpV.extract rfl rfl rfl) ?_
  refine VO.val rfl rfl (OpV.extract rfl rfl rfl) ?_
  refine VO.ma rfl rfl rfl rfl ?_
  refine VO.ma rfl rfl rfl rfl ?_
  refine VO.nil ?_
  refine VC.sr ?_
  refine VO.mv rfl rfl rfl rfl ?_
  refine VO.val rfl rfl (OpV.inneq rfl (by first | exact Tryz.underlying76 | kernel_rfl) rfl) ?_
  refine VO.mv rfl rfl rfl rfl ?_
  refine VO.opY rfl rfl rfl rfl rfl ?_
  refine OpE.val (W := NoB) (OpV.move (.inl rfl) rfl) rfl ?_
  refine VO.opY rfl rfl rfl rfl rfl ?_
  refine OpE.val (W := NoB) (OpV.move (.inl rfl) rfl) rfl ?_
  refine VO.opY rfl rfl rfl rfl rfl ?_
  refine OpE.val (W := NoB) (OpV.lss rfl rfl rfl) rfl ?_
  refine VO.le _ (Le.boolF (t := 82) rfl (decide_eq_false (by omega))) ?_
  refine VO.val rfl rfl (OpV.pickF rfl rfl rfl rfl rfl) ?_
  refine VO.mv rfl rfl rfl rfl ?_
  refine VO.opY rfl rfl rfl rfl rfl ?_
  refine OpE.val (W := NoB) (OpV.load_at rfl hB OutW.no Tryz.isAgg29 rfl rfl) rfl ?_
  refine VO.opY rfl rfl rfl rfl rfl ?_
  refine OpE.val (W := NoB) (OpV.fieldAddrO 0 rfl Tryz.underlying71 rfl rfl Tryz.sizeOf9 rfl) rfl ?_
  refine VO.opY rfl rfl rfl rfl rfl ?_
  refine OpE.val (W := NoB) (OpV.load_own (i := 0) rfl hB Tryz.isAgg9 rfl rfl rfl (fun h => h)) rfl ?_
  refine VO.opY rfl rfl rfl rfl rfl ?_
  refine OpE.call rfl hB rfl Tryz.call49 rfl (SpecN.spec (slices_Contains_str (by omega))) ?_
  rintro _ rfl
  refine VO.le _ (Le.boolT (t := 88) rfl (any_in hnm)) ?_
  refine VO.opY rfl rfl rfl rfl rfl ?_
  refine OpE.val (W := NoB) (OpV.not rfl rfl) rfl ?_
  refine VO.val rfl rfl (OpV.pickF rfl rfl rfl rfl rfl) ?_
  refine VO.nil ?_
  refine VC.condF rfl rfl ?_
  refine VC.skip ?_
  refine VC.region ?_
  refine VO.val rfl rfl (OpV.add rfl rfl rfl (by unfold fits; omega)) ?_
  refine VO.mv rfl rfl rfl rfl ?_
  refine VO.nil ?_
  exact Exists.intro (⟨q + 1, by omega⟩) (And.intro (Le.mk hB [] ⟨rfl, rfl, rfl, rfl, rfl, rfl, rfl, trivial⟩ rfl rfl (Nle rfl)) (by first | omega | (show _ < _; omega) | (simp only []; omega)))
 ·have aH1 := aH1b
  try simp only [qqT, qqF, qqN, qqM, qqL, qqE] at aH1
  refine VC.exit ?_
  refine VC.seq ?_
  refine VC.sr ?_
  refine VO.mv rfl rfl rfl rfl ?_
  refine VO.val rfl rfl (OpV.len_im rfl Tryz.underlying54 rfl) ?_
  refine VO.mv rfl rfl rfl rfl ?_
  refine VO.nil ?_
  refine VC.block ?_
  refine VC.loopK [(12, _), (92, _), (93, _)] ⟨rfl, rfl, rfl, trivial⟩ ({q1 : Nat // q1 ≤ a.length}) (fun (iZ : {q1 : Nat // q1 ≤ a.length}) => match iZ with | ⟨q1, hq1⟩ => [(94, avI (q1 : Int))]) (fun (iZ : {q1 : Nat // q1 ≤ a.length}) => match iZ with | ⟨q1, hq1⟩ => []) (fun (iZ : {q1 : Nat // q1 ≤ a.length}) => match iZ with | ⟨q1, hq1⟩ => 100000) (fun (iZ : {q1 : Nat // q1 ≤ a.length}) => match iZ with | ⟨q1, hq1⟩ => a.length - q1) ⟨0, Nat.zero_le _⟩ (Le.mk hB [] ⟨rfl, rfl, rfl, rfl, trivial⟩ rfl rfl (Nle rfl)) ?_
  rintro ⟨q1, hq1⟩
  show VC _ _ _ _ ⟨[(94, avI (q1 : Int))] ++ [(12, _), (92, _), (93, _)], [], 100000⟩
  refine VC.sr ?_
  refine VO.val rfl rfl (OpV.lss rfl rfl rfl) ?_
  refine VO.nil ?_
  refine VC.seq ?_
  refine VC.cond rfl (fun aH2b => ?_) (fun aH2b => ?_)
  ·have aH2 := aH2b
   try simp only [qqT, qqF, qqN, qqM, qqL, qqE] at aH2
   refine VC.skip ?_
   refine VC.seq ?_
   refine VC.block ?_
   refine VC.sr ?_
   refine VO.val rfl rfl (OpV.indexAddr_E rfl Tryz.underlying54 Tryz.sizeOf80 rfl rfl rfl (by omega)) ?_
   refine VO.val rfl rfl (OpV.loadK_at rfl hB OutW.no Tryz.isAgg80 Tryz.sizeOf80 rfl rfl) ?_
   refine VO.op rfl (OpE.alloc rfl hB rfl Tryz.zeroValue80 rfl ?_)
   intro g19
   refine VO.op rfl (OpE.store (i := 0) rfl hB rfl Tryz.sizeOf80 rfl rfl rfl rfl rfl rfl (Nle rfl) trivial ?_)
   refine VO.nil ?_
   refine VC.sr ?_
   refine VO.val rfl rfl (OpV.fieldAddrO 4 rfl Tryz.underlying80 rfl rfl Tryz.sizeOf4 rfl) ?_
   refine VO.val rfl rfl (OpV.load_own (i := 0) rfl hB Tryz.isAgg4 rfl rfl rfl (fun h => h)) ?_
   refine VO.mv rfl rfl rfl rfl ?_
   refine VO.opG rfl rfl rfl rfl (fun aK3b => ?_) (fun aK3b => ?_)
   ·replace aK3b : _ = true := aK3b
    have aK3 := aK3b
    try simp only [qqT, qqF, qqN, qqM, qqL, qqE] at aK3
    refine OpE.val (W := NoB) (OpV.move (.inl rfl) rfl) rfl ?_
    refine VO.opY rfl rfl rfl rfl aK3b ?_
    refine OpE.val (W := NoB) (OpV.fieldAddrO 0 rfl Tryz.underlying80 rfl rfl Tryz.sizeOf9 rfl) rfl ?_
    refine VO.opY rfl rfl rfl rfl aK3b ?_
    refine OpE.val (W := NoB) (OpV.load_own (i := 0) rfl hB Tryz.isAgg9 rfl rfl rfl (fun h => h)) rfl ?_
    refine VO.opY rfl rfl rfl rfl aK3b ?_
    refine OpE.call rfl hB rfl Tryz.call49 rfl (SpecN.spec (slices_Contains_str (by omega))) ?_
    rintro _ rfl
    refine VO.le _ (Le.boolF (t := 104) rfl (by rw [← hbb]; exact any_out (gdB_bad (x := a.getD q1 default) (by rw [List.getD_eq_getElem?_getD, List.getElem?_eq_getElem (by omega)]; exact List.getElem_mem _) (by assumption)))) ?_
    refine VO.val rfl rfl (OpV.pickT rfl rfl rfl rfl aK3b) ?_
    refine VO.nil ?_
    refine VC.condF rfl rfl ?_
    refine VC.skip ?_
    refine VC.region ?_
    refine VO.val rfl rfl (OpV.add rfl rfl rfl (by unfold fits; omega)) ?_
    refine VO.mv rfl rfl rfl rfl ?_
    refine VO.nil ?_
    exact Exists.intro (⟨q1 + 1, by omega⟩) (And.intro (Le.mk hB [] ⟨rfl, rfl, rfl, rfl, trivial⟩ rfl rfl (Nle rfl)) (by first | omega | (show _ < _; omega) | (simp only []; omega)))
   ·replace aK3b : _ = false := aK3b
    have aK3 := aK3b
    try simp only [qqT, qqF, qqN, qqM, qqL, qqE] at aK3
    refine VO.opX rfl rfl rfl rfl aK3b ?_
    refine VO.opX rfl rfl rfl rfl aK3b ?_
    refine VO.opX rfl rfl rfl rfl aK3b ?_
    refine VO.val rfl rfl (OpV.pickF rfl rfl rfl rfl aK3b) ?_
    refine VO.nil ?_
    refine VC.condF rfl rfl ?_
    refine VC.skip ?_
    refine VC.region ?_
    refine VO.val rfl rfl (OpV.add rfl rfl rfl (by unfold fits; omega)) ?_
    refine VO.mv rfl rfl rfl rfl ?_
    refine VO.nil ?_
    exact Exists.intro (⟨q1 + 1, by omega⟩) (And.intro (Le.mk hB [] ⟨rfl, rfl, rfl, rfl, trivial⟩ rfl rfl (Nle rfl)) (by first | omega | (show _ < _; omega) | (simp only []; omega)))
  ·have aH2 := aH2b
   try simp only [qqT, qqF, qqN, qqM, qqL, qqE] at aH2
   refine VC.exit ?_
   refine VC.sr ?_
   refine VO.op rfl (OpE.call rfl hB rfl Tryz.call51 rfl (SpecN.spec (rk_ready)) ?_)
   rintro _ rfl
   refine VO.ma rfl rfl rfl rfl ?_
   refine VO.nil ?_
   refine VC.ret ?_
   exact And.intro rfl rfl
end Go.Proofs.YtdnlhdilpdeecaaGreatDoor
