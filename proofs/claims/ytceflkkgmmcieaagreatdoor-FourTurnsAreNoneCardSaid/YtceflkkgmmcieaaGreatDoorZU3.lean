/- Part 3 of a proof: the walks and laws that it needs. -/
import Derived.BigRegion
import Derived.Deep.RegionLaw
import Derived.Deep.LoopGhost
import Derived.Deep.DeepCutAuto
import Derived.Test.YtceflkkgmmcieaaGreatDoorZU2
namespace Go.Proofs.YtceflkkgmmcieaaGreatDoor
open Go.RowKit
set_option linter.unusedVariables false
set_option linter.unusedSimpArgs false

structure Mat {α : Type} [Enc α] (w : World) (lo g n : Nat) (eo ei : TypeId) (V : Nat → Value) (R : Nat → List α) : Prop where
 low : lo ≤ g
 ex : ∃ cur, w.heap[g]? = some (.cells cur eo (0, 0)) ∧ cur.size = n ∧ ∀ k, k < n → cur[k]? = some (V k)
 own : ∀ k, k < n → Own w lo ei (V k) (R k)
 out : ∀ k, k < n → (V k).ownBlock ≠ some g
 sep : ∀ j k, j < n → k < n → j ≠ k → ∀ q, (V j).ownBlock = some q → (V k).ownBlock ≠ some q

namespace Mat
variable {α : Type} [Enc α] {w w' : World} {lo g n : Nat} {eo ei : TypeId} {V : Nat → Value} {R R' : Nat → List α}
theorem lt (h : Mat w lo g n eo ei V R) : g < w.heap.size := by obtain ⟨cur, h1, _⟩ := h.ex; exact (Array.getElem?_eq_some_iff.1 h1).1
theorem start (w : World) (lo n : Nat) (eo ei : TypeId) (hlo : lo ≤ w.heap.size) : Mat (α := α) (w.alloc (.cells (Array.replicate n (.slice none 0 0)) eo)) lo w.heap.size n eo ei (fun _ => .slice none 0 0) (fun _ => []) :=
 ⟨hlo, ⟨_, heap_alloc_new w _, by simp, fun k hk => by simp [hk]⟩, fun k hk => Own.nil _ _ _, fun k hk => by simp [Value.ownBlock], fun j k _ _ _ q h => by simp [Value.ownBlock] at h⟩
theorem congr (h : Mat w lo g n eo ei V R) (e : ∀ k, k < n → R k = R' k) : Mat w lo g n eo ei V R' :=
 ⟨h.low, h.ex, fun k hk => e k hk ▸ h.own k hk, h.out, h.sep⟩
theorem keep {S : Nat → Prop} (h : Mat w lo g n eo ei V R) (c : Chg S w w') (hs : ∀ k, lo ≤ k → k < w.heap.size → ¬ S k) : Mat w' lo g n eo ei V R := by
 obtain ⟨cur, h1, h2, h3⟩ := h.ex
 exact ⟨h.low, ⟨cur, (c.block g h.lt (hs g h.low h.lt)).trans h1, h2, h3⟩, fun k hk => (h.own k hk).keep c hs, h.out, h.sep⟩
theorem cell (h : Mat w lo g n eo ei V R) (k : Nat) (hk : k < n) : w.cell? ⟨g, k, none⟩ = some (V k) := by
 obtain ⟨cur, h1, h2, h3⟩ := h.ex
 simp [World.cell?, h1, h3 k hk]
theorem froz (h : Mat w lo g n eo ei V R) (k : Nat) : w.frozen? ⟨g, k, none⟩ = false := by
 obtain ⟨cur, h1, h2, h3⟩ := h.ex
 simp [World.frozen?, h1]
theorem step [Flat α] (h : Mat w lo g n eo ei V R) (k : Nat) (hk : k < n) (v' : Value) (xs : List α) (ho : Own w' lo ei v' xs) (c : Chg (blk (V k)) w w')
  (hb : ∀ q, v'.ownBlock = some q → (V k).ownBlock = some q ∨ w.heap.size ≤ q) :
  Mat (w'.setCell ⟨g, k, none⟩ v') lo g n eo ei (fun j => if j = k then v' else V j) (fun j => if j = k then xs else R j) := by
 obtain ⟨cur, h1, h2, h3⟩ := h.ex
 have hg : w'.heap[g]? = some (.cells cur eo (0, 0)) := (c.block g h.lt (h.out k hk)).trans h1
 have hs : Chg (AtB g) w' (w'.setCell ⟨g, k, none⟩ v') := Chg.setAt _ _ _ _
 have hvg : v'.ownBlock ≠ some g := by
  intro e
  rcases hb g e with e | e
  ·exact h.out k hk e
  ·have := h.lt; omega
 refine ⟨h.low, ⟨cur.setIfInBounds k v', ?_, by simpa using h2, ?_⟩, ?_, ?_, ?_⟩
 ·simp [World.setCell, Array.getElem?_modify, hg]
 ·intro j hj
  rw [Array.getElem?_setIfInBounds]
  by_cases hjk : k = j
  ·subst hjk; simp [h2, hk]
  ·rw [if_neg hjk, if_neg (fun e => hjk e.symm)]; exact h3 j hj
 ·intro j hj
  by_cases hjk : j = k
  ·subst hjk
   simp only [if_true]
   exact ho.keepF hs fun q hq x => by unfold AtB at x; subst x; exact hvg hq
  ·simp only [if_neg hjk]
   refine ((h.own j hj).keepF c fun q hq x => h.sep j k hj hk hjk q hq x).keepF hs fun q hq x => ?_
   unfold AtB at x; subst x; exact h.out j hj hq
 ·intro j hj
  by_cases hjk : j = k
  ·subst hjk; simpa using hvg
  ·simp only [if_neg hjk]; exact h.out j hj
 ·intro j i hj hi hne q hq
  by_cases hjk : j = k
  ·subst hjk
   simp only [if_true, if_neg (fun e : i = j => hne e.symm)] at hq ⊢
   rcases hb q hq with e | e
   ·exact h.sep j i hk hi hne q e
   ·intro e2
    have := ((h.own i hi).lt q e2).2
    omega
  ·simp only [if_neg hjk] at hq
   by_cases hik : i = k
   ·subst hik
    simp only [if_true]
    intro e
    rcases hb q e with e | e
    ·exact h.sep j i hj hi hjk q hq e
    ·have := ((h.own j hj).lt q hq).2
     omega
   ·simp only [if_neg hik]; exact h.sep j i hj hi hne q hq
theorem isSl (h : Mat w lo g n eo ei V R) (hm : n ≤ maxLen) : IsSl w (fun k => lo ≤ k) (.slice (some ⟨g, 0, none⟩) n n) ((List.range n).map R) := by
 obtain ⟨cur, h1, h2, h3⟩ := h.ex
 refine .inr ⟨g, 0, n, cur, eo, by simp, h.low, by simp, hm, h1, fun i hi => ?_⟩
 simp at hi
 refine ⟨V i, ?_, ?_⟩
 ·simpa [Enc.sz] using h3 i hi
 ·simpa using (h.own i hi).isSl
end Mat

theorem Own.pcell {w : World} {lo e g n cap : Nat} {xs : List Pass} (h : Own w lo e (.slice (some ⟨g, 0, none⟩) n cap) xs) (i : Nat) (hi : i < xs.length) :
  w.cell? ⟨g, i * 2, none⟩ = some (.int .i64 xs[i].taken) ∧ w.cell? ⟨g, i * 2 + 1, none⟩ = some (.int .i64 xs[i].left) := by
 obtain ⟨b, off, ha, hb, hc⟩ := h.isSl.cells.2 (by omega)
 cases ha
 have := hc i hi
 simp only [Enc.Is, Enc.sz, Nat.zero_add, Nat.add_zero] at this
 exact this

theorem infoPass : (Tryz.prog.info? 220).map (fun i => (i.zero, i.size, i.bytes)) = some (some (.agg #[.int .i64 0, .int .i64 0]), 2, 16) := by kernel_rfl
theorem infoSlPass : (Tryz.prog.info? 218).map (fun i => (i.zero, i.size, i.bytes)) = some (some (.slice none 0 0), 1, 24) := by kernel_rfl

def PBlk (w : World) (P : Nat) (x y : Int) : Prop := w.heap[P]? = some (.cells #[.int .i64 x, .int .i64 y] 220 (0, 0))
theorem PBlk.new (w : World) (x y : Int) : PBlk (w.alloc (.cells #[.int .i64 x, .int .i64 y] 220)) w.heap.size x y := heap_alloc_new w _
theorem PBlk.facts {w : World} {P : Nat} {x y : Int} (h : PBlk w P x y) : w.cell? ⟨P, 0, none⟩ = some (.int .i64 x) ∧ w.cell? ⟨P, 1, none⟩ = some (.int .i64 y) ∧ w.frozen? ⟨P, 0, none⟩ = false ∧ w.frozen? ⟨P, 1, none⟩ = false := by
 unfold PBlk at h
 simp [World.cell?, World.frozen?, h]
theorem PBlk.set1 {w : World} {P : Nat} {x y : Int} (h : PBlk w P x y) (z : Int) : PBlk (w.setCell ⟨P, 1, none⟩ (.int .i64 z)) P x z := by
 unfold PBlk at h ⊢; simp [World.setCell, Array.getElem?_modify, h]

def rowP (c bf : List Int) (b k j : Nat) : List Pass := (List.range (if j < k then b + 1 else b)).map fun q => pas c bf q j


theorem flow_step {c bf : List Int} {w wr w5 w6 : World} {V : Nat → Value} {b k g6 cap6 : Nat} {ak : Option Addr} {capk : Nat} {T Z : Int} (hkl : k < c.length)
  (hmx : Mat w5 w.heap.size w.heap.size c.length 218 220 V (rowP c bf b k)) (hT : T = (pas c bf b k).taken) (hZ : Z = (pas c bf b k).left)
  (hv : V k = .slice ak b capk) (hown : Own w6 w.heap.size 220 (.slice (some ⟨g6, 0, none⟩) ((rowP c bf b k k).length + 1) cap6) (rowP c bf b k k ++ [⟨T, Z⟩]))
  (hc6 : Chg (blk (.slice ak b capk)) w5.drew w6) (hg6 : (Value.slice ak b capk).ownBlock = some g6 ∨ w5.drew.heap.size ≤ g6)
  (hch : Chg (NewB w.heap.size) w wr) (hcx : Chg (NewB wr.heap.size) wr w5) :
  Mat (w6.setCell ⟨w.heap.size, k, none⟩ (.slice (some ⟨g6, 0, none⟩) ((rowP c bf b k k).length + 1) cap6)) w.heap.size w.heap.size c.length 218 220
    (fun j => if j = k then .slice (some ⟨g6, 0, none⟩) ((rowP c bf b k k).length + 1) cap6 else V j) (rowP c bf b (k + 1)) ∧
   Chg (NewB w.heap.size) w (w6.setCell ⟨w.heap.size, k, none⟩ (.slice (some ⟨g6, 0, none⟩) ((rowP c bf b k k).length + 1) cap6)) ∧ here c bf b (k + 1) = Z := by
 rw [← hv] at hc6 hg6
 refine ⟨(hmx.step k hkl _ _ hown hc6.ofDrew fun q hq => ?_).congr fun j hj => ?_, ?_, ?_⟩
 ·simp only [Value.ownBlock, Option.some.injEq] at hq
  subst hq; exact hg6
 ·by_cases hjk : j = k
  ·subst hjk
   simp only [if_true, rowP, Nat.lt_irrefl, if_false, Nat.lt_succ_self, List.range_succ, List.map_append, List.map_cons, List.map_nil]
   rw [hT, hZ]
  ·simp only [if_neg hjk, rowP]
   have : j < k + 1 ↔ j < k := by omega
   simp only [this]
 ·have h1 : Chg (NewB w.heap.size) w w5 := hch.trans (hcx.mono fun q hq x => by have := hch.size; unfold NewB at x ⊢; omega)
  exact (h1.trans (hc6.ofDrew.mono fun q hq x => ((hmx.own k hkl).lt q x).1)).setCell (a := ⟨w.heap.size, k, none⟩) (fun _ => Nat.le_refl _) _
 ·simp [here, hZ]

set_option maxHeartbeats 2000000 in
set_option maxRecDepth 100000 in
theorem flow_any (v1 v2 : Value) (c bf : List Int) (n : Nat) (A1 A2 : Nat → Prop) (w : World) (h1 : IsSl w A1 v1 c) (h2 : IsSl w A2 v2 bf) (hr : RightLine c bf) (hn : n ≤ 2000) :
    Calls Tryz.prog 135 #[v1, v2, .int .i64 n] w fun e w' => ∃ v, e = .returned v ∧ IsSl w' (fun k => w.heap.size ≤ k) v ((List.range c.length).map fun k => (List.range n).map fun q => pas c bf q k) ∧ Chg NoB w w' := by
  obtain ⟨a1, cap1, rfl, g1, g2⟩ := h1.shape
  obtain ⟨a2, cap2, rfl, g3, g4⟩ := h2.shape
  unfold maxLen at g2 g4
  have hlen := hr.len
  have hpos := hr.pos
  have hbl := hr.bl
  have HR := hid hr; clear hr
  go_enter Tryz.func135, Tryz.ntmps135
  go_wp2_with (at_make; refine wpl_make_raw w rfl _ _ 216 218 rfl (.slice none 0 0) 24 Tryz.underlying216 infoSlPass rfl (by decide) .i64 .i64 _ _ rfl rfl c.length rfl rfl (by omega) ?_)
  have hst := Mat.start (α := Pass) w w.heap.size c.length 218 220 (Nat.le_refl _)
  obtain ⟨w0, hw0⟩ : ∃ w0, w0 = w.alloc (.cells (Array.replicate c.length (.slice none 0 0)) 218) := ⟨_, rfl⟩
  have hc0 : Chg NoB w w0 := by rw [hw0]; exact (Chg.refl _ _).alloc _
  rw [← hw0] at hst ⊢
  clear hw0
  go_loopw [8, 18] (fun _ i wr => ∃ (b : Nat) (V : Nat → Value), b ≤ n ∧ i = .int .i64 b ∧ Mat wr w.heap.size w.heap.size c.length 218 220 V (rowP c bf b 0) ∧ Chg (NewB w.heap.size) w wr)
    (fun _ i _ => n - (intOf i).toNat)
  case atStart => exact ⟨0, _, by omega, rfl, hst.congr fun k hk => by simp [rowP], hc0.any⟩
  case round =>
    obtain ⟨b, V, hb, rfl, hmat, hch⟩ := hrel
    by_cases hbn : b < n
    · obtain ⟨wo, rfl⟩ : ∃ wo : World, wo = wr := ⟨_, rfl⟩
      go_wp2_with fail
      go_loopw [9, 10, 11, 13, 23] (fun h _ _ _ i wr => ∃ (k : Nat) (V : Nat → Value), k ≤ c.length ∧ i = .int .i64 k ∧ h = .int .i64 (here c bf b k) ∧ Mat wr w.heap.size w.heap.size c.length 218 220 V (rowP c bf b k) ∧ Chg (NewB w.heap.size) w wr)
        (fun _ _ _ _ i _ => c.length - (intOf i).toNat)
      case atStart => exact ⟨0, _, by omega, rfl, rfl, hmat, hch⟩
      case round =>
        clear hmat hch
        obtain ⟨k, V, hk, rfl, rfl, hmat, hch⟩ := hrel
        by_cases hkl : k < c.length
        · have hszr := hch.size
          have hgl := hmat.lt
          obtain ⟨bc, oc, rfl, _, hcc⟩ := h1.ints (by omega)
          have hcell := hch.cellNew (Nat.le_refl _) (hcc k hkl)
          have hbd := pas_bd HR.out b k hkl
          have hck := HR.out.c1 k hkl
          have hac : at' c k = c[k] := by simp [at', hkl]
          rw [hac] at hbd hck
          obtain ⟨T, hT⟩ : ∃ T, T = (pas c bf b k).taken := ⟨_, rfl⟩
          obtain ⟨Z, hZ⟩ : ∃ Z, Z = (pas c bf b k).left := ⟨_, rfl⟩
          rw [← hT, ← hZ] at hbd
          have HT := hid hT; clear hT
          have HZ := hid hZ; clear hZ
          have HAC := hid hac; clear hac
          have HCC := hid hcc; clear hcc
          go_upto_if 31 with (fail)
          go_cut [] (fun wx => PBlk wx wr.heap.size T 0 ∧ Chg (NewB wr.heap.size) wr wx)
          case first =>
            have htk := pas_taken c bf b k
            rw [← HT.out] at htk
            by_cases hb0 : 0 < b
            · rw [if_neg (by omega)] at htk
              obtain ⟨q, rfl⟩ : ∃ q, b = q + 1 := ⟨b - 1, by omega⟩
              simp only [Nat.add_sub_cancel] at htk
              have HTK := hid htk; clear htk
              have hVk : (rowP c bf (q + 1) k k).length = q + 1 := by simp [rowP]
              have hok := hmat.own k hkl
              obtain ⟨ak, capk, hav, _, _⟩ := hok.shape
              rw [hav] at hok
              obtain ⟨gk, rfl, hgk1, hgk2⟩ := hok.head (by omega)
              have hov := hmat.cell k hkl
              rw [hav] at hov
              have hpk := (hok.pcell q (by omega)).2
              have e1 : (rowP c bf (q + 1) k k)[q]'(by omega) = pas c bf q k := by simp [rowP]
              rw [e1] at hpk
              rw [hVk] at hov
              clear e1 hVk hav
              go_wp2_with fail
              go_meet
              case rel =>
                rw [HTK.out]
                exact ⟨PBlk.new _ _ _, (Chg.refl _ _).alloc _⟩
            · rw [if_pos (by omega)] at htk
              have HTK := hid htk; clear htk
              go_wp2_with fail
              go_meet
              case rel =>
                rw [HTK.out]
                exact ⟨PBlk.new _ _ _, (Chg.refl _ _).alloc _⟩
          case rest =>
            obtain ⟨hpb, hcx⟩ := hcut
            obtain ⟨f0, f1, f2, f3⟩ := hpb.facts
            have hszx := hcx.size
            have hcell1 := hcx.cellNew (Nat.le_refl _) hcell
            go_upto_if 53 with (fail)
            have hpb1 := hpb.set1 (T + c[k])
            have hcx1 : Chg (NewB wr.heap.size) wr (wc.setCell ⟨wr.heap.size, 1, none⟩ (.int .i64 (T + c[k]))) := hcx.setCell (a := ⟨wr.heap.size, 1, none⟩) (fun _ => Nat.le_refl _) _
            go_cut [] (fun wx => PBlk wx wr.heap.size T Z ∧ Chg (NewB wr.heap.size) wr wx)
            case first =>
              have hlf := pas_left c bf b k
              rw [← HT.out, ← HZ.out, HAC.out] at hlf
              obtain ⟨f0', f1', f2', f3'⟩ := hpb1.facts
              by_cases hk1 : k + 1 < c.length
              · rw [if_pos hk1] at hlf
                obtain ⟨bb, ob, rfl, _, hbc⟩ := h2.ints (by omega)
                have hbcell := hcx1.cell (hch.cellNew (Nat.le_refl _) (hbc k (by omega))) (Nat.not_le_of_lt (World.block_lt_of_cell? _ _ (hch.cellNew (Nat.le_refl _) (hbc k (by omega)))))
                have hb0k := HR.out.b0 k
                have hbk : at' bf k = bf[k]'(by omega) := by simp [at', show k < bf.length by omega]
                obtain ⟨r, hr⟩ : ∃ r : Nat, bf[k]'(by omega) = (r : Int) := ⟨(bf[k]'(by omega)).toNat, by omega⟩
                rw [hr] at hbcell hbk
                rw [hbk] at hlf
                clear hbc hb0k hbk hr f0 f1 f2 f3
                by_cases hr0 : r = 0
                · subst hr0
                  rw [if_pos (by simp)] at hlf
                  by_cases hb0 : 0 < b
                  · obtain ⟨q, rfl⟩ : ∃ q, b = q + 1 := ⟨b - 1, by omega⟩
                    rw [if_neg (by omega)] at hlf
                    simp only [Nat.add_sub_cancel] at hlf
                    have HLF := hid hlf; clear hlf
                    have hVn : (rowP c bf (q + 1) k (k + 1)).length = q + 1 := by simp [rowP]
                    have hon := hmat.own (k + 1) hk1
                    obtain ⟨an, capn, han, _, _⟩ := hon.shape
                    rw [han] at hon
                    obtain ⟨gn, rfl, hgn1, hgn2⟩ := hon.head (by omega)
                    have hovn := hcx1.cell (hmat.cell (k + 1) hk1) (Nat.not_le_of_lt hgl)
                    rw [han, hVn] at hovn
                    have hpn := hcx1.cell (hon.pcell q (by omega)).2 (Nat.not_le_of_lt hgn2)
                    have e1 : (rowP c bf (q + 1) k (k + 1))[q]'(by omega) = pas c bf q (k + 1) := by simp [rowP]
                    rw [e1] at hpn
                    clear e1 hVn han
                    go_wp2_with fail
                    go_region
                    all_goals go_wp2_with fail
                    all_goals go_meet
                    case rel => rw [HLF.out]; exact ⟨hpb1.set1 _, (hcx1.setCell (a := ⟨wr.heap.size, 1, none⟩) (fun _ => Nat.le_refl _) _).drew⟩
                  · rw [if_pos (by omega)] at hlf
                    have HLF := hid hlf; clear hlf
                    have hb1 : b = 0 := by omega
                    subst hb1
                    go_wp2_with fail
                    go_meet
                    case rel => rw [HLF.out]; exact ⟨hpb1, hcx1⟩
                · rw [if_neg (by omega)] at hlf
                  by_cases hrb : r ≤ b
                  · rw [if_pos (by omega)] at hlf
                    have hr1 : ((r : Int) == 0) = false := by simp; omega
                    obtain ⟨t, rfl⟩ : ∃ t, b = t + r := ⟨b - r, by omega⟩
                    have ht1 : ((t + r : Nat) : Int) - ((r : Int)) = (t : Int) := by omega
                    have ht2 : t + r - (r : Int).toNat = t := by omega
                    rw [ht2] at hlf
                    have HLF := hid hlf; clear hlf ht2
                    have hVn : (rowP c bf (t + r) k (k + 1)).length = t + r := by simp [rowP]
                    have hon := hmat.own (k + 1) hk1
                    obtain ⟨an, capn, han, _, _⟩ := hon.shape
                    rw [han] at hon
                    obtain ⟨gn, rfl, hgn1, hgn2⟩ := hon.head (by omega)
                    have hovn := hcx1.cell (hmat.cell (k + 1) hk1) (Nat.not_le_of_lt hgl)
                    rw [han, hVn] at hovn
                    have hpn := hcx1.cell (hon.pcell t (by omega)).1 (Nat.not_le_of_lt hgn2)
                    have e1 : (rowP c bf (t + r) k (k + 1))[t]'(by omega) = pas c bf t (k + 1) := by simp [rowP]
                    rw [e1] at hpn
                    clear e1 hVn han
                    go_wp2_with fail
                    go_region
                    all_goals go_wp2_with fail
                    all_goals go_meet
                    case rel => rw [HLF.out]; exact ⟨hpb1.set1 _, (hcx1.setCell (a := ⟨wr.heap.size, 1, none⟩) (fun _ => Nat.le_refl _) _).drew⟩
                  · rw [if_neg (by omega)] at hlf
                    have HLF := hid hlf; clear hlf
                    have hr1 : ((r : Int) == 0) = false := by simp; omega
                    go_wp2_with fail
                    go_meet
                    case rel => rw [HLF.out]; exact ⟨hpb1, hcx1⟩
              · rw [if_neg hk1] at hlf
                have HLF := hid hlf; clear hlf
                go_wp2_with fail
                go_meet
                case rel => rw [HLF.out]; exact ⟨hpb1, hcx1⟩
            case rest =>
              clear hpb hcx f0 f1 f2 f3 hcell1 hpb1 hcx1 hszx
              obtain ⟨hpb, hcx⟩ := hcut
              obtain ⟨w5, rfl⟩ : ∃ w5 : World, w5 = wc := ⟨_, rfl⟩
              obtain ⟨f0, f1, f2, f3⟩ := hpb.facts
              have hszx := hcx.size
              have hVk : (rowP c bf b k k).length = b := by simp [rowP]
              have hmx : Mat w5 w.heap.size w.heap.size c.length 218 220 V (rowP c bf b k) := hmat.keep hcx fun q _ h2 h3 => Nat.not_le_of_lt h2 h3
              have hok := hmx.own k hkl
              obtain ⟨ak, capk, hav, _, _⟩ := hok.shape
              have hov := hmx.cell k hkl
              have hfz := hmx.froz k
              rw [hav] at hok
              rw [hav, hVk] at hov
              rw [hVk] at hok
              obtain ⟨i0, hi, hz0, hz1, hz2⟩ := info_parts infoPass
              have HI := hid hi; clear hi
              have HZ0 := hid hz0; clear hz0
              have HZ1 := hid hz1; clear hz1
              have HZ2 := hid hz2; clear hz2
              have HOUT := hid (hmx.out k hkl)
              rw [hav, hVk] at HOUT
              have HAV : Hid (V k = .slice ak b capk) := by unfold Hid; rw [hav, hVk]
              clear hav
              have hpout : ¬ blk (.slice ak b capk) wr.heap.size := fun x => by
                have := ((hmat.own k hkl).lt wr.heap.size (by rw [HAV.out]; exact x)).2
                omega
              have HPO := hid hpout; clear hpout
              have hlo5 : w.heap.size ≤ w5.heap.size := by omega
              have hlt5 : w.heap.size < w5.heap.size := hmx.lt
              have hVk' : (rowP c bf b k k).length ≤ 1000000000 := by omega
              have hHV := hid hVk; clear hVk
              go_wp2_with fail
              go_region_law ((refine step_append1 (α := Pass) w5.drew #[.int .i64 T, .int .i64 Z] rfl (.tmp 107) (.tmp 109) 218 220 rfl i0 (.agg #[.int .i64 0, .int .i64 0]) 16 Tryz.underlying218 HI.out HZ0.out HZ1.out HZ2.out rfl (by decide) w.heap.size (.slice ak b capk) (rowP c bf b k k) ⟨T, Z⟩ hok hlo5 hVk' ⟨rfl, rfl⟩ rfl rfl rfl ?_; intro g6 cap6 w6 hown6 hc6 hg6 hl6; have hov6 := hc6.cell hov (fun x => HOUT.out x); have hfz6 := (hc6.froz (a := ⟨w.heap.size, k, none⟩) hlt5 (fun x => HOUT.out x)).trans hfz; have hp6 := hc6.cell f1 (fun x => HPO.out x)))
              all_goals go_wp2_with fail
              all_goals
                have hfs := flow_step hkl hmx HT.out HZ.out HAV.out hown6 hc6 hg6 hch hcx
                go_roundw
                case rel => exact ⟨k + 1, _, by omega, by go_num, by rw [hfs.2.2], hfs.1, hfs.2.1⟩
                case measure => simp [intOf]; omega
        · go_wp2_with fail
          go_roundw
          case rel => exact ⟨b + 1, V, by omega, by go_num, hmat.congr fun j hj => by simp [rowP, show j < k by omega], hch⟩
          case measure => simp [intOf]; omega
    · obtain rfl : b = n := by omega
      go_wp2_with fail
      go_ret
      refine ⟨_, rfl, ?_, hch.mono fun q h1 h2 => by unfold NewB at h2; omega⟩
      have := hmat.isSl (by simp only [maxLen]; omega)
      have e : rowP c bf b 0 = fun k => (List.range b).map fun q => pas c bf q k := by funext k; simp [rowP]
      rwa [e] at this
end Go.Proofs.YtceflkkgmmcieaaGreatDoor
namespace Go.Proofs.YtceflkkgmmcieaaGreatDoor
open Go.RowKit
set_option linter.unusedVariables false
set_option linter.unusedSimpArgs false

theorem any_false {lo hi : Int} {xs : List Int} (h : xs.any (outB lo hi) = false) : ∀ k, k < xs.length → lo ≤ at' xs k ∧ at' xs k ≤ hi := by
 intro k hk
 rw [List.any_eq_false] at h
 have := h xs[k] (List.getElem_mem _)
 simp only [outB, Bool.or_eq_true, decide_eq_true_eq, not_or] at this
 simp only [at', List.getD, List.getElem?_eq_getElem hk, Option.getD_some]
 omega

theorem flowF_right {c b : List Int} {n : Int} (h : flowF c b n = 0) : RightLine c b ∧ 1 ≤ n ∧ n ≤ 2000 := by
 unfold flowF at h
 by_cases hc : cycF c ≠ 0
 ·rw [if_pos hc] at h; exact absurd h hc
 ·rw [if_neg hc] at h
  have hc' : cycF c = 0 := by simpa using hc
  unfold cycF at hc'
  by_cases h0 : c.length = 0
  ·rw [if_pos h0] at hc'; omega
  ·rw [if_neg h0] at hc'
   by_cases h6 : 6 < c.length
   ·rw [if_pos h6] at hc'; omega
   ·rw [if_neg h6] at hc'
    cases ha : c.any (outB 1 10000000) with
    | true => rw [ha] at hc'; simp at hc'
    | false =>
     by_cases hl : (b.length : Int) ≠ c.length - 1
     ·rw [if_pos hl] at h; omega
     ·rw [if_neg hl] at h
      cases hb : b.any (outB 0 2000) with
      | true => rw [hb] at h; simp at h
      | false =>
       cases hn : outB 1 2000 n with
       | true => rw [hn] at h; simp at h
       | false =>
        simp only [outB, Bool.or_eq_false_iff, decide_eq_false_iff_not] at hn
        refine ⟨⟨by omega, by omega, any_false ha, fun k => ?_, by omega⟩, by omega, by omega⟩
        by_cases hk : k < b.length
        ·exact (any_false hb k hk).1
        ·simp [at', List.getD, List.getElem?_eq_none (show b.length ≤ k by omega)]

theorem IsSl.rows {α : Type} [Enc α] {w : World} {A : Nat → Prop} {a : Option Addr} {n cap : Nat} {xs : List (List α)} (h : IsSl w A (.slice a n cap) xs) (hp : 0 < xs.length) :
  ∃ b off, a = some ⟨b, off, none⟩ ∧ A b ∧ ∀ i, (hi : i < xs.length) → ∃ v, w.cell? ⟨b, off + i, none⟩ = some v ∧ IsSl w A v xs[i] := by
 obtain ⟨b, off, ha, hb, hc⟩ := h.cells.2 hp
 refine ⟨b, off, ha, hb, fun i hi => ?_⟩
 have := hc i hi
 simpa [Enc.Is, Enc.sz] using this
theorem IsSl.passes {w : World} {A : Nat → Prop} {a : Option Addr} {n cap : Nat} {xs : List Pass} (h : IsSl w A (.slice a n cap) xs) (hp : 0 < xs.length) :
  ∃ b off, a = some ⟨b, off, none⟩ ∧ A b ∧ ∀ i, (hi : i < xs.length) → w.cell? ⟨b, off + i * 2, none⟩ = some (.int .i64 xs[i].taken) ∧ w.cell? ⟨b, off + i * 2 + 1, none⟩ = some (.int .i64 xs[i].left) := by
 obtain ⟨b, off, ha, hb, hc⟩ := h.cells.2 hp
 refine ⟨b, off, ha, hb, fun i hi => ?_⟩
 have := hc i hi
 simpa [Enc.Is, Enc.sz] using this

def leaves (c bf : List Int) (n : Nat) : List Int := (List.range n).map fun q => (pas c bf q (c.length - 1)).left
def leavesF (c bf : List Int) (n : Int) : List Int := if flowF c bf n = 0 then leaves c bf n.toNat else []

set_option maxHeartbeats 1000000 in
theorem leave_any (v1 v2 : Value) (c bf : List Int) (n : Int) (A1 A2 : Nat → Prop) (w : World) (h1 : IsSl w A1 v1 c) (h2 : IsSl w A2 v2 bf) :
  Calls Tryz.prog 87 #[v1, v2, .int .i64 n] w fun e w' => ∃ v, e = .returned (.tuple #[v, .int .i64 (flowF c bf n)]) ∧ IsSl w' (fun k => w.heap.size ≤ k) v (leavesF c bf n) ∧ Chg NoB w w' := by
 have HF := hid (flowFault_any v1 v2 c bf n A1 A2 w h1 h2)
 by_cases hf : flowF c bf n = 0
 ·obtain ⟨hr, hn1, hn2⟩ := flowF_right hf
  obtain ⟨m, rfl⟩ : ∃ m : Nat, n = m := ⟨n.toNat, by omega⟩
  have HL : Hid (leavesF c bf m = leaves c bf m) := by unfold Hid; rw [leavesF, if_pos hf]; simp
  have HFL : Hid (∀ w1, Chg NoB w w1 → _) := hid fun w1 (hc : Chg NoB w w1) => flow_any v1 v2 c bf m A1 A2 w1 (h1.keepN hc) (h2.keepN hc) hr (by omega)
  have hpos := hr.pos
  have hlen := hr.len
  rw [hf] at HF ⊢
  have HR := hid hr; clear hr hf
  go_enter Tryz.func87, Tryz.ntmps87
  go_wp2_with fail
  refine HF.out.mono ?_
  rintro e w1 ⟨rfl, hc1⟩
  go_wp2_with fail
  refine (HFL.out w1 hc1).mono ?_
  rintro e w2 ⟨v, rfl, hv, hc2⟩
  obtain ⟨a, cap, rfl, g1, g2⟩ := hv.shape
  obtain ⟨b, off, rfl, hb, hrows⟩ := hv.rows (by simp; omega)
  obtain ⟨vr, hcell, hrow⟩ := hrows (c.length - 1) (by simp; omega)
  obtain ⟨ar, capr, rfl, g3, g4⟩ := hrow.shape
  simp only [List.getElem_map, List.getElem_range, List.length_map, List.length_range] at hcell hrow g1 g3 ⊢
  have hc12 := hc1.trans hc2
  have hsz2 := hc12.size
  go_wp2_with fail
  go_loopw [10, 12, 31] (fun v _ i wr => ∃ (j : Nat), j ≤ m ∧ i = .int .i64 j ∧ Own wr w2.heap.size 3 v ((List.range j).map fun q => (pas c bf q (c.length - 1)).left) ∧ Chg (NewB w2.heap.size) w2 wr)
   (fun _ _ i _ => m - (intOf i).toNat)
  case atStart => exact ⟨0, by omega, rfl, Own.nil _ _ _, Chg.refl _ _⟩
  case round =>
   obtain ⟨j, hj, rfl, hown, hch⟩ := hrel
   have hszr := hch.size
   by_cases hjm : j < m
   ·obtain ⟨br, offr, rfl, _, hps⟩ := hrow.passes (by simp; omega)
    obtain ⟨p0, p1⟩ := hps j (by simp; omega)
    simp only [List.getElem_map, List.getElem_range] at p0 p1
    have p0' := hch.cellNew (Nat.le_refl _) p0
    have p1' := hch.cellNew (Nat.le_refl _) p1
    clear hps p0 p1
    obtain ⟨X, hX⟩ : ∃ X, X = (pas c bf j (c.length - 1)).left := ⟨_, rfl⟩
    obtain ⟨Y, hY⟩ : ∃ Y, Y = (pas c bf j (c.length - 1)).taken := ⟨_, rfl⟩
    rw [← hX] at p1'
    rw [← hY] at p0'
    have HX := hid hX; clear hX hY
    obtain ⟨av, capv, hv', _, _⟩ := hown.shape
    simp only [List.length_map, List.length_range] at hv'
    subst hv'
    have hal := hown.keep (S := NoB) ((Chg.refl NoB wr).alloc (.cells #[.int .i64 Y, .int .i64 X] 220)) (fun _ _ _ x => x)
    go_wp2_with (at_builtin; refine wpl_append_intB (wr.alloc (.cells #[.int .i64 Y, .int .i64 X] 220)) rfl _ _ 22 3 rfl Tryz.underlying22 infoInt w2.heap.size _ _ _ hal (by simp; omega) (by simp; omega) _ (by simp) j (by simp) rfl rfl ?_; intro g cap' w3 hown3 hc3 hg3 hlg)
    have hc23 : Chg (NewB w2.heap.size) w2 w3 := (hch.trans ((Chg.refl _ wr).alloc _)).trans (hc3.mono fun q hq x => (hal.lt q x).1)
    go_roundw
    case rel => exact ⟨j + 1, by omega, by go_num, by rw [List.range_succ, List.map_append]; simpa [HX.out] using hown3, hc23⟩
    case measure => simp [intOf]; omega
   ·obtain rfl : j = m := by omega
    go_wp2_with fail
    go_ret2
    exact ⟨_, rfl, by rw [HL.out]; exact hown.isSl.low fun q hq _ => by omega, hc12.trans (hch.mono fun q h1 h2 => by unfold NewB at h2; omega)⟩
 ·have hb : (flowF c bf n != 0) = true := by simp [hf]
  have HL : Hid (leavesF c bf n = []) := by unfold Hid; rw [leavesF, if_neg hf]
  clear hf
  go_enter Tryz.func87, Tryz.ntmps87
  go_wp2_with fail
  refine HF.out.mono ?_
  rintro e w1 ⟨rfl, hc1⟩
  go_wp2_with fail
  go_ret2
  exact ⟨_, rfl, by rw [HL.out]; exact IsSl.nil _ _, hc1⟩
end Go.Proofs.YtceflkkgmmcieaaGreatDoor
namespace Go.Proofs.YtceflkkgmmcieaaGreatDoor
open Go.RowKit
set_option linter.unusedVariables false
set_option linter.unusedSimpArgs false

theorem lined_flow : flowF [10, 30] [0] 2 = 0 := by decide +kernel
theorem lined_leaves : leavesF [10, 30] [0] 2 = [40, 70] := by
 rw [leavesF, if_pos lined_flow]
 have a00 : (pas [10, 30] [0] 0 0).taken = 0 := by rw [pas_taken]; simp [here]
 have b00 : (pas [10, 30] [0] 0 0).left = 10 := by rw [pas_left, a00]; simp [at']
 have a01 : (pas [10, 30] [0] 0 1).taken = 10 := by rw [pas_taken]; simp [here, b00]
 have b01 : (pas [10, 30] [0] 0 1).left = 40 := by rw [pas_left, a01]; simp [at']
 have a10 : (pas [10, 30] [0] 1 0).taken = 10 := by rw [pas_taken]; simp [here, b00]; decide
 have b10 : (pas [10, 30] [0] 1 0).left = 40 := by rw [pas_left, a10]; simp [at', b01]; decide
 have a11 : (pas [10, 30] [0] 1 1).taken = 40 := by rw [pas_taken]; simp [here, b10, b01]
 have b11 : (pas [10, 30] [0] 1 1).left = 70 := by rw [pas_left, a11]; simp [at']
 simp [leaves, List.range_succ, b01, b11]

end Go.Proofs.YtceflkkgmmcieaaGreatDoor
namespace Go.Proofs.YtceflkkgmmcieaaGreatDoor
open Go.RowKit
set_option linter.unusedVariables false
set_option linter.unusedSimpArgs false

theorem isSl_of_rep {w : World} {Z : Nat → Prop} {xs : List Int} {v : Value} (h : Rep w Z (avInts xs) v) : IsSl w Z v xs := by
 change Rep w Z (.im xs.length 1 fun j => avI (xs.getD j 0)) v at h
 generalize hn : xs.length = n at h
 cases h with
 | nil => exact .inl ⟨rfl, List.eq_nil_of_length_eq_zero hn⟩
 | im n sz f b off cap c e u hZ h1 h2 hb hc hr =>
  refine .inr ⟨b, off, cap, c, e, by rw [hn], hZ, by omega, h2, hb, fun i hi => ?_⟩
  show c[off + i * 1 + 0]? = some (.int .i64 xs[i])
  have k1 := hc i (by omega)
  have k2 := (hr i (by omega)).eq_v
  rw [k2] at k1
  simpa [hi] using k1
theorem rep_of_isSl {w : World} {A : Nat → Prop} {v : Value} {xs : List Int} (h : IsSl w A v xs) : Rep w A (avInts xs) v := by
 rcases h with ⟨rfl, rfl⟩ | ⟨b, off, cap, c, e, rfl, hb, hl, hm, hh, hi⟩
 ·exact .nil _ _
 ·refine .im _ 1 _ b off cap c e (fun j => .int .i64 (xs.getD j 0)) hb hl hm hh (fun j hj => ?_) fun j hj => .v _
  have : c[off + j * 1 + 0]? = some (.int .i64 (xs[j]'(by omega))) := hi j (by omega)
  have hj' : j < xs.length := by omega
  simpa [hj'] using this
theorem argsLLv {x y : AV} {u : Value} {w : World} {A : Nat → Prop} {us : Array Value} (h : Args w A [x, y, .v u] us) : ∃ v1 v2, us = #[v1, v2, u] ∧ Rep w (fun b => b < w.heap.size ∧ A b) x v1 ∧ Rep w (fun b => b < w.heap.size ∧ A b) y v2 := by
 obtain ⟨h1, h2⟩ := h
 have e2 := (h2 2 (by simp)).eq_v
 refine ⟨us.getD 0 undef, us.getD 1 undef, ?_, h2 0 (by simp), h2 1 (by simp)⟩
 apply Array.ext (by simpa using h1)
 intro i hi hi'
 simp at hi'
 rw [h1] at hi
 match i, hi' with
 | 0, _ => simp [Array.getD_eq_getD_getElem?, h1]
 | 1, _ => simp [Array.getD_eq_getD_getElem?, h1]
 | 2, _ => simpa [Array.getD_eq_getD_getElem?, h1] using e2
theorem line_Leave_S {c b : List Int} {n : Int} : SpecN Tryz.prog 87 [avInts c, avInts b, avI n] (fun y => y = .tup [avInts (leavesF c b n), avI (flowF c b n)]) := by
 intro w us ha
 obtain ⟨v1, v2, rfl, q1, q2⟩ := argsLLv ha
 refine (leave_any v1 v2 c b n _ _ w (isSl_of_rep q1) (isSl_of_rep q2)).mono ?_
 rintro e w' ⟨v, rfl, hv, hc⟩
 refine ⟨_, _, rfl, rfl, .tup _ _ rfl fun j hj => ?_, hc, trivial⟩
 match j, hj with
 | 0, _ => exact (rep_of_isSl hv).keep fun b hb hl => ⟨rfl, hl, fun h => absurd h (Nat.not_lt.2 hb)⟩
 | 1, _ => exact .v _
end Go.Proofs.YtceflkkgmmcieaaGreatDoor
namespace Go.Proofs.YtceflkkgmmcieaaGreatDoor
open Go.RowKit
set_option linter.unusedVariables false
set_option linter.unusedSimpArgs false
set_option maxRecDepth 100000 in
theorem rk_errs {xs : List Int} (hl : xs.length ≤ 1000000000) :
  SpecN Tryz.prog 36 [avInts xs] (fun y => y = avI (errsF xs)) := by
 refine SpecN.of_VCN Tryz.func36 rfl Tryz.ntmps36 (Nle rfl) fun w A hB => ?_
 have hnew : True := trivial
 refine VC.sr ?_
 refine VO.ma rfl rfl rfl rfl ?_
 refine VO.nil ?_
 refine VC.seq ?_
 refine VC.sr ?_
 refine VO.mv rfl rfl rfl rfl ?_
 refine VO.val rfl rfl (OpV.len_im rfl Tryz.underlying139 rfl) ?_
 refine VO.mv rfl rfl rfl rfl ?_
 refine VO.nil ?_
 refine VC.block ?_
 refine VC.loopK [(5, _), (6, _)] ⟨rfl, rfl, trivial⟩ ({q : Nat // q ≤ xs.length ∧ ∀ j, j < q → xs.getD j 0 = 0}) (fun (iZ : {q : Nat // q ≤ xs.length ∧ ∀ j, j < q → xs.getD j 0 = 0}) => match iZ with | ⟨q, hq, hn⟩ => [(7, avI (q : Int))]) (fun (iZ : {q : Nat // q ≤ xs.length ∧ ∀ j, j < q → xs.getD j 0 = 0}) => match iZ with | ⟨q, hq, hn⟩ => []) (fun (iZ : {q : Nat // q ≤ xs.length ∧ ∀ j, j < q → xs.getD j 0 = 0}) => match iZ with | ⟨q, hq, hn⟩ => 0) (fun (iZ : {q : Nat // q ≤ xs.length ∧ ∀ j, j < q → xs.getD j 0 = 0}) => match iZ with | ⟨q, hq, hn⟩ => xs.length - q) ⟨0, Nat.zero_le _, fun j hj => absurd hj (Nat.not_lt_zero j)⟩ (Le.mk hB [] ⟨rfl, rfl, rfl, trivial⟩ rfl rfl (Nat.le_refl _)) ?_
 rintro ⟨q, hq, hn⟩
 show VC _ _ _ _ ⟨[(7, avI (q : Int))] ++ [(5, _), (6, _)], [], 0⟩
 refine VC.sr ?_
 refine VO.val rfl rfl (OpV.lss rfl rfl rfl) ?_
 refine VO.nil ?_
 refine VC.seq ?_
 refine VC.cond rfl (fun aH1b => ?_) (fun aH1b => ?_)
 ·have aH1 := aH1b
  try simp only [qqT, qqF, qqN, qqM, qqL, qqE] at aH1
  refine VC.skip ?_
  refine VC.seq ?_
  refine VC.block ?_
  refine VC.sr ?_
  refine VO.val rfl rfl (OpV.indexAddr_1 rfl Tryz.underlying139 Tryz.sizeOf37 rfl rfl rfl (by omega)) ?_
  refine VO.val rfl rfl (OpV.load_at rfl hB OutW.no Tryz.isAgg37 rfl rfl) ?_
  refine VO.ma rfl rfl rfl rfl ?_
  refine VO.nil ?_
  refine VC.sr ?_
  refine VO.mv rfl rfl rfl rfl ?_
  refine VO.val rfl rfl (OpV.neq rfl rfl rfl) ?_
  refine VO.nil ?_
  refine VC.cond rfl (fun h1b => ?_) (fun h1b => ?_)
  ·have h1 := h1b
   try simp only [qqT, qqF, qqN, qqM, qqL, qqE] at h1
   refine VC.sr ?_
   refine VO.mv rfl rfl rfl rfl ?_
   refine VO.ma rfl rfl rfl rfl ?_
   refine VO.nil ?_
   refine VC.ret ?_
   exact Exists.intro _ (And.intro (RetN.one Tryz.results36 (ResN.v rfl)) (by rw [errsF_at (q := q) (by omega) hn h1]))
  ·have h1 := h1b
   try simp only [qqT, qqF, qqN, qqM, qqL, qqE] at h1
   refine VC.skip ?_
   refine VC.region ?_
   refine VO.val rfl rfl (OpV.add rfl rfl rfl (by unfold fits; omega)) ?_
   refine VO.mv rfl rfl rfl rfl ?_
   refine VO.nil ?_
   exact Exists.intro (⟨q + 1, by omega, lt_succ_cases hn ((by omega))⟩) (And.intro (Le.mk hB [] ⟨rfl, rfl, rfl, trivial⟩ rfl rfl (Nat.le_refl _)) (by first | omega | (show _ < _; omega) | (simp only []; omega)))
 ·have aH1 := aH1b
  try simp only [qqT, qqF, qqN, qqM, qqL, qqE] at aH1
  refine VC.exit ?_
  refine VC.sr ?_
  refine VO.ma rfl rfl rfl rfl ?_
  refine VO.nil ?_
  refine VC.ret ?_
  exact Exists.intro _ (And.intro (RetN.one Tryz.results36 (ResN.v rfl)) (by rw [errsF_none (fun j hj => hn j (by omega))]))
def rdL : List LookS := [⟨⟨#[98]⟩, ⟨#[99]⟩, 0, 1, true, ⟨#[109]⟩, ⟨#[110]⟩, ⟨#[114]⟩⟩]
theorem one_sz {α : Type} [Inhabited α] {f : α → ByteArray} {x : α} (h : (f x).size ≤ 1000000) (h0 : (f default).size ≤ 1000000) (i : Nat) : (f ([x].getD i default)).size ≤ 1000000 := by
 match i with
 | 0 => exact h
 | i + 1 => exact h0
theorem rdL_sm : SmLk rdL := ⟨by decide, one_sz (f := LookS.board) (by decide) (by decide), one_sz (f := LookS.name) (by decide) (by decide), one_sz (f := LookS.machine) (by decide) (by decide), one_sz (f := LookS.nozzle) (by decide) (by decide), one_sz (f := LookS.reel) (by decide) (by decide)⟩
theorem rdL_ok : millE rdL = 0 := by decide +kernel
theorem rdL_n : (millN rdL).1 = 1000000 := by decide +kernel
def rdP : List PaceS := [⟨⟨#[112]⟩, 10, []⟩]
def rdO : List OrdrS := [⟨⟨#[111]⟩, ⟨#[112]⟩, 3, 0, 5⟩]
theorem rdP_sm : SmPc rdP := ⟨by decide, one_sz (f := PaceS.product) (by decide) (by decide), fun i => by
 match i with
 | 0 => decide
 | i + 1 => show ([] : List NeedS).length ≤ _; decide, fun i j => by
 match i with
 | 0 => show (([] : List NeedS).getD j default).key.size ≤ _; simp; decide
 | i + 1 => show (([] : List NeedS).getD j default).key.size ≤ _; simp; decide⟩
theorem rdO_sm : SmOr rdO := ⟨by decide, one_sz (f := OrdrS.key) (by decide) (by decide), one_sz (f := OrdrS.product) (by decide) (by decide)⟩
theorem rd_sch : scheF rdP rdO [0] 1 0 = 0 := by decide +kernel
theorem rd_from : fromP rdP rdO [0] 1 0 0 = 1 := by decide +kernel
theorem rd_end : endP rdP rdO [0] 1 0 0 = 31 := by decide +kernel
theorem rd_times : timesR rdP rdO [0] 1 0 = [⟨1, 31⟩] := by
 rw [timesR, if_pos rd_sch]
 show [winP rdP rdO [0] 1 0 0] = _
 rw [winP, rd_from, rd_end]
theorem pace_nil {w : World} {Z : Nat → Prop} {u : Value} {a : ByteArray} {b : Int} (h : Rep w Z (.agg [avS a, avI b, .v (.slice none 0 0)]) u) : Rep w Z (avPc ⟨a, b, []⟩) u := by
 cases h with
 | agg cs us hl hr =>
  refine .agg _ us hl fun j hj => ?_
  match j, hj with
  | 0, _ => exact hr 0 (by simp)
  | 1, _ => exact hr 1 (by simp)
  | 2, _ =>
   have := hr 2 (by simp)
   show Rep w Z (.im 0 2 _) _
   rw [this.eq_v]; exact .nil _ _
set_option maxRecDepth 100000 in
set_option maxHeartbeats 4000000 in
theorem rk_ready   :
  SpecN Tryz.prog 33 [] (fun y => y = avB true) := by
 refine SpecN.of_VCN Tryz.func33 rfl Tryz.ntmps33 (Nle rfl) fun w A hB => ?_
 have hnew : True := trivial
 refine VC.sr ?_
 refine VO.ma rfl rfl rfl rfl ?_
 refine VO.nil ?_
 refine VC.sr ?_
 refine VO.val rfl rfl (OpV.build (pls := #[(0, 1), (1, 1), (2, 1), (3, 1), (4, 1)]) rfl Tryz.zeroValue50 Tryz.underlying50 (fun w => by kernel_rfl) rfl rfl) ?_
 refine VO.op rfl (OpE.buildSlice (zc := #[.string ⟨#[]⟩, .string ⟨#[]⟩, .int .i64 0, .int .i64 0, .int .i64 0]) rfl hB rfl Tryz.underlying26 Tryz.sizeOf50 Tryz.zeroValue50 (by decide) (by decide) (by kernel_rfl) rfl rfl ?_)
 refine VO.le _ (Le.recast (t := 13) (y := avL panL) rfl (fun w Z u h => Rep.rowL (xs := panL) rfl h)) ?_
 refine VO.val rfl rfl (OpV.build (pls := #[(0, 1), (1, 1), (2, 1), (3, 1)]) rfl Tryz.zeroValue28 Tryz.underlying28 (fun w => by kernel_rfl) rfl rfl) ?_
 refine VO.op rfl (OpE.call rfl hB rfl Tryz.call15 rfl (SpecN.spec (panel_Needs (p := panP) panP_sm)) ?_)
 rintro _ rfl
 refine VO.le _ (Le.recast (t := 15) (y := .tup [avL ([⟨⟨#[99, 97, 112]⟩, 1⟩] : List NeedS), avI 0]) rfl (fun w Z u h => by rw [← panP_needs, ← panP_ok]; exact h)) ?_
 refine VO.mv rfl rfl rfl rfl ?_
 refine VO.val rfl rfl (OpV.extract rfl rfl rfl) ?_
 refine VO.val rfl rfl (OpV.extract rfl rfl rfl) ?_
 refine VO.ma rfl rfl rfl rfl ?_
 refine VO.ma rfl rfl rfl rfl ?_
 refine VO.nil ?_
 refine VC.sr ?_
 refine VO.op rfl (OpE.buildSlice (zc := #[.string ⟨#[]⟩]) rfl hB rfl Tryz.underlying81 Tryz.sizeOf9 Tryz.zeroValue9 (by decide) (by decide) (by kernel_rfl) rfl rfl ?_)
 refine VO.le _ (Le.recast (t := 19) (y := avStrs loadS) rfl (fun w Z u h => Rep.strs (xs := loadS) rfl h)) ?_
 refine VO.op rfl (OpE.buildSlice (zc := #[.string ⟨#[]⟩]) rfl hB rfl Tryz.underlying81 Tryz.sizeOf9 Tryz.zeroValue9 (by decide) (by decide) (by kernel_rfl) rfl rfl ?_)
 refine VO.le _ (Le.recast (t := 20) (y := avStrs [⟨#[97]⟩]) rfl (fun w Z u h => Rep.strs (xs := [⟨#[97]⟩]) rfl h)) ?_
 refine VO.op rfl (OpE.buildSlice (zc := #[.string ⟨#[]⟩]) rfl hB rfl Tryz.underlying81 Tryz.sizeOf9 Tryz.zeroValue9 (by decide) (by decide) (by kernel_rfl) rfl rfl ?_)
 refine VO.le _ (Le.recast (t := 21) (y := avStrs [⟨#[98]⟩]) rfl (fun w Z u h => Rep.strs (xs := [⟨#[98]⟩]) rfl h)) ?_
 refine VO.op rfl (OpE.buildSlice (zc := #[.slice none 0 0, .slice none 0 0]) rfl hB rfl Tryz.underlying147 Tryz.sizeOf81 Tryz.zeroValue81 (by decide) (by decide) (by kernel_rfl) rfl rfl ?_)
 refine VO.le _ (Le.recast (t := 22) (y := avM loadP) rfl (fun w Z u h => Rep.listM (xs := loadP) rfl h)) ?_
 refine VO.op rfl (OpE.call rfl hB rfl Tryz.call86 rfl (SpecN.spec (setup_Total load_sms load_smss)) ?_)
 rintro _ rfl
 refine VO.le _ (Le.recast (t := 23) (y := .tup [avI 2, avI 0]) rfl (fun w Z u h => by rw [load_two, load_ok] at h; exact h)) ?_
 refine VO.mv rfl rfl rfl rfl ?_
 refine VO.val rfl rfl (OpV.extract rfl rfl rfl) ?_
 refine VO.val rfl rfl (OpV.extract rfl rfl rfl) ?_
 refine VO.ma rfl rfl rfl rfl ?_
 refine VO.ma rfl rfl rfl rfl ?_
 refine VO.nil ?_
 refine VC.sr ?_
 refine VO.op rfl (OpE.buildSlice (zc := #[.int .i64 0, .int .i64 0]) rfl hB rfl Tryz.underlying22 Tryz.sizeOf3 Tryz.zeroValue3 (by decide) (by decide) (by kernel_rfl) rfl rfl ?_)
 refine VO.le _ (Le.lits (t := 27) (xs := [10, 30]) rfl rfl) ?_
 refine VO.op rfl (OpE.buildSlice (zc := #[.int .i64 0]) rfl hB rfl Tryz.underlying22 Tryz.sizeOf3 Tryz.zeroValue3 (by decide) (by decide) (by kernel_rfl) rfl rfl ?_)
 refine VO.le _ (Le.lits (t := 28) (xs := [0]) rfl rfl) ?_
 refine VO.op rfl (OpE.call rfl hB rfl Tryz.call87 rfl (SpecN.spec (line_Leave_S)) ?_)
 rintro _ rfl
 refine VO.le _ (Le.recast (t := 29) (y := .tup [avInts [40, 70], avI 0]) rfl (fun w Z u h => by rw [lined_leaves, lined_flow] at h; exact h)) ?_
 refine VO.mv rfl rfl rfl rfl ?_
 refine VO.val rfl rfl (OpV.extract rfl rfl rfl) ?_
 refine VO.val rfl rfl (OpV.extract rfl rfl rfl) ?_
 refine VO.ma rfl rfl rfl rfl ?_
 refine VO.ma rfl rfl rfl rfl ?_
 refine VO.nil ?_
 refine VC.sr ?_
 refine VO.val rfl rfl (OpV.build (pls := #[(0, 1), (1, 1), (2, 1), (3, 1), (4, 1), (5, 1), (6, 1), (7, 1)]) rfl Tryz.zeroValue151 Tryz.underlying151 (fun w => by kernel_rfl) rfl rfl) ?_
 refine VO.op rfl (OpE.buildSlice (zc := #[.string ⟨#[]⟩, .string ⟨#[]⟩, .int .i64 0, .int .i64 0, .bool false, .string ⟨#[]⟩, .string ⟨#[]⟩, .string ⟨#[]⟩]) rfl hB rfl Tryz.underlying152 Tryz.sizeOf151 Tryz.zeroValue151 (by decide) (by decide) (by kernel_rfl) rfl rfl ?_)
 refine VO.le _ (Le.recast (t := 34) (y := avL rdL) rfl (fun w Z u h => Rep.rowL (xs := rdL) rfl h)) ?_
 refine VO.op rfl (OpE.call rfl hB rfl Tryz.call88 rfl (SpecN.spec (inspect_Million rdL_sm)) ?_)
 rintro _ rfl
 refine VO.le _ (Le.recast (t := 35) (y := .tup [.agg [avI 1000000, avI ((millN rdL).2 : Int)], avI 0]) rfl (fun w Z u h => by rw [rdL_n, rdL_ok] at h; exact h)) ?_
 refine VO.mv rfl rfl rfl rfl ?_
 refine VO.val rfl rfl (OpV.extract rfl rfl rfl) ?_
 refine VO.val rfl rfl (OpV.extract rfl rfl rfl) ?_
 refine VO.op rfl (OpE.alloc rfl hB rfl Tryz.zeroValue72 rfl ?_)
 intro g7
 refine VO.op rfl (OpE.store (i := 0) rfl hB rfl Tryz.sizeOf72 rfl rfl rfl rfl rfl rfl (Nle rfl) trivial ?_)
 refine VO.ma rfl rfl rfl rfl ?_
 refine VO.nil ?_
 refine VC.sr ?_
 refine VO.val rfl rfl (OpV.build (pls := #[(0, 1), (1, 1), (2, 1)]) rfl Tryz.zeroValue157 Tryz.underlying157 (fun w => by kernel_rfl) rfl rfl) ?_
 refine VO.le _ (Le.recast (t := 39) (y := avPc ⟨⟨#[112]⟩, 10, []⟩) rfl (fun w Z u h => pace_nil h)) ?_
 refine VO.op rfl (OpE.buildSlice (zc := #[.string ⟨#[]⟩, .int .i64 0, .slice none 0 0]) rfl hB rfl Tryz.underlying158 Tryz.sizeOf157 Tryz.zeroValue157 (by decide) (by decide) (by kernel_rfl) rfl rfl ?_)
 refine VO.le _ (Le.recast (t := 40) (y := avL rdP) rfl (fun w Z u h => Rep.rowL (xs := rdP) rfl h)) ?_
 refine VO.val rfl rfl (OpV.build (pls := #[(0, 1), (1, 1), (2, 1), (3, 1), (4, 1)]) rfl Tryz.zeroValue160 Tryz.underlying160 (fun w => by kernel_rfl) rfl rfl) ?_
 refine VO.op rfl (OpE.buildSlice (zc := #[.string ⟨#[]⟩, .string ⟨#[]⟩, .int .i64 0, .int .i64 0, .int .i64 0]) rfl hB rfl Tryz.underlying161 Tryz.sizeOf160 Tryz.zeroValue160 (by decide) (by decide) (by kernel_rfl) rfl rfl ?_)
 refine VO.le _ (Le.recast (t := 42) (y := avL rdO) rfl (fun w Z u h => Rep.rowL (xs := rdO) rfl h)) ?_
 refine VO.op rfl (OpE.buildSlice (zc := #[.int .i64 0]) rfl hB rfl Tryz.underlying22 Tryz.sizeOf3 Tryz.zeroValue3 (by decide) (by decide) (by kernel_rfl) rfl rfl ?_)
 refine VO.le _ (Le.lits (t := 43) (xs := [0]) rfl rfl) ?_
 refine VO.op rfl (OpE.call rfl hB rfl Tryz.call89 rfl (SpecN.spec (plan_Times rdP_sm rdO_sm (by decide))) ?_)
 rintro _ rfl
 refine VO.le _ (Le.recast (t := 44) (y := .tup [avL ([⟨1, 31⟩] : List WinS), avI 0]) rfl (fun w Z u h => by rw [rd_times, rd_sch] at h; exact h)) ?_
 refine VO.mv rfl rfl rfl rfl ?_
 refine VO.val rfl rfl (OpV.extract rfl rfl rfl) ?_
 refine VO.val rfl rfl (OpV.extract rfl rfl rfl) ?_
 refine VO.ma rfl rfl rfl rfl ?_
 refine VO.ma rfl rfl rfl rfl ?_
 refine VO.nil ?_
 refine VC.sr ?_
 refine VO.mv rfl rfl rfl rfl ?_
 refine VO.mv rfl rfl rfl rfl ?_
 refine VO.mv rfl rfl rfl rfl ?_
 refine VO.mv rfl rfl rfl rfl ?_
 refine VO.mv rfl rfl rfl rfl ?_
 refine VO.op rfl (OpE.buildSlice (zc := #[.int .i64 0, .int .i64 0, .int .i64 0, .int .i64 0, .int .i64 0]) rfl hB rfl Tryz.underlying139 Tryz.sizeOf37 Tryz.zeroValue37 (by decide) (by decide) (by kernel_rfl) rfl rfl ?_)
 refine VO.le _ (Le.lits (t := 52) (xs := [0, 0, 0, 0, 0]) rfl rfl) ?_
 refine VO.op rfl (OpE.call rfl hB rfl Tryz.call36 rfl (SpecN.spec (rk_errs (by decide))) ?_)
 rintro _ rfl
 refine VO.val rfl rfl (OpV.eql rfl rfl rfl) ?_
 refine VO.le _ (Le.boolT (t := 54) rfl (decide_eq_true rfl)) ?_
 refine VO.mv rfl rfl rfl rfl ?_
 refine VO.opY rfl rfl rfl rfl rfl ?_
 refine OpE.val (W := NoB) (OpV.move (.inl rfl) rfl) rfl ?_
 refine VO.opY rfl rfl rfl rfl rfl ?_
 refine OpE.val (W := NoB) (OpV.len_im rfl Tryz.underlying36 rfl) rfl ?_
 refine VO.opY rfl rfl rfl rfl rfl ?_
 refine OpE.val (W := NoB) (OpV.eql rfl rfl rfl) rfl ?_
 refine VO.le _ (Le.boolT (t := 58) rfl (decide_eq_true rfl)) ?_
 refine VO.val rfl rfl (OpV.pickT rfl rfl rfl rfl rfl) ?_
 refine VO.mv rfl rfl rfl rfl ?_
 refine VO.opY rfl rfl rfl rfl rfl ?_
 refine OpE.val (W := NoB) (OpV.move (.inl rfl) rfl) rfl ?_
 refine VO.opY rfl rfl rfl rfl rfl ?_
 refine OpE.val (W := NoB) (OpV.eql rfl rfl rfl) rfl ?_
 refine VO.le _ (Le.boolT (t := 62) rfl (decide_eq_true rfl)) ?_
 refine VO.val rfl rfl (OpV.pickT rfl rfl rfl rfl rfl) ?_
 refine VO.mv rfl rfl rfl rfl ?_
 refine VO.opY rfl rfl rfl rfl rfl ?_
 refine OpE.val (W := NoB) (OpV.move (.inl rfl) rfl) rfl ?_
 refine VO.opY rfl rfl rfl rfl rfl ?_
 refine OpE.val (W := NoB) (OpV.len_im rfl Tryz.underlying22 rfl) rfl ?_
 refine VO.opY rfl rfl rfl rfl rfl ?_
 refine OpE.val (W := NoB) (OpV.eql rfl rfl rfl) rfl ?_
 refine VO.le _ (Le.boolT (t := 67) rfl (decide_eq_true rfl)) ?_
 refine VO.val rfl rfl (OpV.pickT rfl rfl rfl rfl rfl) ?_
 refine VO.mv rfl rfl rfl rfl ?_
 refine VO.opY rfl rfl rfl rfl rfl ?_
 refine OpE.val (W := NoB) (OpV.fieldAddrO 0 rfl Tryz.underlying72 rfl rfl Tryz.sizeOf3 rfl) rfl ?_
 refine VO.opY rfl rfl rfl rfl rfl ?_
 refine OpE.val (W := NoB) (OpV.load_own (i := 0) rfl hB Tryz.isAgg3 rfl rfl rfl (fun h => h)) rfl ?_
 refine VO.opY rfl rfl rfl rfl rfl ?_
 refine OpE.val (W := NoB) (OpV.eql rfl rfl rfl) rfl ?_
 refine VO.le _ (Le.boolT (t := 72) rfl (decide_eq_true rfl)) ?_
 refine VO.val rfl rfl (OpV.pickT rfl rfl rfl rfl rfl) ?_
 refine VO.mv rfl rfl rfl rfl ?_
 refine VO.opY rfl rfl rfl rfl rfl ?_
 refine OpE.val (W := NoB) (OpV.move (.inl rfl) rfl) rfl ?_
 refine VO.opY rfl rfl rfl rfl rfl ?_
 refine OpE.val (W := NoB) (OpV.len_im rfl Tryz.underlying153 rfl) rfl ?_
 refine VO.opY rfl rfl rfl rfl rfl ?_
 refine OpE.val (W := NoB) (OpV.eql rfl rfl rfl) rfl ?_
 refine VO.le _ (Le.boolT (t := 77) rfl (decide_eq_true rfl)) ?_
 refine VO.val rfl rfl (OpV.pickT rfl rfl rfl rfl rfl) ?_
 refine VO.mv rfl rfl rfl rfl ?_
 refine VO.opY rfl rfl rfl rfl rfl ?_
 refine OpE.val (W := NoB) (OpV.move (.inl rfl) rfl) rfl ?_
 refine VO.opY rfl rfl rfl rfl rfl ?_
 refine OpE.val (W := NoB) (OpV.indexAddr_E rfl Tryz.underlying153 Tryz.sizeOf163 rfl rfl rfl (by show 0 < 1; decide)) rfl ?_
 refine VO.opY rfl rfl rfl rfl rfl ?_
 refine OpE.val (W := NoB) (OpV.fieldAddr_atO 1 rfl Tryz.underlying163 rfl rfl Tryz.sizeOf3 rfl rfl) rfl ?_
 refine VO.opY rfl rfl rfl rfl rfl ?_
 refine OpE.val (W := NoB) (OpV.load_at rfl hB OutW.no Tryz.isAgg3 rfl rfl) rfl ?_
 refine VO.opY rfl rfl rfl rfl rfl ?_
 refine OpE.val (W := NoB) (OpV.eql rfl rfl rfl) rfl ?_
 refine VO.le _ (Le.boolT (t := 84) rfl (decide_eq_true rfl)) ?_
 refine VO.val rfl rfl (OpV.pickT rfl rfl rfl rfl rfl) ?_
 refine VO.ma rfl rfl rfl rfl ?_
 refine VO.nil ?_
 refine VC.ret ?_
 exact Exists.intro _ (And.intro (RetN.one Tryz.results33 (ResN.v rfl)) (rfl))
end Go.Proofs.YtceflkkgmmcieaaGreatDoor
namespace Go.Proofs.YtceflkkgmmcieaaGreatDoor
open Go.RowKit
set_option linter.unusedVariables false
set_option linter.unusedSimpArgs false
theorem outsR_len' {p : ProdS} {n : PanS} (hl : n.slots.length ≤ 1000000) : (outsR p n).length ≤ 1000000000 := by
 unfold outsR
 split
 ·have := numsL_len (outO p n) n.slots n.slots.length
  unfold outL
  omega
 ·simp
end Go.Proofs.YtceflkkgmmcieaaGreatDoor
namespace Go.Proofs.YtceflkkgmmcieaaGreatDoor
open Go.RowKit
set_option linter.unusedVariables false
set_option linter.unusedSimpArgs false
theorem rowN_t {α : Type} [Inhabited α] {f : α → α → Bool} {l : List α} {i k : Nat} (h : i < k) (e : f (l.getD i default) (l.getD k default) = true) : rowN f l i (k + 1) = rowN f l i k ++ [⟨(i : Int), (k : Int)⟩] := by rw [rowN_succ f l h, if_pos e]
theorem rowN_f {α : Type} [Inhabited α] {f : α → α → Bool} {l : List α} {i k : Nat} (h : i < k) (e : f (l.getD i default) (l.getD k default) = false) : rowN f l i (k + 1) = rowN f l i k := by rw [rowN_succ f l h, if_neg (by rw [e]; simp), List.append_nil]
theorem ov_t {p : ProdS} {a b : SlotS} (h1 : decide (a.x < b.x + szW p b.quarter) = true) (h2 : decide (b.x < a.x + szW p a.quarter) = true) (h3 : decide (a.y < b.y + szH p b.quarter) = true) (h4 : decide (b.y < a.y + szH p a.quarter) = true) : ovO p a b = true := by
 unfold ovO; rw [h1, h2, h3, h4]; rfl
theorem ov_1 {p : ProdS} {a b : SlotS} (h1 : decide (a.x < b.x + szW p b.quarter) = false) : ovO p a b = false := by unfold ovO; rw [h1]; rfl
theorem ov_2 {p : ProdS} {a b : SlotS} (h2 : decide (b.x < a.x + szW p a.quarter) = false) : ovO p a b = false := by unfold ovO; rw [h2]; simp
theorem ov_3 {p : ProdS} {a b : SlotS} (h3 : decide (a.y < b.y + szH p b.quarter) = false) : ovO p a b = false := by unfold ovO; rw [h3]; simp
theorem ov_4 {p : ProdS} {a b : SlotS} (h4 : decide (b.y < a.y + szH p a.quarter) = false) : ovO p a b = false := by unfold ovO; rw [h4]; simp
def accN {α : Type} [Inhabited α] (f : α → α → Bool) (l : List α) (q k : Nat) : List IPair := pairN f l q ++ rowN f l q k
theorem accN_0 {α : Type} [Inhabited α] (f : α → α → Bool) (l : List α) (q : Nat) : accN f l q (q + 1) = pairN f l q := by rw [accN, rowN_0, List.append_nil]
theorem accN_t {α : Type} [Inhabited α] {f : α → α → Bool} {l : List α} {q k : Nat} (h : q < k) (e : f (l.getD q default) (l.getD k default) = true) : accN f l q (k + 1) = accN f l q k ++ [⟨(q : Int), (k : Int)⟩] := by rw [accN, rowN_t h e, accN, List.append_assoc]
theorem accN_f {α : Type} [Inhabited α] {f : α → α → Bool} {l : List α} {q k : Nat} (h : q < k) (e : f (l.getD q default) (l.getD k default) = false) : accN f l q (k + 1) = accN f l q k := by rw [accN, rowN_f h e, accN]
theorem accN_all {α : Type} [Inhabited α] {f : α → α → Bool} {l : List α} {q k : Nat} (h : q < k) (h1 : k ≤ max (q + 1) l.length) (h2 : l.length ≤ k) : accN f l q k = pairN f l (q + 1) := by
 rw [pairN_succ, accN, show max (q + 1) l.length = k by omega]
theorem accN_len {α : Type} [Inhabited α] {f : α → α → Bool} {l : List α} {q k : Nat} (hq : q < l.length) (hk : k ≤ max (q + 1) l.length) (hl : l.length ≤ 1000) : (accN f l q k).length ≤ 2000000 := by
 rw [accN, List.length_append]
 have h1 := pairN_len f l q (by omega)
 have h2 := rowN_len f l q k
 have h3 : q * l.length ≤ 1000 * 1000 := Nat.mul_le_mul (by omega) hl
 omega
set_option maxRecDepth 100000 in
set_option maxHeartbeats 8000000 in
theorem panel_Overlaps {p : ProdS} {n : PanS} (hs : SmP p) (hl : n.slots.length ≤ 1000000) :
  SpecN Tryz.prog 51 [avProd p, avPan n] (fun y => y = .tup [avL (ovsR p n), avI (panelF p n)]) := by
 refine SpecN.of_VCN Tryz.func51 rfl Tryz.ntmps51 (Nle rfl) fun w A hB => ?_
 have hnew : True := trivial
 refine VC.sr ?_
 refine VO.op rfl (OpE.box rfl hB rfl rfl rfl ?_)
 intro g2
 refine VO.op rfl (OpE.box rfl hB rfl rfl rfl ?_)
 intro g3
 refine VO.ma rfl rfl rfl rfl ?_
 refine VO.ma rfl rfl rfl rfl ?_
 refine VO.nil ?_
 refine VC.seq ?_
 refine VC.sr ?_
 refine VO.val rfl rfl (OpV.loadK_own (i := 0) rfl hB Tryz.isAgg28 Tryz.sizeOf28 rfl rfl rfl (fun h => h)) ?_
 refine VO.val rfl rfl (OpV.loadK_own (i := 1) rfl hB Tryz.isAgg32 Tryz.sizeOf32 rfl rfl rfl (fun h => h)) ?_
 refine VO.op rfl (OpE.call rfl hB rfl Tryz.call27 rfl (SpecN.spec (panel_CheckPanel hs hl)) ?_)
 rintro _ rfl
 refine VO.ma rfl rfl rfl rfl ?_
 refine VO.nil ?_
 refine VC.sr ?_
 refine VO.mv rfl rfl rfl rfl ?_
 refine VO.val rfl rfl (OpV.neq rfl rfl rfl) ?_
 refine VO.nil ?_
 refine VC.cond rfl (fun h0b => ?_) (fun h0b => ?_)
 ·have h0 := h0b
  try simp only [qqT, qqF, qqN, qqM, qqL, qqE] at h0
  refine VC.sr ?_
  refine VO.mv rfl rfl rfl rfl ?_
  refine VO.ma rfl rfl rfl rfl ?_
  refine VO.ma rfl rfl rfl rfl ?_
  refine VO.nil ?_
  refine VC.ret ?_
  exact Exists.intro _ (And.intro (RetN.two Tryz.results51 (ResN.nilE rfl) (ResN.v rfl)) (by rw [ovsR_no h0]; rfl))
 ·have h0 := h0b
  try simp only [qqT, qqF, qqN, qqM, qqL, qqE] at h0
  have h00 : panelF p n = 0 := by omega
  have hz := panelF_0 h00
  have hok := prodOk hz.1
  have hpn := panOk hz.2
  have hw := hok.wide
  have hh := hok.high
  have hlen := hpn.len
  refine VC.skip ?_
  refine VC.sr ?_
  refine VO.ma rfl rfl rfl rfl ?_
  refine VO.nil ?_
  refine VC.seq ?_
  refine VC.sr ?_
  refine VO.val rfl rfl (OpV.fieldAddrO 2 rfl Tryz.underlying32 rfl rfl Tryz.sizeOf30 rfl) ?_
  refine VO.val rfl rfl (OpV.load_own (i := 1) rfl hB Tryz.isAgg30 rfl rfl rfl (fun h => h)) ?_
  refine VO.val rfl rfl (OpV.len_im rfl Tryz.underlying30 rfl) ?_
  refine VO.mv rfl rfl rfl rfl ?_
  refine VO.nil ?_
  refine VC.block ?_
  refine VC.le _ (Le.nilRow 2 103) ?_
  refine VC.loopK [(2, _), (3, _), (23, _), (24, _)] ⟨rfl, rfl, rfl, rfl, trivial⟩ ({z : Value × Nat // z.2 ≤ n.slots.length}) (fun (iZ : {z : Value × Nat // z.2 ≤ n.slots.length}) => match iZ with | ⟨⟨u, q⟩, hq⟩ => [(7, .v u), (25, avI (q : Int))]) (fun (iZ : {z : Value × Nat // z.2 ≤ n.slots.length}) => match iZ with | ⟨⟨u, q⟩, hq⟩ => [boxProd g2 p 28, boxPan g3 n 32, .row u (pairN (ovO p) n.slots q).length 2 (rowL (pairN (ovO p) n.slots q)) 103]) (fun (iZ : {z : Value × Nat // z.2 ≤ n.slots.length}) => match iZ with | ⟨⟨u, q⟩, hq⟩ => 0) (fun (iZ : {z : Value × Nat // z.2 ≤ n.slots.length}) => match iZ with | ⟨⟨u, q⟩, hq⟩ => n.slots.length - q) ⟨(.slice none 0 0, 0), Nat.zero_le _⟩ (Le.mk hB [0, 1, 2] ⟨rfl, rfl, rfl, rfl, rfl, rfl, trivial⟩ rfl rfl (Nat.le_refl _)) ?_
  rintro ⟨⟨u, q⟩, hq⟩
  show VC _ _ _ _ ⟨[(7, .v u), (25, avI (q : Int))] ++ [(2, _), (3, _), (23, _), (24, _)], [boxProd g2 p 28, boxPan g3 n 32, .row u (pairN (ovO p) n.slots q).length 2 (rowL (pairN (ovO p) n.slots q)) 103], 0⟩
  simp only at hq
  refine VC.sr ?_
  refine VO.val rfl rfl (OpV.lss rfl rfl rfl) ?_
  refine VO.nil ?_
  refine VC.seq ?_
  refine VC.cond rfl (fun aH1b => ?_) (fun aH1b => ?_)
  ·have aH1 := aH1b
   try simp only [qqT, qqF, qqN, qqM, qqL, qqE] at aH1
   refine VC.skip ?_
   refine VC.seq ?_
   refine VC.block ?_
   refine VC.sr ?_
   refine VO.mv rfl rfl rfl rfl ?_
   refine VO.val rfl rfl (OpV.indexAddr_E rfl Tryz.underlying30 Tryz.sizeOf94 rfl rfl rfl (by omega)) ?_
   refine VO.val rfl rfl (OpV.loadK_at rfl hB OutW.no Tryz.isAgg94 Tryz.sizeOf94 rfl rfl) ?_
   refine VO.op rfl (OpE.alloc rfl hB rfl Tryz.zeroValue94 rfl ?_)
   intro g9
   refine VO.ma rfl rfl rfl rfl ?_
   refine VO.op rfl (OpE.store (i := 3) rfl hB rfl Tryz.sizeOf94 rfl rfl rfl rfl rfl rfl (Nle rfl) trivial ?_)
   refine VO.nil ?_
   refine VC.seq ?_
   have hsl := hpn.all q (by omega)
   have hsz := szW_bd (q := (n.slots.getD q default).quarter) hw hh
   refine VC.region ?_
   refine VO.val rfl rfl (OpV.loadK_own (i := 0) rfl hB Tryz.isAgg28 Tryz.sizeOf28 rfl rfl rfl (fun h => h)) ?_
   refine VO.val rfl rfl (OpV.fieldAddrO 2 rfl Tryz.underlying94 rfl rfl Tryz.sizeOf3 rfl) ?_
   refine VO.val rfl rfl (OpV.load_own (i := 3) rfl hB Tryz.isAgg3 rfl rfl rfl (fun h => h)) ?_
   refine VO.op rfl (OpE.call rfl hB rfl Tryz.call100 rfl (SpecN.spec (panel_size hsl.2.2)) ?_)
   rintro _ rfl
   refine VO.mv rfl rfl rfl rfl ?_
   refine VO.val rfl rfl (OpV.extract rfl rfl rfl) ?_
   refine VO.val rfl rfl (OpV.extract rfl rfl rfl) ?_
   refine VO.ma rfl rfl rfl rfl ?_
   refine VO.ma rfl rfl rfl rfl ?_
   refine VO.nil ?_
   refine VC.sr ?_
   refine VO.mv rfl rfl rfl rfl ?_
   refine VO.val rfl rfl (OpV.add rfl rfl rfl (by unfold fits; omega)) ?_
   refine VO.ma rfl rfl rfl rfl ?_
   refine VO.nil ?_
   refine VC.block ?_
   refine VC.loopK [(2, _), (3, _), (8, _), (9, _), (10, _), (11, _), (23, _), (24, _), (25, _)] ⟨rfl, rfl, rfl, rfl, rfl, rfl, rfl, rfl, rfl, trivial⟩ ({z : Value × Nat // q < z.2 ∧ z.2 ≤ max (q + 1) n.slots.length}) (fun (iZ : {z : Value × Nat // q < z.2 ∧ z.2 ≤ max (q + 1) n.slots.length}) => match iZ with | ⟨⟨u, k⟩, hk1, hk2⟩ => [(7, .v u), (12, avI (k : Int))]) (fun (iZ : {z : Value × Nat // q < z.2 ∧ z.2 ≤ max (q + 1) n.slots.length}) => match iZ with | ⟨⟨u, k⟩, hk1, hk2⟩ => [boxProd g2 p 28, boxPan g3 n 32, .row u (accN (ovO p) n.slots q k).length 2 (rowL (accN (ovO p) n.slots q k)) 103, .box g9 ⟨[avI (n.slots.getD q default).x, avI (n.slots.getD q default).y, avI (n.slots.getD q default).quarter, avB (n.slots.getD q default).skip], 94, 4⟩]) (fun (iZ : {z : Value × Nat // q < z.2 ∧ z.2 ≤ max (q + 1) n.slots.length}) => match iZ with | ⟨⟨u, k⟩, hk1, hk2⟩ => 0) (fun (iZ : {z : Value × Nat // q < z.2 ∧ z.2 ≤ max (q + 1) n.slots.length}) => match iZ with | ⟨⟨u, k⟩, hk1, hk2⟩ => max (q + 1) n.slots.length - k) ⟨(u, q + 1), by show q < q + 1; omega, by show q + 1 ≤ _; omega⟩ (Le.mk hB [0, 1, 2, 3] ⟨rfl, rfl, rfl, rfl, rfl, rfl, rfl, rfl, rfl, rfl, rfl, trivial⟩ rfl (by dsimp only; rw [accN_0]; rfl) (Nat.le_refl _)) ?_
   rintro ⟨⟨u, k⟩, hk1, hk2⟩
   show VC _ _ _ _ ⟨[(7, .v u), (12, avI (k : Int))] ++ [(2, _), (3, _), (8, _), (9, _), (10, _), (11, _), (23, _), (24, _), (25, _)], [boxProd g2 p 28, boxPan g3 n 32, .row u (accN (ovO p) n.slots q k).length 2 (rowL (accN (ovO p) n.slots q k)) 103, .box g9 ⟨[avI (n.slots.getD q default).x, avI (n.slots.getD q default).y, avI (n.slots.getD q default).quarter, avB (n.slots.getD q default).skip], 94, 4⟩], 0⟩
   simp only at hk1 hk2
   have hal := accN_len (f := ovO p) (l := n.slots) (q := q) (k := k) (by omega) hk2 (by omega)
   refine VC.seq ?_
   refine VC.sr ?_
   refine VO.mv rfl rfl rfl rfl ?_
   refine VO.val rfl rfl (OpV.fieldAddrO 2 rfl Tryz.underlying32 rfl rfl Tryz.sizeOf30 rfl) ?_
   refine VO.val rfl rfl (OpV.load_own (i := 1) rfl hB Tryz.isAgg30 rfl rfl rfl (fun h => h)) ?_
   refine VO.val rfl rfl (OpV.len_im rfl Tryz.underlying30 rfl) ?_
   refine VO.val rfl rfl (OpV.lss rfl rfl rfl) ?_
   refine VO.nil ?_
   refine VC.cond rfl (fun aH2b => ?_) (fun aH2b => ?_)
   ·have aH2 := aH2b
    try simp only [qqT, qqF, qqN, qqM, qqL, qqE] at aH2
    refine VC.skip ?_
    refine VC.seq ?_
    refine VC.block ?_
    refine VC.sr ?_
    refine VO.val rfl rfl (OpV.fieldAddrO 2 rfl Tryz.underlying32 rfl rfl Tryz.sizeOf30 rfl) ?_
    refine VO.val rfl rfl (OpV.load_own (i := 1) rfl hB Tryz.isAgg30 rfl rfl rfl (fun h => h)) ?_
    refine VO.mv rfl rfl rfl rfl ?_
    refine VO.val rfl rfl (OpV.indexAddr_E rfl Tryz.underlying30 Tryz.sizeOf94 rfl rfl rfl (by omega)) ?_
    refine VO.val rfl rfl (OpV.loadK_at rfl hB OutW.no Tryz.isAgg94 Tryz.sizeOf94 rfl rfl) ?_
    refine VO.op rfl (OpE.alloc rfl hB rfl Tryz.zeroValue94 rfl ?_)
    intro g13
    refine VO.op rfl (OpE.store (i := 4) rfl hB rfl Tryz.sizeOf94 rfl rfl rfl rfl rfl rfl (Nle rfl) trivial ?_)
    refine VO.nil ?_
    refine VC.seq ?_
    have hsl2 := hpn.all k (by omega)
    have hsz2 := szW_bd (q := (n.slots.getD k default).quarter) hw hh
    refine VC.region ?_
    refine VO.val rfl rfl (OpV.loadK_own (i := 0) rfl hB Tryz.isAgg28 Tryz.sizeOf28 rfl rfl rfl (fun h => h)) ?_
    refine VO.val rfl rfl (OpV.fieldAddrO 2 rfl Tryz.underlying94 rfl rfl Tryz.sizeOf3 rfl) ?_
    refine VO.val rfl rfl (OpV.load_own (i := 4) rfl hB Tryz.isAgg3 rfl rfl rfl (fun h => h)) ?_
    refine VO.op rfl (OpE.call rfl hB rfl Tryz.call100 rfl (SpecN.spec (panel_size hsl2.2.2)) ?_)
    rintro _ rfl
    refine VO.mv rfl rfl rfl rfl ?_
    refine VO.val rfl rfl (OpV.extract rfl rfl rfl) ?_
    refine VO.val rfl rfl (OpV.extract rfl rfl rfl) ?_
    refine VO.ma rfl rfl rfl rfl ?_
    refine VO.ma rfl rfl rfl rfl ?_
    refine VO.nil ?_
    refine VC.sr ?_
    refine VO.val rfl rfl (OpV.fieldAddrO 0 rfl Tryz.underlying94 rfl rfl Tryz.sizeOf3 rfl) ?_
    refine VO.val rfl rfl (OpV.load_own (i := 3) rfl hB Tryz.isAgg3 rfl rfl rfl (fun h => h)) ?_
    refine VO.val rfl rfl (OpV.fieldAddrO 0 rfl Tryz.underlying94 rfl rfl Tryz.sizeOf3 rfl) ?_
    refine VO.val rfl rfl (OpV.load_own (i := 4) rfl hB Tryz.isAgg3 rfl rfl rfl (fun h => h)) ?_
    refine VO.mv rfl rfl rfl rfl ?_
    refine VO.val rfl rfl (OpV.add rfl rfl rfl (by unfold fits; omega)) ?_
    refine VO.val rfl rfl (OpV.lss rfl rfl rfl) ?_
    refine VO.mv rfl rfl rfl rfl ?_
    refine VO.opG rfl rfl rfl rfl (fun aK3b => ?_) (fun aK3b => ?_)
    ·replace aK3b : _ = true := aK3b
     have aK3 := aK3b
     try simp only [qqT, qqF, qqN, qqM, qqL, qqE] at aK3
     refine OpE.val (W := NoB) (OpV.fieldAddrO 0 rfl Tryz.underlying94 rfl rfl Tryz.sizeOf3 rfl) rfl ?_
     refine VO.opY rfl rfl rfl rfl aK3b ?_
     refine OpE.val (W := NoB) (OpV.load_own (i := 4) rfl hB Tryz.isAgg3 rfl rfl rfl (fun h => h)) rfl ?_
     refine VO.opY rfl rfl rfl rfl aK3b ?_
     refine OpE.val (W := NoB) (OpV.fieldAddrO 0 rfl Tryz.underlying94 rfl rfl Tryz.sizeOf3 rfl) rfl ?_
     refine VO.opY rfl rfl rfl rfl aK3b ?_
     refine OpE.val (W := NoB) (OpV.load_own (i := 3) rfl hB Tryz.isAgg3 rfl rfl rfl (fun h => h)) rfl ?_
     refine VO.opY rfl rfl rfl rfl aK3b ?_
     refine OpE.val (W := NoB) (OpV.move (.inl rfl) rfl) rfl ?_
     refine VO.opY rfl rfl rfl rfl aK3b ?_
     refine OpE.val (W := NoB) (OpV.add rfl rfl rfl (by unfold fits; omega)) rfl ?_
     refine VO.opY rfl rfl rfl rfl aK3b ?_
     refine OpE.val (W := NoB) (OpV.lss rfl rfl rfl) rfl ?_
     refine VO.val rfl rfl (OpV.pickT rfl rfl rfl rfl aK3b) ?_
     refine VO.mv rfl rfl rfl rfl ?_
     refine VO.opG rfl rfl rfl rfl (fun aK4b => ?_) (fun aK4b => ?_)
     ·replace aK4b : _ = true := aK4b
      have aK4 := aK4b
      try simp only [qqT, qqF, qqN, qqM, qqL, qqE] at aK4
      refine OpE.val (W := NoB) (OpV.fieldAddrO 1 rfl Tryz.underlying94 rfl rfl Tryz.sizeOf3 rfl) rfl ?_
      refine VO.opY rfl rfl rfl rfl aK4b ?_
      refine OpE.val (W := NoB) (OpV.load_own (i := 3) rfl hB Tryz.isAgg3 rfl rfl rfl (fun h => h)) rfl ?_
      refine VO.opY rfl rfl rfl rfl aK4b ?_
      refine OpE.val (W := NoB) (OpV.fieldAddrO 1 rfl Tryz.underlying94 rfl rfl Tryz.sizeOf3 rfl) rfl ?_
      refine VO.opY rfl rfl rfl rfl aK4b ?_
      refine OpE.val (W := NoB) (OpV.load_own (i := 4) rfl hB Tryz.isAgg3 rfl rfl rfl (fun h => h)) rfl ?_
      refine VO.opY rfl rfl rfl rfl aK4b ?_
      refine OpE.val (W := NoB) (OpV.move (.inl rfl) rfl) rfl ?_
      refine VO.opY rfl rfl rfl rfl aK4b ?_
      refine OpE.val (W := NoB) (OpV.add rfl rfl rfl (by unfold fits; omega)) rfl ?_
      refine VO.opY rfl rfl rfl rfl aK4b ?_
      refine OpE.val (W := NoB) (OpV.lss rfl rfl rfl) rfl ?_
      refine VO.val rfl rfl (OpV.pickT rfl rfl rfl rfl aK4b) ?_
      refine VO.mv rfl rfl rfl rfl ?_
      refine VO.opG rfl rfl rfl rfl (fun aK5b => ?_) (fun aK5b => ?_)
      ·replace aK5b : _ = true := aK5b
       have aK5 := aK5b
       try simp only [qqT, qqF, qqN, qqM, qqL, qqE] at aK5
       refine OpE.val (W := NoB) (OpV.fieldAddrO 1 rfl Tryz.underlying94 rfl rfl Tryz.sizeOf3 rfl) rfl ?_
       refine VO.opY rfl rfl rfl rfl aK5b ?_
       refine OpE.val (W := NoB) (OpV.load_own (i := 4) rfl hB Tryz.isAgg3 rfl rfl rfl (fun h => h)) rfl ?_
       refine VO.opY rfl rfl rfl rfl aK5b ?_
       refine OpE.val (W := NoB) (OpV.fieldAddrO 1 rfl Tryz.underlying94 rfl rfl Tryz.sizeOf3 rfl) rfl ?_
       refine VO.opY rfl rfl rfl rfl aK5b ?_
       refine OpE.val (W := NoB) (OpV.load_own (i := 3) rfl hB Tryz.isAgg3 rfl rfl rfl (fun h => h)) rfl ?_
       refine VO.opY rfl rfl rfl rfl aK5b ?_
       refine OpE.val (W := NoB) (OpV.move (.inl rfl) rfl) rfl ?_
       refine VO.opY rfl rfl rfl rfl aK5b ?_
       refine OpE.val (W := NoB) (OpV.add rfl rfl rfl (by unfold fits; omega)) rfl ?_
       refine VO.opY rfl rfl rfl rfl aK5b ?_
       refine OpE.val (W := NoB) (OpV.lss rfl rfl rfl) rfl ?_
       refine VO.val rfl rfl (OpV.pickT rfl rfl rfl rfl aK5b) ?_
       refine VO.nil ?_
       refine VC.cond rfl (fun aH6b => ?_) (fun aH6b => ?_)
       ·have aH6 := aH6b
        try simp only [qqT, qqF, qqN, qqM, qqL, qqE] at aH6
        refine VC.region ?_
        refine VO.mv rfl rfl rfl rfl ?_
        refine VO.mv rfl rfl rfl rfl ?_
        refine VO.mv rfl rfl rfl rfl ?_
        refine VO.val rfl rfl (OpV.buildArr rfl Tryz.zeroValue103 Tryz.underlying103 Tryz.sizeOf3 rfl rfl) ?_
        refine VO.op rfl (OpE.buildSlice (zc := #[.int .i64 0, .int .i64 0]) rfl hB rfl Tryz.underlying98 Tryz.sizeOf103 Tryz.zeroValue103 (by decide) (by decide) (by kernel_rfl) rfl rfl ?_)
        refine VO.op rfl (OpE.append1 (i := 2) rfl hB rfl Tryz.underlying98 (infoOf Tryz.t103 2 (by kernel_rfl) rfl rfl) rfl (by decide) (by decide) rfl rfl rfl rfl (rowL_snoc _ (⟨(q : Int), (k : Int)⟩ : IPair)) (by omega) (fun _ _ => trivial) ?_)
        intro u2
        refine VO.ma rfl rfl rfl rfl ?_
        refine VO.nil ?_
        refine VC.region ?_
        refine VO.mv rfl rfl rfl rfl ?_
        refine VO.val rfl rfl (OpV.add rfl rfl rfl (by unfold fits; omega)) ?_
        refine VO.ma rfl rfl rfl rfl ?_
        refine VO.nil ?_
        exact Exists.intro (⟨(u2, k + 1), by show q < k + 1; omega, by show k + 1 ≤ _; omega⟩) (And.intro (Le.mk hB [0, 1, 2, 3] ⟨rfl, rfl, rfl, rfl, rfl, rfl, rfl, rfl, rfl, rfl, rfl, trivial⟩ rfl (by dsimp only; first | (rw [accN_t (by omega) (ov_t (by assumption) (by assumption) (by assumption) (by assumption)), List.length_append]; rfl) | (rw [accN_f (by omega) (by first | exact ov_1 (by assumption) | exact ov_2 (by assumption) | exact ov_3 (by assumption) | exact ov_4 (by assumption))]; rfl)) (Nat.le_refl _)) (by first | omega | (show _ < _; omega) | (simp only []; omega)))
       ·have aH6 := aH6b
        try simp only [qqT, qqF, qqN, qqM, qqL, qqE] at aH6
        refine VC.skip ?_
        refine VC.region ?_
        refine VO.mv rfl rfl rfl rfl ?_
        refine VO.val rfl rfl (OpV.add rfl rfl rfl (by unfold fits; omega)) ?_
        refine VO.ma rfl rfl rfl rfl ?_
        refine VO.nil ?_
        exact Exists.intro (⟨(u, k + 1), by show q < k + 1; omega, by show k + 1 ≤ _; omega⟩) (And.intro (Le.mk hB [0, 1, 2, 3] ⟨rfl, rfl, rfl, rfl, rfl, rfl, rfl, rfl, rfl, rfl, rfl, trivial⟩ rfl (by dsimp only; first | (rw [accN_t (by omega) (ov_t (by assumption) (by assumption) (by assumption) (by assumption)), List.length_append]; rfl) | (rw [accN_f (by omega) (by first | exact ov_1 (by assumption) | exact ov_2 (by assumption) | exact ov_3 (by assumption) | exact ov_4 (by assumption))]; rfl)) (Nat.le_refl _)) (by first | omega | (show _ < _; omega) | (simp only []; omega)))
      ·replace aK5b : _ = false := aK5b
       have aK5 := aK5b
       try simp only [qqT, qqF, qqN, qqM, qqL, qqE] at aK5
       refine VO.opX rfl rfl rfl rfl aK5b ?_
       refine VO.opX rfl rfl rfl rfl aK5b ?_
       refine VO.opX rfl rfl rfl rfl aK5b ?_
       refine VO.opX rfl rfl rfl rfl aK5b ?_
       refine VO.opX rfl rfl rfl rfl aK5b ?_
       refine VO.opX rfl rfl rfl rfl aK5b ?_
       refine VO.val rfl rfl (OpV.pickF rfl rfl rfl rfl aK5b) ?_
       refine VO.nil ?_
       refine VC.condF rfl rfl ?_
       refine VC.skip ?_
       refine VC.region ?_
       refine VO.mv rfl rfl rfl rfl ?_
       refine VO.val rfl rfl (OpV.add rfl rfl rfl (by unfold fits; omega)) ?_
       refine VO.ma rfl rfl rfl rfl ?_
       refine VO.nil ?_
       exact Exists.intro (⟨(u, k + 1), by show q < k + 1; omega, by show k + 1 ≤ _; omega⟩) (And.intro (Le.mk hB [0, 1, 2, 3] ⟨rfl, rfl, rfl, rfl, rfl, rfl, rfl, rfl, rfl, rfl, rfl, trivial⟩ rfl (by dsimp only; first | (rw [accN_t (by omega) (ov_t (by assumption) (by assumption) (by assumption) (by assumption)), List.length_append]; rfl) | (rw [accN_f (by omega) (by first | exact ov_1 (by assumption) | exact ov_2 (by assumption) | exact ov_3 (by assumption) | exact ov_4 (by assumption))]; rfl)) (Nat.le_refl _)) (by first | omega | (show _ < _; omega) | (simp only []; omega)))
     ·replace aK4b : _ = false := aK4b
      have aK4 := aK4b
      try simp only [qqT, qqF, qqN, qqM, qqL, qqE] at aK4
      refine VO.opX rfl rfl rfl rfl aK4b ?_
      refine VO.opX rfl rfl rfl rfl aK4b ?_
      refine VO.opX rfl rfl rfl rfl aK4b ?_
      refine VO.opX rfl rfl rfl rfl aK4b ?_
      refine VO.opX rfl rfl rfl rfl aK4b ?_
      refine VO.opX rfl rfl rfl rfl aK4b ?_
      refine VO.val rfl rfl (OpV.pickF rfl rfl rfl rfl aK4b) ?_
      refine VO.mv rfl rfl rfl rfl ?_
      refine VO.opX rfl rfl rfl rfl rfl ?_
      refine VO.opX rfl rfl rfl rfl rfl ?_
      refine VO.opX rfl rfl rfl rfl rfl ?_
      refine VO.opX rfl rfl rfl rfl rfl ?_
      refine VO.opX rfl rfl rfl rfl rfl ?_
      refine VO.opX rfl rfl rfl rfl rfl ?_
      refine VO.opX rfl rfl rfl rfl rfl ?_
      refine VO.val rfl rfl (OpV.pickF rfl rfl rfl rfl rfl) ?_
      refine VO.nil ?_
      refine VC.condF rfl rfl ?_
      refine VC.skip ?_
      refine VC.region ?_
      refine VO.mv rfl rfl rfl rfl ?_
      refine VO.val rfl rfl (OpV.add rfl rfl rfl (by unfold fits; omega)) ?_
      refine VO.ma rfl rfl rfl rfl ?_
      refine VO.nil ?_
      exact Exists.intro (⟨(u, k + 1), by show q < k + 1; omega, by show k + 1 ≤ _; omega⟩) (And.intro (Le.mk hB [0, 1, 2, 3] ⟨rfl, rfl, rfl, rfl, rfl, rfl, rfl, rfl, rfl, rfl, rfl, trivial⟩ rfl (by dsimp only; first | (rw [accN_t (by omega) (ov_t (by assumption) (by assumption) (by assumption) (by assumption)), List.length_append]; rfl) | (rw [accN_f (by omega) (by first | exact ov_1 (by assumption) | exact ov_2 (by assumption) | exact ov_3 (by assumption) | exact ov_4 (by assumption))]; rfl)) (Nat.le_refl _)) (by first | omega | (show _ < _; omega) | (simp only []; omega)))
    ·replace aK3b : _ = false := aK3b
     have aK3 := aK3b
     try simp only [qqT, qqF, qqN, qqM, qqL, qqE] at aK3
     refine VO.opX rfl rfl rfl rfl aK3b ?_
     refine VO.opX rfl rfl rfl rfl aK3b ?_
     refine VO.opX rfl rfl rfl rfl aK3b ?_
     refine VO.opX rfl rfl rfl rfl aK3b ?_
     refine VO.opX rfl rfl rfl rfl aK3b ?_
     refine VO.opX rfl rfl rfl rfl aK3b ?_
     refine VO.val rfl rfl (OpV.pickF rfl rfl rfl rfl aK3b) ?_
     refine VO.mv rfl rfl rfl rfl ?_
     refine VO.opX rfl rfl rfl rfl rfl ?_
     refine VO.opX rfl rfl rfl rfl rfl ?_
     refine VO.opX rfl rfl rfl rfl rfl ?_
     refine VO.opX rfl rfl rfl rfl rfl ?_
     refine VO.opX rfl rfl rfl rfl rfl ?_
     refine VO.opX rfl rfl rfl rfl rfl ?_
     refine VO.opX rfl rfl rfl rfl rfl ?_
     refine VO.val rfl rfl (OpV.pickF rfl rfl rfl rfl rfl) ?_
     refine VO.mv rfl rfl rfl rfl ?_
     refine VO.opX rfl rfl rfl rfl rfl ?_
     refine VO.opX rfl rfl rfl rfl rfl ?_
     refine VO.opX rfl rfl rfl rfl rfl ?_
     refine VO.opX rfl rfl rfl rfl rfl ?_
     refine VO.opX rfl rfl rfl rfl rfl ?_
     refine VO.opX rfl rfl rfl rfl rfl ?_
     refine VO.opX rfl rfl rfl rfl rfl ?_
     refine VO.val rfl rfl (OpV.pickF rfl rfl rfl rfl rfl) ?_
     refine VO.nil ?_
     refine VC.condF rfl rfl ?_
     refine VC.skip ?_
     refine VC.region ?_
     refine VO.mv rfl rfl rfl rfl ?_
     refine VO.val rfl rfl (OpV.add rfl rfl rfl (by unfold fits; omega)) ?_
     refine VO.ma rfl rfl rfl rfl ?_
     refine VO.nil ?_
     exact Exists.intro (⟨(u, k + 1), by show q < k + 1; omega, by show k + 1 ≤ _; omega⟩) (And.intro (Le.mk hB [0, 1, 2, 3] ⟨rfl, rfl, rfl, rfl, rfl, rfl, rfl, rfl, rfl, rfl, rfl, trivial⟩ rfl (by dsimp only; first | (rw [accN_t (by omega) (ov_t (by assumption) (by assumption) (by assumption) (by assumption)), List.length_append]; rfl) | (rw [accN_f (by omega) (by first | exact ov_1 (by assumption) | exact ov_2 (by assumption) | exact ov_3 (by assumption) | exact ov_4 (by assumption))]; rfl)) (Nat.le_refl _)) (by first | omega | (show _ < _; omega) | (simp only []; omega)))
   ·have aH2 := aH2b
    try simp only [qqT, qqF, qqN, qqM, qqL, qqE] at aH2
    refine VC.exit ?_
    rw [accN_all hk1 hk2 (by omega)]
    refine VC.region ?_
    refine VO.val rfl rfl (OpV.add rfl rfl rfl (by unfold fits; omega)) ?_
    refine VO.mv rfl rfl rfl rfl ?_
    refine VO.nil ?_
    exact Exists.intro (⟨(u, q + 1), by show q + 1 ≤ _; omega⟩) (And.intro (Le.mk hB [0, 1, 2] ⟨rfl, rfl, rfl, rfl, rfl, rfl, trivial⟩ rfl rfl (Nat.le_refl _)) (by first | omega | (show _ < _; omega) | (simp only []; omega)))
  ·have aH1 := aH1b
   try simp only [qqT, qqF, qqN, qqM, qqL, qqE] at aH1
   refine VC.exit ?_
   refine VC.seq ?_
   have hqe : q = n.slots.length := by omega
   rw [hqe]
   refine VC.region ?_
   refine VO.mv rfl rfl rfl rfl ?_
   refine VO.ma rfl rfl rfl rfl ?_
   refine VO.ma rfl rfl rfl rfl ?_
   refine VO.nil ?_
   refine VC.ret ?_
   exact Exists.intro _ (And.intro (RetN.two Tryz.results51 (ResN.rowT (i := 2) rfl rfl rfl (flat_ip _)) (ResN.v rfl)) (by rw [ovsR, if_pos h00, h00, ovL]))
end Go.Proofs.YtceflkkgmmcieaaGreatDoor
namespace Go.Proofs.YtceflkkgmmcieaaGreatDoor
open Go.RowKit
set_option linter.unusedVariables false
set_option linter.unusedSimpArgs false
theorem nil_pan {w : World} {Z : Nat → Prop} {u : Value} (h : Rep w Z (.agg [avI 0, avI 0, .v (.slice none 0 0)]) u) : Rep w Z (avPan ⟨0, 0, []⟩) u := by
 cases h with
 | agg cs us hl hr =>
  refine .agg _ us hl fun j hj => ?_
  match j, hj with
  | 0, _ => exact hr 0 (by simp)
  | 1, _ => exact hr 1 (by simp)
  | 2, _ =>
   have := hr 2 (by simp)
   show Rep w Z (.im 0 4 _) _
   rw [this.eq_v]; exact .nil _ _
theorem turnE_1 {p : ProdS} {n : PanS} (h : panelF p n ≠ 0) : turnE p n = panelF p n := if_pos h
theorem turnE_2 {p : ProdS} {n : PanS} (h : panelF p n = 0) : turnE p n = panF (turnP p n) := if_neg (by omega)
theorem turn_len (p : ProdS) (n : PanS) (q : Nat) : ((n.slots.take q).map (turnS p n)).length ≤ n.slots.length := by rw [List.length_map, List.length_take]; omega
theorem turn_take {p : ProdS} {n : PanS} {q : Nat} (h : q < n.slots.length) : (n.slots.take (q + 1)).map (turnS p n) = (n.slots.take q).map (turnS p n) ++ [turnS p n (n.slots.getD q default)] := by
 rw [take_snocD h default, List.map_append]; rfl
set_option maxRecDepth 100000 in
set_option maxHeartbeats 8000000 in
theorem panel_Turned {p : ProdS} {n : PanS} (hs : SmP p) (hl : n.slots.length ≤ 1000000) :
  Spec Tryz.prog 50 [avProd p, avPan n] (fun y => y = .tup [avPan (turnR p n), avI (turnE p n)]) := by
 refine Spec.of_VC Tryz.func50 rfl Tryz.ntmps50 (Nle rfl) fun w A hB => ?_
 have hnew : True := trivial
 refine VC.sr ?_
 refine VO.op rfl (OpE.box rfl hB rfl rfl rfl ?_)
 intro g2
 refine VO.op rfl (OpE.box rfl hB rfl rfl rfl ?_)
 intro g3
 refine VO.op rfl (OpE.alloc rfl hB rfl Tryz.zeroValue32 rfl ?_)
 intro g4
 refine VO.ma rfl rfl rfl rfl ?_
 refine VO.nil ?_
 refine VC.seq ?_
 refine VC.sr ?_
 refine VO.val rfl rfl (OpV.loadK_own (i := 0) rfl hB Tryz.isAgg28 Tryz.sizeOf28 rfl rfl rfl (fun h => h)) ?_
 refine VO.val rfl rfl (OpV.loadK_own (i := 1) rfl hB Tryz.isAgg32 Tryz.sizeOf32 rfl rfl rfl (fun h => h)) ?_
 refine VO.op rfl (OpE.call rfl hB rfl Tryz.call27 rfl (SpecN.spec (panel_CheckPanel hs hl)) ?_)
 rintro _ rfl
 refine VO.ma rfl rfl rfl rfl ?_
 refine VO.nil ?_
 refine VC.sr ?_
 refine VO.mv rfl rfl rfl rfl ?_
 refine VO.val rfl rfl (OpV.neq rfl rfl rfl) ?_
 refine VO.nil ?_
 refine VC.cond rfl (fun h0b => ?_) (fun h0b => ?_)
 ·have h0 := h0b
  try simp only [qqT, qqF, qqN, qqM, qqL, qqE] at h0
  refine VC.sr ?_
  refine VO.val rfl rfl (OpV.build (pls := #[(0, 1), (1, 1), (2, 1)]) rfl Tryz.zeroValue32 Tryz.underlying32 (fun w => by kernel_rfl) rfl rfl) ?_
  refine VO.le _ (Le.recast (t := 18) (y := avPan ⟨0, 0, []⟩) rfl (fun w Z u h => nil_pan h)) ?_
  refine VO.mv rfl rfl rfl rfl ?_
  refine VO.op rfl (OpE.store (i := 2) rfl hB rfl Tryz.sizeOf32 rfl rfl rfl rfl rfl rfl (Nle rfl) trivial ?_)
  refine VO.ma rfl rfl rfl rfl ?_
  refine VO.nil ?_
  refine VC.ret ?_
  exact Exists.intro _ (And.intro (RetV.two Tryz.results50 ((by first | exact ResV.cellK (i := 0) Tryz.isAgg32 Tryz.sizeOf32 rfl rfl rfl | exact ResV.cellK (i := 1) Tryz.isAgg32 Tryz.sizeOf32 rfl rfl rfl | exact ResV.cellK (i := 2) Tryz.isAgg32 Tryz.sizeOf32 rfl rfl rfl)) (ResV.tmp rfl)) (by first | (rw [turnR, turnE_1 h0, if_neg h0]; rfl) | (rw [turnR, turnE_2 h00, if_neg h2]; rfl) | (rw [turnR, turnE_2 h00, if_pos (by omega), show panF (turnP p n) = 0 by omega]; rfl)))
 ·have h0 := h0b
  try simp only [qqT, qqF, qqN, qqM, qqL, qqE] at h0
  have h00 : panelF p n = 0 := by omega
  have hz := panelF_0 h00
  have hok := prodOk hz.1
  have hpn := panOk hz.2
  have hw := hok.wide
  have hh := hok.high
  have hnh := hpn.high
  have hlen := hpn.len
  refine VC.skip ?_
  refine VC.sr ?_
  refine VO.val rfl rfl (OpV.fieldAddrO 1 rfl Tryz.underlying32 rfl rfl Tryz.sizeOf3 rfl) ?_
  refine VO.val rfl rfl (OpV.load_own (i := 1) rfl hB Tryz.isAgg3 rfl rfl rfl (fun h => h)) ?_
  refine VO.val rfl rfl (OpV.fieldAddrO 0 rfl Tryz.underlying32 rfl rfl Tryz.sizeOf3 rfl) ?_
  refine VO.val rfl rfl (OpV.load_own (i := 1) rfl hB Tryz.isAgg3 rfl rfl rfl (fun h => h)) ?_
  refine VO.val rfl rfl (OpV.build (pls := #[(0, 1), (1, 1), (2, 1)]) rfl Tryz.zeroValue32 Tryz.underlying32 (fun w => by kernel_rfl) rfl rfl) ?_
  refine VO.op rfl (OpE.alloc rfl hB rfl Tryz.zeroValue32 rfl ?_)
  intro g7
  refine VO.op rfl (OpE.store (i := 3) rfl hB rfl Tryz.sizeOf32 rfl rfl rfl rfl rfl rfl (Nle rfl) trivial ?_)
  refine VO.nil ?_
  refine VC.seq ?_
  refine VC.sr ?_
  refine VO.val rfl rfl (OpV.fieldAddrO 2 rfl Tryz.underlying32 rfl rfl Tryz.sizeOf30 rfl) ?_
  refine VO.val rfl rfl (OpV.load_own (i := 1) rfl hB Tryz.isAgg30 rfl rfl rfl (fun h => h)) ?_
  refine VO.val rfl rfl (OpV.len_im rfl Tryz.underlying30 rfl) ?_
  refine VO.mv rfl rfl rfl rfl ?_
  refine VO.nil ?_
  refine VC.block ?_
  refine VC.le _ (Le.nilRow 4 94) ?_
  refine VC.loopK [(2, _), (3, _), (4, _), (7, _), (26, _), (27, _)] ⟨rfl, rfl, rfl, rfl, rfl, rfl, trivial⟩ ({z : Option Addr × Nat × Nat // z.2.2 ≤ n.slots.length}) (fun (iZ : {z : Option Addr × Nat × Nat // z.2.2 ≤ n.slots.length}) => match iZ with | ⟨⟨b, c, q⟩, hq⟩ => [(28, avI (q : Int))]) (fun (iZ : {z : Option Addr × Nat × Nat // z.2.2 ≤ n.slots.length}) => match iZ with | ⟨⟨b, c, q⟩, hq⟩ => [boxProd g2 p 28, boxPan g3 n 32, .box g4 ⟨[avI 0, avI 0, .v (.slice none 0 0)], 32, 3⟩, .box g7 ⟨[avI n.high, avI n.wide, .v (.slice b ((n.slots.take q).map (turnS p n)).length c)], 32, 3⟩, .row (.slice b ((n.slots.take q).map (turnS p n)).length c) ((n.slots.take q).map (turnS p n)).length 4 (rowL ((n.slots.take q).map (turnS p n))) 94]) (fun (iZ : {z : Option Addr × Nat × Nat // z.2.2 ≤ n.slots.length}) => match iZ with | ⟨⟨b, c, q⟩, hq⟩ => 0) (fun (iZ : {z : Option Addr × Nat × Nat // z.2.2 ≤ n.slots.length}) => match iZ with | ⟨⟨b, c, q⟩, hq⟩ => n.slots.length - q) ⟨(none, 0, 0), Nat.zero_le _⟩ (Le.mk hB [0, 1, 2, 3, 4] ⟨rfl, rfl, rfl, rfl, rfl, rfl, rfl, trivial⟩ rfl rfl (Nat.le_refl _)) ?_
  rintro ⟨⟨b, c, q⟩, hq⟩
  show VC _ _ _ _ ⟨[(28, avI (q : Int))] ++ [(2, _), (3, _), (4, _), (7, _), (26, _), (27, _)], [boxProd g2 p 28, boxPan g3 n 32, .box g4 ⟨[avI 0, avI 0, .v (.slice none 0 0)], 32, 3⟩, .box g7 ⟨[avI n.high, avI n.wide, .v (.slice b ((n.slots.take q).map (turnS p n)).length c)], 32, 3⟩, .row (.slice b ((n.slots.take q).map (turnS p n)).length c) ((n.slots.take q).map (turnS p n)).length 4 (rowL ((n.slots.take q).map (turnS p n))) 94], 0⟩
  simp only at hq
  have htl : ((n.slots.take q).map (turnS p n)).length ≤ 100 := Nat.le_trans (turn_len p n q) hlen
  refine VC.sr ?_
  refine VO.val rfl rfl (OpV.lss rfl rfl rfl) ?_
  refine VO.nil ?_
  refine VC.seq ?_
  refine VC.cond rfl (fun aH1b => ?_) (fun aH1b => ?_)
  ·have aH1 := aH1b
   try simp only [qqT, qqF, qqN, qqM, qqL, qqE] at aH1
   refine VC.skip ?_
   refine VC.seq ?_
   refine VC.block ?_
   refine VC.seq ?_
   have hsl := hpn.all q (by omega)
   have hsz := szW_bd (q := (n.slots.getD q default).quarter) hw hh
   have h4 := Int.tmod_eq_emod_of_nonneg (a := (n.slots.getD q default).quarter + 1) (b := 4) (by omega)
   refine VC.region ?_
   refine VO.val rfl rfl (OpV.indexAddr_E rfl Tryz.underlying30 Tryz.sizeOf94 rfl rfl rfl (by omega)) ?_
   refine VO.val rfl rfl (OpV.loadK_at rfl hB OutW.no Tryz.isAgg94 Tryz.sizeOf94 rfl rfl) ?_
   refine VO.op rfl (OpE.alloc rfl hB rfl Tryz.zeroValue94 rfl ?_)
   intro g9
   refine VO.op rfl (OpE.store (i := 5) rfl hB rfl Tryz.sizeOf94 rfl rfl rfl rfl rfl rfl (Nle rfl) trivial ?_)
   refine VO.nil ?_
   refine VC.sr ?_
   refine VO.val rfl rfl (OpV.loadK_own (i := 0) rfl hB Tryz.isAgg28 Tryz.sizeOf28 rfl rfl rfl (fun h => h)) ?_
   refine VO.val rfl rfl (OpV.fieldAddrO 2 rfl Tryz.underlying94 rfl rfl Tryz.sizeOf3 rfl) ?_
   refine VO.val rfl rfl (OpV.load_own (i := 5) rfl hB Tryz.isAgg3 rfl rfl rfl (fun h => h)) ?_
   refine VO.op rfl (OpE.call rfl hB rfl Tryz.call100 rfl (SpecN.spec (panel_size hsl.2.2)) ?_)
   rintro _ rfl
   refine VO.mv rfl rfl rfl rfl ?_
   refine VO.val rfl rfl (OpV.extract rfl rfl rfl) ?_
   refine VO.val rfl rfl (OpV.extract rfl rfl rfl) ?_
   refine VO.ma rfl rfl rfl rfl ?_
   refine VO.ma rfl rfl rfl rfl ?_
   refine VO.nil ?_
   refine VC.region ?_
   refine VO.val rfl rfl (OpV.fieldAddrO 2 rfl Tryz.underlying32 rfl rfl Tryz.sizeOf30 rfl) ?_
   refine VO.val rfl rfl (OpV.load_own (i := 3) rfl hB Tryz.isAgg30 rfl rfl rfl (fun h => h)) ?_
   refine VO.val rfl rfl (OpV.fieldAddrO 1 rfl Tryz.underlying32 rfl rfl Tryz.sizeOf3 rfl) ?_
   refine VO.val rfl rfl (OpV.load_own (i := 1) rfl hB Tryz.isAgg3 rfl rfl rfl (fun h => h)) ?_
   refine VO.val rfl rfl (OpV.fieldAddrO 1 rfl Tryz.underlying94 rfl rfl Tryz.sizeOf3 rfl) ?_
   refine VO.val rfl rfl (OpV.load_own (i := 5) rfl hB Tryz.isAgg3 rfl rfl rfl (fun h => h)) ?_
   refine VO.val rfl rfl (OpV.sub rfl rfl rfl (by unfold fits; omega)) ?_
   refine VO.mv rfl rfl rfl rfl ?_
   refine VO.val rfl rfl (OpV.sub rfl rfl rfl (by unfold fits; omega)) ?_
   refine VO.val rfl rfl (OpV.fieldAddrO 0 rfl Tryz.underlying94 rfl rfl Tryz.sizeOf3 rfl) ?_
   refine VO.val rfl rfl (OpV.load_own (i := 5) rfl hB Tryz.isAgg3 rfl rfl rfl (fun h => h)) ?_
   refine VO.val rfl rfl (OpV.fieldAddrO 2 rfl Tryz.underlying94 rfl rfl Tryz.sizeOf3 rfl) ?_
   refine VO.val rfl rfl (OpV.load_own (i := 5) rfl hB Tryz.isAgg3 rfl rfl rfl (fun h => h)) ?_
   refine VO.val rfl rfl (OpV.add rfl rfl rfl (by unfold fits; omega)) ?_
   refine VO.val rfl rfl (OpV.rem rfl rfl rfl (by omega) (by unfold fits; omega)) ?_
   refine VO.val rfl rfl (OpV.fieldAddrO 3 rfl Tryz.underlying94 rfl rfl Tryz.sizeOf4 rfl) ?_
   refine VO.val rfl rfl (OpV.load_own (i := 5) rfl hB Tryz.isAgg4 rfl rfl rfl (fun h => h)) ?_
   refine VO.val rfl rfl (OpV.build (pls := #[(0, 1), (1, 1), (2, 1), (3, 1)]) rfl Tryz.zeroValue94 Tryz.underlying94 (fun w => by kernel_rfl) rfl rfl) ?_
   refine VO.op rfl (OpE.buildSlice (zc := #[.int .i64 0, .int .i64 0, .int .i64 0, .bool false]) rfl hB rfl Tryz.underlying30 Tryz.sizeOf94 Tryz.zeroValue94 (by decide) (by decide) (by kernel_rfl) rfl rfl ?_)
   refine VO.op rfl (OpE.append1S (i := 4) rfl hB rfl Tryz.underlying30 (infoOf Tryz.t94 4 (by kernel_rfl) rfl rfl) rfl (by decide) (by decide) rfl rfl rfl rfl (rowL_snoc _ (turnS p n (n.slots.getD q default))) (by omega) (fun _ _ => trivial) ?_)
   intro b2 c2
   refine VO.val rfl rfl (OpV.fieldAddrO 2 rfl Tryz.underlying32 rfl rfl Tryz.sizeOf30 rfl) ?_
   refine VO.op rfl (OpE.store (i := 3) rfl hB rfl Tryz.sizeOf30 rfl rfl rfl rfl rfl rfl (Nle rfl) trivial ?_)
   refine VO.nil ?_
   refine VC.region ?_
   refine VO.val rfl rfl (OpV.add rfl rfl rfl (by unfold fits; omega)) ?_
   refine VO.mv rfl rfl rfl rfl ?_
   refine VO.nil ?_
   exact Exists.intro (⟨(b2, c2, q + 1), by show q + 1 ≤ _; omega⟩) (And.intro (Le.mk hB [0, 1, 2, 3, 4] ⟨rfl, rfl, rfl, rfl, rfl, rfl, rfl, trivial⟩ rfl (by dsimp only; rw [turn_take (by omega), List.length_append]; rfl) (Nat.le_refl _)) (by first | omega | (show _ < _; omega) | (simp only []; omega)))
  ·have aH1 := aH1b
   try simp only [qqT, qqF, qqN, qqM, qqL, qqE] at aH1
   refine VC.exit ?_
   refine VC.seq ?_
   refine VC.seq ?_
   have hqe : n.slots.take q = n.slots := List.take_of_length_le (by omega)
   rw [hqe]
   refine VC.le _ (Le.cellRow (i := 3) (k := 4) (j := 2) (y := avL (turnP p n).slots) hB rfl rfl rfl (by omega) (fun w Z u h => Rep.rowL rfl h)) ?_
   refine VC.region ?_
   refine VO.val rfl rfl (OpV.loadK_own (i := 3) rfl hB Tryz.isAgg32 Tryz.sizeOf32 rfl rfl rfl (fun h => h)) ?_
   refine VO.op rfl (OpE.call rfl hB rfl Tryz.call85 rfl (SpecN.spec (panel_panelFault (n := turnP p n) (by show (n.slots.map (turnS p n)).length ≤ _; rw [List.length_map]; omega))) ?_)
   rintro _ rfl
   refine VO.ma rfl rfl rfl rfl ?_
   refine VO.nil ?_
   refine VC.sr ?_
   refine VO.mv rfl rfl rfl rfl ?_
   refine VO.val rfl rfl (OpV.neq rfl rfl rfl) ?_
   refine VO.nil ?_
   refine VC.cond rfl (fun h2b => ?_) (fun h2b => ?_)
   ·have h2 := h2b
    try simp only [qqT, qqF, qqN, qqM, qqL, qqE] at h2
    refine VC.sr ?_
    refine VO.val rfl rfl (OpV.build (pls := #[(0, 1), (1, 1), (2, 1)]) rfl Tryz.zeroValue32 Tryz.underlying32 (fun w => by kernel_rfl) rfl rfl) ?_
    refine VO.le _ (Le.recast (t := 65) (y := avPan ⟨0, 0, []⟩) rfl (fun w Z u h => nil_pan h)) ?_
    refine VO.mv rfl rfl rfl rfl ?_
    refine VO.op rfl (OpE.store (i := 2) rfl hB rfl Tryz.sizeOf32 rfl rfl rfl rfl rfl rfl (Nle rfl) trivial ?_)
    refine VO.ma rfl rfl rfl rfl ?_
    refine VO.nil ?_
    refine VC.ret ?_
    exact Exists.intro _ (And.intro (RetV.two Tryz.results50 ((by first | exact ResV.cellK (i := 0) Tryz.isAgg32 Tryz.sizeOf32 rfl rfl rfl | exact ResV.cellK (i := 1) Tryz.isAgg32 Tryz.sizeOf32 rfl rfl rfl | exact ResV.cellK (i := 2) Tryz.isAgg32 Tryz.sizeOf32 rfl rfl rfl | exact ResV.cellK (i := 3) Tryz.isAgg32 Tryz.sizeOf32 rfl rfl rfl | exact ResV.cellK (i := 4) Tryz.isAgg32 Tryz.sizeOf32 rfl rfl rfl)) (ResV.tmp rfl)) (by first | (rw [turnR, turnE_1 h0, if_neg h0]; rfl) | (rw [turnR, turnE_2 h00, if_neg h2]; rfl) | (rw [turnR, turnE_2 h00, if_pos (by omega), show panF (turnP p n) = 0 by omega]; rfl)))
   ·have h2 := h2b
    try simp only [qqT, qqF, qqN, qqM, qqL, qqE] at h2
    refine VC.skip ?_
    refine VC.sr ?_
    refine VO.val rfl rfl (OpV.loadK_own (i := 3) rfl hB Tryz.isAgg32 Tryz.sizeOf32 rfl rfl rfl (fun h => h)) ?_
    refine VO.op rfl (OpE.store (i := 2) rfl hB rfl Tryz.sizeOf32 rfl rfl rfl rfl rfl rfl (Nle rfl) trivial ?_)
    refine VO.ma rfl rfl rfl rfl ?_
    refine VO.nil ?_
    refine VC.ret ?_
    exact Exists.intro _ (And.intro (RetV.two Tryz.results50 ((by first | exact ResV.cellK (i := 0) Tryz.isAgg32 Tryz.sizeOf32 rfl rfl rfl | exact ResV.cellK (i := 1) Tryz.isAgg32 Tryz.sizeOf32 rfl rfl rfl | exact ResV.cellK (i := 2) Tryz.isAgg32 Tryz.sizeOf32 rfl rfl rfl | exact ResV.cellK (i := 3) Tryz.isAgg32 Tryz.sizeOf32 rfl rfl rfl | exact ResV.cellK (i := 4) Tryz.isAgg32 Tryz.sizeOf32 rfl rfl rfl)) (ResV.tmp rfl)) (by first | (rw [turnR, turnE_1 h0, if_neg h0]; rfl) | (rw [turnR, turnE_2 h00, if_neg h2]; rfl) | (rw [turnR, turnE_2 h00, if_pos (by omega), show panF (turnP p n) = 0 by omega]; rfl)))
end Go.Proofs.YtceflkkgmmcieaaGreatDoor
namespace Go.Proofs.YtceflkkgmmcieaaGreatDoor
open Go.RowKit
set_option linter.unusedVariables false
set_option linter.unusedSimpArgs false
section
variable {P : Program} {B : Bs} {W : Nat → Prop} {s : St'} {o : Oper}
theorem run_part1 {t : TypeId} {us : Array Value} {off : Nat} {v : Value} (w : World) (hag : ∀ w, (isAgg t).run P w = .ok false w) (hl : off < us.size) (hv : us.getD off undef = v) : (part t us off).run P w = .ok v w := by
 have : us[off]? = some v := by rw [← hv, Array.getD_eq_getD_getElem?, Array.getElem?_eq_getElem hl]; rfl
 simp [part, hag, this]
theorem run_arr2' (d' : Nat) {t e : TypeId} {k k' : IntKind} {us vs : Array Value} {a b c d : Int} (hu : P.underlying t = some (.array 2 e)) (he : P.underlying e = some (.int k')) (hsz : ∀ w, (sizeOf e).run P w = .ok 1 w) (hag : ∀ w, (isAgg e).run P w = .ok false w)
  (h1 : 2 ≤ us.size) (h2 : 2 ≤ vs.size) (hqq : ∀ w a b, (Op.equalIn d' e (.int k a) (.int k b)).run P w = .ok (a == b) w) (ha : us.getD 0 undef = .int k a) (hb : us.getD 1 undef = .int k b) (hc : vs.getD 0 undef = .int k c) (hd : vs.getD 1 undef = .int k d) (w : World) :
  (Op.equalIn (d' + 1) t (.agg us) (.agg vs)).run P w = .ok (decide (a = c) && (decide (b = d) && true)) w := by
 have e1 := run_part1 (P := P) w hag (show 0 * 1 < us.size by omega) ha
 have e2 := run_part1 (P := P) w hag (show 1 * 1 < us.size by omega) hb
 have e3 := run_part1 (P := P) w hag (show 0 * 1 < vs.size by omega) hc
 have e4 := run_part1 (P := P) w hag (show 1 * 1 < vs.size by omega) hd
 have q := hqq w
 simp only [Op.equalIn, Sem.run_bind, run_underlying hu, Result.andThen_ok, hsz]
 simp only [Std.Legacy.Range.forIn_eq_forIn_range', Std.Legacy.Range.size, Nat.sub_zero, Nat.add_one_sub_one, Nat.div_one]
 rw [show List.range' 0 2 = [0, 1] from rfl]
 simp only [List.forIn_cons, List.forIn_nil, Sem.run_bind, e1, e2, e3, e4, q, Result.andThen_ok]
 have e2' := e2
 have e4' := e4
 rw [Nat.mul_one] at e2' e4'
 by_cases h : a = c
 ·by_cases h' : b = d
  ·simp [h, h', e2', e4', q]
  ·simp [h, h', e2', e4', q]
 ·simp [h]
theorem run_arr2 {t e : TypeId} {k k' : IntKind} {us vs : Array Value} {a b c d : Int} (hu : P.underlying t = some (.array 2 e)) (he : P.underlying e = some (.int k')) (hsz : ∀ w, (sizeOf e).run P w = .ok 1 w) (hag : ∀ w, (isAgg e).run P w = .ok false w)
  (h1 : 2 ≤ us.size) (h2 : 2 ≤ vs.size) (ha : us.getD 0 undef = .int k a) (hb : us.getD 1 undef = .int k b) (hc : vs.getD 0 undef = .int k c) (hd : vs.getD 1 undef = .int k d) (w : World) :
  (Op.equalIn 10000 t (.agg us) (.agg vs)).run P w = .ok (decide (a = c) && (decide (b = d) && true)) w := run_arr2' 9999 hu he hsz hag h1 h2 (fun w a b => run_equalIn_int (P := P) w 9998 e k k' a b he) ha hb hc hd w
theorem arr2_eq {w : World} {Z : Nat → Prop} {t e : TypeId} {k' : IntKind} {xs ys : List AV} {a b c d : Int} {u v : Value} (hu : P.underlying t = some (.array 2 e)) (he : P.underlying e = some (.int k')) (hsz : ∀ w, (sizeOf e).run P w = .ok 1 w) (hag : ∀ w, (isAgg e).run P w = .ok false w)
  (hxs : xs = [avI a, avI b]) (hys : ys = [avI c, avI d]) (hx : Rep w Z (.agg xs) u) (hy : Rep w Z (.agg ys) v) :
  ∃ us vs, u = .agg us ∧ v = .agg vs ∧ ∀ w', (Op.equalIn 10000 t u v).run P w' = .ok (decide (a = c) && (decide (b = d) && true)) w' := by
 subst hxs
 subst hys
 cases hx with
 | agg _ us l1 r1 =>
  cases hy with
  | agg _ vs l2 r2 =>
   have z1 := (r1 0 (by simp)).eq_v
   have z2 := (r1 1 (by simp)).eq_v
   have z3 := (r2 0 (by simp)).eq_v
   have z4 := (r2 1 (by simp)).eq_v
   simp only [List.length_cons, List.length_nil] at l1 l2
   exact ⟨us, vs, rfl, rfl, run_arr2 hu he hsz hag (by omega) (by omega) z1 z2 z3 z4⟩
theorem OpV.arr2neq {x y : Operand} {t u e : TypeId} {k' : IntKind} {xs ys : List AV} {a b c d : Int} (ho : o.op = .binOp .neq t x y u) (hu : P.underlying t = some (.array 2 e)) (he : P.underlying e = some (.int k')) (hsz : ∀ w, (sizeOf e).run P w = .ok 1 w) (hag : ∀ w, (isAgg e).run P w = .ok false w) (hg : P.eqGuardType P.depth t = false)
  (hx : evO s x = some (.agg xs)) (hy : evO s y = some (.agg ys)) (hxs : xs = [avI a, avI b]) (hys : ys = [avI c, avI d]) : OpV P B W s o (avB (!(decide (a = c) && (decide (b = d) && true)))) := fun a w hr => by
 obtain ⟨us, vs, e1, e2, e3⟩ := arr2_eq hu he hsz hag hxs hys (hr.ev hx) (hr.ev hy)
 rw [e1, e2] at e3
 refine ⟨_, fun w' _ => ?_, .v _⟩
 simp only [execOp, ho, e1, e2, Sem.run_bind, run_eqGuard_agg w' _ t x y us vs hg, run_neq_struct, e3, Result.andThen_ok, Sem.run_pure]
end
end Go.Proofs.YtceflkkgmmcieaaGreatDoor
namespace Go.Proofs.YtceflkkgmmcieaaGreatDoor
open Go.RowKit
set_option linter.unusedVariables false
set_option linter.unusedSimpArgs false
def eqSl (x y : SlotS) : Bool := decide (x.x = y.x) && (decide (x.y = y.y) && (decide (x.quarter = y.quarter) && ((x.skip == y.skip) && true)))
theorem eqSl_self (x : SlotS) : eqSl x x = true := by simp [eqSl]
def eqIp (x y : IPair) : Bool := decide (x.a = y.a) && (decide (x.b = y.b) && true)
theorem eqIp_self (x : IPair) : eqIp x x = true := by simp [eqIp]
set_option maxRecDepth 100000 in
theorem slices_Equal_slot {xs ys : List SlotS} (hl : xs.length ≤ 1000000000) (hl' : ys.length ≤ 1000000000) :
  SpecN Tryz.prog 102 [avL xs, avL ys] (fun y => y = avB (eqLs eqSl xs ys)) := by
 refine SpecN.of_VCN Tryz.func102 rfl Tryz.ntmps102 (Nle rfl) fun w A hB => ?_
 have hnew : True := trivial
 refine VC.sr ?_
 refine VO.ma rfl rfl rfl rfl ?_
 refine VO.nil ?_
 refine VC.seq ?_
 refine VC.sr ?_
 refine VO.mv rfl rfl rfl rfl ?_
 refine VO.val rfl rfl (OpV.len_im rfl Tryz.underlying30 rfl) ?_
 refine VO.mv rfl rfl rfl rfl ?_
 refine VO.val rfl rfl (OpV.len_im rfl Tryz.underlying30 rfl) ?_
 refine VO.val rfl rfl (OpV.neq rfl rfl rfl) ?_
 refine VO.nil ?_
 refine VC.cond rfl (fun aH1b => ?_) (fun aH1b => ?_)
 ·have aH1 := aH1b
  try simp only [qqT, qqF, qqN, qqM, qqL, qqE] at aH1
  refine VC.sr ?_
  refine VO.ma rfl rfl rfl rfl ?_
  refine VO.nil ?_
  refine VC.ret ?_
  exact Exists.intro _ (And.intro (RetN.one Tryz.results102 (ResN.v rfl)) (by first | rw [eqLs_len (by omega)] | rw [eqLs_at (d := default) (q := q) (by omega) (not_true_false h2b)] | rw [eqLs_all (d := default) (by omega) (fun j hj => hn j (by omega))]))
 ·have aH1 := aH1b
  try simp only [qqT, qqF, qqN, qqM, qqL, qqE] at aH1
  refine VC.skip ?_
  refine VC.seq ?_
  refine VC.sr ?_
  refine VO.mv rfl rfl rfl rfl ?_
  refine VO.val rfl rfl (OpV.len_im rfl Tryz.underlying30 rfl) ?_
  refine VO.mv rfl rfl rfl rfl ?_
  refine VO.nil ?_
  refine VC.block ?_
  refine VC.loopK [(0, _), (1, _), (12, _)] ⟨rfl, rfl, rfl, trivial⟩ ({q : Nat // q ≤ xs.length ∧ ∀ j, j < q → eqSl (xs.getD j default) (ys.getD j default) = true}) (fun (iZ : {q : Nat // q ≤ xs.length ∧ ∀ j, j < q → eqSl (xs.getD j default) (ys.getD j default) = true}) => match iZ with | ⟨q, hq, hn⟩ => [(13, avI (q : Int))]) (fun (iZ : {q : Nat // q ≤ xs.length ∧ ∀ j, j < q → eqSl (xs.getD j default) (ys.getD j default) = true}) => match iZ with | ⟨q, hq, hn⟩ => []) (fun (iZ : {q : Nat // q ≤ xs.length ∧ ∀ j, j < q → eqSl (xs.getD j default) (ys.getD j default) = true}) => match iZ with | ⟨q, hq, hn⟩ => 0) (fun (iZ : {q : Nat // q ≤ xs.length ∧ ∀ j, j < q → eqSl (xs.getD j default) (ys.getD j default) = true}) => match iZ with | ⟨q, hq, hn⟩ => xs.length - q) ⟨0, Nat.zero_le _, fun j hj => absurd hj (Nat.not_lt_zero j)⟩ (Le.mk hB [] ⟨rfl, rfl, rfl, rfl, trivial⟩ rfl rfl (Nat.le_refl _)) ?_
  rintro ⟨q, hq, hn⟩
  show VC _ _ _ _ ⟨[(13, avI (q : Int))] ++ [(0, _), (1, _), (12, _)], [], 0⟩
  refine VC.sr ?_
  refine VO.val rfl rfl (OpV.lss rfl rfl rfl) ?_
  refine VO.nil ?_
  refine VC.seq ?_
  refine VC.cond rfl (fun aH2b => ?_) (fun aH2b => ?_)
  ·have aH2 := aH2b
   try simp only [qqT, qqF, qqN, qqM, qqL, qqE] at aH2
   refine VC.skip ?_
   refine VC.seq ?_
   refine VC.block ?_
   refine VC.sr ?_
   refine VO.mv rfl rfl rfl rfl ?_
   refine VO.ma rfl rfl rfl rfl ?_
   refine VO.nil ?_
   refine VC.seq ?_
   refine VC.draw (fun _ => NoB) hB (by kernel_rfl) ?_
   refine VA.take (i := 0) rfl (by kernel_rfl) (by kernel_rfl) (by kernel_rfl) rfl rfl (OpV.move (.inl rfl) rfl) ?_
   refine VA.take (i := 1) rfl (by kernel_rfl) (by kernel_rfl) (by kernel_rfl) rfl rfl (OpV.move (.inl rfl) rfl) ?_
   refine VA.take (i := 2) rfl (by kernel_rfl) (by kernel_rfl) (by kernel_rfl) rfl rfl (OpV.indexAddr_E rfl Tryz.underlying30 Tryz.sizeOf94 rfl rfl rfl (by omega)) ?_
   refine VA.take (i := 3) rfl (by kernel_rfl) (by kernel_rfl) (by kernel_rfl) rfl rfl (OpV.loadK_at rfl hB OutW.wi0 Tryz.isAgg94 Tryz.sizeOf94 rfl rfl) ?_
   refine VA.take (i := 4) rfl (by kernel_rfl) (by kernel_rfl) (by kernel_rfl) rfl rfl (OpV.move (.inl rfl) rfl) ?_
   refine VA.take (i := 5) rfl (by kernel_rfl) (by kernel_rfl) (by kernel_rfl) rfl rfl (OpV.move (.inl rfl) rfl) ?_
   refine VA.take (i := 6) rfl (by kernel_rfl) (by kernel_rfl) (by kernel_rfl) rfl rfl (OpV.indexAddr_E rfl Tryz.underlying30 Tryz.sizeOf94 rfl rfl rfl (by omega)) ?_
   refine VA.take (i := 7) rfl (by kernel_rfl) (by kernel_rfl) (by kernel_rfl) rfl rfl (OpV.loadK_at rfl hB OutW.wi0 Tryz.isAgg94 Tryz.sizeOf94 rfl rfl) ?_
   refine VA.take (i := 8) rfl (by kernel_rfl) (by kernel_rfl) (by kernel_rfl) rfl rfl (OpV.aneq rfl Tryz.underlying94 (by kernel_rfl) (by kernel_rfl) rfl rfl (EqFs.int Tryz.underlying3 Tryz.isAgg3 rfl (by decide) (EqFs.int Tryz.underlying3 Tryz.isAgg3 rfl (by decide) (EqFs.int Tryz.underlying3 Tryz.isAgg3 rfl (by decide) (EqFs.bool Tryz.underlying4 Tryz.isAgg4 rfl (by decide) (EqFs.nil _)))))) ?_
   refine VA.done (by kernel_rfl) ?_
   refine VC.cond rfl (fun h2b => ?_) (fun h2b => ?_)
   ·have h2 := h2b
    try simp only [qqT, qqF, qqN, qqM, qqL, qqE] at h2
    refine VC.sr ?_
    refine VO.ma rfl rfl rfl rfl ?_
    refine VO.nil ?_
    refine VC.ret ?_
    exact Exists.intro _ (And.intro (RetN.one Tryz.results102 (ResN.v rfl)) (by first | rw [eqLs_len (by omega)] | rw [eqLs_at (d := default) (q := q) (by omega) (not_true_false h2b)] | rw [eqLs_all (d := default) (by omega) (fun j hj => hn j (by omega))]))
   ·have h2 := h2b
    try simp only [qqT, qqF, qqN, qqM, qqL, qqE] at h2
    refine VC.skip ?_
    refine VC.region ?_
    refine VO.val rfl rfl (OpV.add rfl rfl rfl (by unfold fits; omega)) ?_
    refine VO.mv rfl rfl rfl rfl ?_
    refine VO.nil ?_
    exact Exists.intro (⟨q + 1, by omega, lt_succ_cases hn (not_false_true h2b)⟩) (And.intro (Le.mk hB [] ⟨rfl, rfl, rfl, rfl, trivial⟩ rfl rfl (Nat.le_refl _)) (by first | omega | (show _ < _; omega) | (simp only []; omega)))
  ·have aH2 := aH2b
   try simp only [qqT, qqF, qqN, qqM, qqL, qqE] at aH2
   refine VC.exit ?_
   refine VC.sr ?_
   refine VO.ma rfl rfl rfl rfl ?_
   refine VO.nil ?_
   refine VC.ret ?_
   exact Exists.intro _ (And.intro (RetN.one Tryz.results102 (ResN.v rfl)) (by first | rw [eqLs_len (by omega)] | rw [eqLs_at (d := default) (q := q) (by omega) (not_true_false h2b)] | rw [eqLs_all (d := default) (by omega) (fun j hj => hn j (by omega))]))
set_option maxRecDepth 100000 in
theorem slices_Equal_ipair {xs ys : List IPair} (hl : xs.length ≤ 1000000000) (hl' : ys.length ≤ 1000000000) :
  SpecN Tryz.prog 53 [avL xs, avL ys] (fun y => y = avB (eqLs eqIp xs ys)) := by
 refine SpecN.of_VCN Tryz.func53 rfl Tryz.ntmps53 (Nle rfl) fun w A hB => ?_
 have hnew : True := trivial
 refine VC.sr ?_
 refine VO.ma rfl rfl rfl rfl ?_
 refine VO.nil ?_
 refine VC.seq ?_
 refine VC.sr ?_
 refine VO.mv rfl rfl rfl rfl ?_
 refine VO.val rfl rfl (OpV.len_im rfl Tryz.underlying98 rfl) ?_
 refine VO.mv rfl rfl rfl rfl ?_
 refine VO.val rfl rfl (OpV.len_im rfl Tryz.underlying98 rfl) ?_
 refine VO.val rfl rfl (OpV.neq rfl rfl rfl) ?_
 refine VO.nil ?_
 refine VC.cond rfl (fun aH1b => ?_) (fun aH1b => ?_)
 ·have aH1 := aH1b
  try simp only [qqT, qqF, qqN, qqM, qqL, qqE] at aH1
  refine VC.sr ?_
  refine VO.ma rfl rfl rfl rfl ?_
  refine VO.nil ?_
  refine VC.ret ?_
  exact Exists.intro _ (And.intro (RetN.one Tryz.results53 (ResN.v rfl)) (by first | rw [eqLs_len (by omega)] | rw [eqLs_at (d := default) (q := q) (by omega) (not_true_false h2b)] | rw [eqLs_all (d := default) (by omega) (fun j hj => hn j (by omega))]))
 ·have aH1 := aH1b
  try simp only [qqT, qqF, qqN, qqM, qqL, qqE] at aH1
  refine VC.skip ?_
  refine VC.seq ?_
  refine VC.sr ?_
  refine VO.mv rfl rfl rfl rfl ?_
  refine VO.val rfl rfl (OpV.len_im rfl Tryz.underlying98 rfl) ?_
  refine VO.mv rfl rfl rfl rfl ?_
  refine VO.nil ?_
  refine VC.block ?_
  refine VC.loopK [(0, _), (1, _), (12, _)] ⟨rfl, rfl, rfl, trivial⟩ ({q : Nat // q ≤ xs.length ∧ ∀ j, j < q → eqIp (xs.getD j default) (ys.getD j default) = true}) (fun (iZ : {q : Nat // q ≤ xs.length ∧ ∀ j, j < q → eqIp (xs.getD j default) (ys.getD j default) = true}) => match iZ with | ⟨q, hq, hn⟩ => [(13, avI (q : Int))]) (fun (iZ : {q : Nat // q ≤ xs.length ∧ ∀ j, j < q → eqIp (xs.getD j default) (ys.getD j default) = true}) => match iZ with | ⟨q, hq, hn⟩ => []) (fun (iZ : {q : Nat // q ≤ xs.length ∧ ∀ j, j < q → eqIp (xs.getD j default) (ys.getD j default) = true}) => match iZ with | ⟨q, hq, hn⟩ => 0) (fun (iZ : {q : Nat // q ≤ xs.length ∧ ∀ j, j < q → eqIp (xs.getD j default) (ys.getD j default) = true}) => match iZ with | ⟨q, hq, hn⟩ => xs.length - q) ⟨0, Nat.zero_le _, fun j hj => absurd hj (Nat.not_lt_zero j)⟩ (Le.mk hB [] ⟨rfl, rfl, rfl, rfl, trivial⟩ rfl rfl (Nat.le_refl _)) ?_
  rintro ⟨q, hq, hn⟩
  show VC _ _ _ _ ⟨[(13, avI (q : Int))] ++ [(0, _), (1, _), (12, _)], [], 0⟩
  refine VC.sr ?_
  refine VO.val rfl rfl (OpV.lss rfl rfl rfl) ?_
  refine VO.nil ?_
  refine VC.seq ?_
  refine VC.cond rfl (fun aH2b => ?_) (fun aH2b => ?_)
  ·have aH2 := aH2b
   try simp only [qqT, qqF, qqN, qqM, qqL, qqE] at aH2
   refine VC.skip ?_
   refine VC.seq ?_
   refine VC.block ?_
   refine VC.sr ?_
   refine VO.mv rfl rfl rfl rfl ?_
   refine VO.ma rfl rfl rfl rfl ?_
   refine VO.nil ?_
   refine VC.seq ?_
   refine VC.draw (fun _ => NoB) hB (by kernel_rfl) ?_
   refine VA.take (i := 0) rfl (by kernel_rfl) (by kernel_rfl) (by kernel_rfl) rfl rfl (OpV.move (.inl rfl) rfl) ?_
   refine VA.take (i := 1) rfl (by kernel_rfl) (by kernel_rfl) (by kernel_rfl) rfl rfl (OpV.move (.inl rfl) rfl) ?_
   refine VA.take (i := 2) rfl (by kernel_rfl) (by kernel_rfl) (by kernel_rfl) rfl rfl (OpV.indexAddr_E rfl Tryz.underlying98 Tryz.sizeOf103 rfl rfl rfl (by omega)) ?_
   refine VA.take (i := 3) rfl (by kernel_rfl) (by kernel_rfl) (by kernel_rfl) rfl rfl (OpV.loadK_at rfl hB OutW.wi0 Tryz.isAgg103 Tryz.sizeOf103 rfl rfl) ?_
   refine VA.take (i := 4) rfl (by kernel_rfl) (by kernel_rfl) (by kernel_rfl) rfl rfl (OpV.move (.inl rfl) rfl) ?_
   refine VA.take (i := 5) rfl (by kernel_rfl) (by kernel_rfl) (by kernel_rfl) rfl rfl (OpV.move (.inl rfl) rfl) ?_
   refine VA.take (i := 6) rfl (by kernel_rfl) (by kernel_rfl) (by kernel_rfl) rfl rfl (OpV.indexAddr_E rfl Tryz.underlying98 Tryz.sizeOf103 rfl rfl rfl (by omega)) ?_
   refine VA.take (i := 7) rfl (by kernel_rfl) (by kernel_rfl) (by kernel_rfl) rfl rfl (OpV.loadK_at rfl hB OutW.wi0 Tryz.isAgg103 Tryz.sizeOf103 rfl rfl) ?_
   refine VA.take (i := 8) rfl (by kernel_rfl) (by kernel_rfl) (by kernel_rfl) rfl rfl (OpV.arr2neq rfl Tryz.underlying103 Tryz.underlying3 Tryz.sizeOf3 Tryz.isAgg3 (by kernel_rfl) rfl rfl rfl rfl) ?_
   refine VA.done (by kernel_rfl) ?_
   refine VC.cond rfl (fun h2b => ?_) (fun h2b => ?_)
   ·have h2 := h2b
    try simp only [qqT, qqF, qqN, qqM, qqL, qqE] at h2
    refine VC.sr ?_
    refine VO.ma rfl rfl rfl rfl ?_
    refine VO.nil ?_
    refine VC.ret ?_
    exact Exists.intro _ (And.intro (RetN.one Tryz.results53 (ResN.v rfl)) (by first | rw [eqLs_len (by omega)] | rw [eqLs_at (d := default) (q := q) (by omega) (not_true_false h2b)] | rw [eqLs_all (d := default) (by omega) (fun j hj => hn j (by omega))]))
   ·have h2 := h2b
    try simp only [qqT, qqF, qqN, qqM, qqL, qqE] at h2
    refine VC.skip ?_
    refine VC.region ?_
    refine VO.val rfl rfl (OpV.add rfl rfl rfl (by unfold fits; omega)) ?_
    refine VO.mv rfl rfl rfl rfl ?_
    refine VO.nil ?_
    exact Exists.intro (⟨q + 1, by omega, lt_succ_cases hn (not_false_true h2b)⟩) (And.intro (Le.mk hB [] ⟨rfl, rfl, rfl, rfl, trivial⟩ rfl rfl (Nat.le_refl _)) (by first | omega | (show _ < _; omega) | (simp only []; omega)))
  ·have aH2 := aH2b
   try simp only [qqT, qqF, qqN, qqM, qqL, qqE] at aH2
   refine VC.exit ?_
   refine VC.sr ?_
   refine VO.ma rfl rfl rfl rfl ?_
   refine VO.nil ?_
   refine VC.ret ?_
   exact Exists.intro _ (And.intro (RetN.one Tryz.results53 (ResN.v rfl)) (by first | rw [eqLs_len (by omega)] | rw [eqLs_at (d := default) (q := q) (by omega) (not_true_false h2b)] | rw [eqLs_all (d := default) (by omega) (fun j hj => hn j (by omega))]))
def samePan (a b : PanS) : Bool := decide (a.wide = b.wide) && (decide (a.high = b.high) && eqLs eqSl a.slots b.slots)
theorem samePan_self (a : PanS) : samePan a a = true := by simp [samePan, eqLs_self eqSl_self]
set_option maxRecDepth 100000 in
theorem rf_SamePanel {a b : PanS} (hl : a.slots.length ≤ 1000000000) (hl' : b.slots.length ≤ 1000000000) :
  SpecN Tryz.prog 54 [avPan a, avPan b] (fun y => y = avB (samePan a b)) := by
 refine SpecN.of_VCN Tryz.func54 rfl Tryz.ntmps54 (Nle rfl) fun w A hB => ?_
 have hnew : True := trivial
 refine VC.sr ?_
 refine VO.op rfl (OpE.box rfl hB rfl rfl rfl ?_)
 intro g2
 refine VO.op rfl (OpE.box rfl hB rfl rfl rfl ?_)
 intro g3
 refine VO.ma rfl rfl rfl rfl ?_
 refine VO.nil ?_
 refine VC.sr ?_
 refine VO.val rfl rfl (OpV.fieldAddrO 0 rfl Tryz.underlying32 rfl rfl Tryz.sizeOf3 rfl) ?_
 refine VO.val rfl rfl (OpV.load_own (i := 0) rfl hB Tryz.isAgg3 rfl rfl rfl (fun h => h)) ?_
 refine VO.val rfl rfl (OpV.fieldAddrO 0 rfl Tryz.underlying32 rfl rfl Tryz.sizeOf3 rfl) ?_
 refine VO.val rfl rfl (OpV.load_own (i := 1) rfl hB Tryz.isAgg3 rfl rfl rfl (fun h => h)) ?_
 refine VO.val rfl rfl (OpV.eql rfl rfl rfl) ?_
 refine VO.mv rfl rfl rfl rfl ?_
 refine VO.opG rfl rfl rfl rfl (fun aK1b => ?_) (fun aK1b => ?_)
 ·replace aK1b : _ = true := aK1b
  have aK1 := aK1b
  try simp only [qqT, qqF, qqN, qqM, qqL, qqE] at aK1
  refine OpE.val (W := NoB) (OpV.fieldAddrO 1 rfl Tryz.underlying32 rfl rfl Tryz.sizeOf3 rfl) rfl ?_
  refine VO.opY rfl rfl rfl rfl aK1b ?_
  refine OpE.val (W := NoB) (OpV.load_own (i := 0) rfl hB Tryz.isAgg3 rfl rfl rfl (fun h => h)) rfl ?_
  refine VO.opY rfl rfl rfl rfl aK1b ?_
  refine OpE.val (W := NoB) (OpV.fieldAddrO 1 rfl Tryz.underlying32 rfl rfl Tryz.sizeOf3 rfl) rfl ?_
  refine VO.opY rfl rfl rfl rfl aK1b ?_
  refine OpE.val (W := NoB) (OpV.load_own (i := 1) rfl hB Tryz.isAgg3 rfl rfl rfl (fun h => h)) rfl ?_
  refine VO.opY rfl rfl rfl rfl aK1b ?_
  refine OpE.val (W := NoB) (OpV.eql rfl rfl rfl) rfl ?_
  refine VO.val rfl rfl (OpV.pickT rfl rfl rfl rfl aK1b) ?_
  refine VO.mv rfl rfl rfl rfl ?_
  refine VO.opG rfl rfl rfl rfl (fun aK2b => ?_) (fun aK2b => ?_)
  ·replace aK2b : _ = true := aK2b
   have aK2 := aK2b
   try simp only [qqT, qqF, qqN, qqM, qqL, qqE] at aK2
   refine OpE.val (W := NoB) (OpV.fieldAddrO 2 rfl Tryz.underlying32 rfl rfl Tryz.sizeOf30 rfl) rfl ?_
   refine VO.opY rfl rfl rfl rfl aK2b ?_
   refine OpE.val (W := NoB) (OpV.load_own (i := 0) rfl hB Tryz.isAgg30 rfl rfl rfl (fun h => h)) rfl ?_
   refine VO.opY rfl rfl rfl rfl aK2b ?_
   refine OpE.val (W := NoB) (OpV.fieldAddrO 2 rfl Tryz.underlying32 rfl rfl Tryz.sizeOf30 rfl) rfl ?_
   refine VO.opY rfl rfl rfl rfl aK2b ?_
   refine OpE.val (W := NoB) (OpV.load_own (i := 1) rfl hB Tryz.isAgg30 rfl rfl rfl (fun h => h)) rfl ?_
   refine VO.opY rfl rfl rfl rfl aK2b ?_
   refine OpE.call rfl hB rfl Tryz.call102 rfl (SpecN.spec (slices_Equal_slot hl hl')) ?_
   rintro _ rfl
   refine VO.val rfl rfl (OpV.pickT rfl rfl rfl rfl aK2b) ?_
   refine VO.ma rfl rfl rfl rfl ?_
   refine VO.nil ?_
   refine VC.ret ?_
   exact Exists.intro _ (And.intro (RetN.one Tryz.results54 (ResN.v rfl)) (by unfold samePan; simp_all))
  ·replace aK2b : _ = false := aK2b
   have aK2 := aK2b
   try simp only [qqT, qqF, qqN, qqM, qqL, qqE] at aK2
   refine VO.opX rfl rfl rfl rfl aK2b ?_
   refine VO.opX rfl rfl rfl rfl aK2b ?_
   refine VO.opX rfl rfl rfl rfl aK2b ?_
   refine VO.opX rfl rfl rfl rfl aK2b ?_
   refine VO.val rfl rfl (OpV.pickF rfl rfl rfl rfl aK2b) ?_
   refine VO.ma rfl rfl rfl rfl ?_
   refine VO.nil ?_
   refine VC.ret ?_
   exact Exists.intro _ (And.intro (RetN.one Tryz.results54 (ResN.v rfl)) (by unfold samePan; simp_all))
 ·replace aK1b : _ = false := aK1b
  have aK1 := aK1b
  try simp only [qqT, qqF, qqN, qqM, qqL, qqE] at aK1
  refine VO.opX rfl rfl rfl rfl aK1b ?_
  refine VO.opX rfl rfl rfl rfl aK1b ?_
  refine VO.opX rfl rfl rfl rfl aK1b ?_
  refine VO.opX rfl rfl rfl rfl aK1b ?_
  refine VO.val rfl rfl (OpV.pickF rfl rfl rfl rfl aK1b) ?_
  refine VO.mv rfl rfl rfl rfl ?_
  refine VO.opX rfl rfl rfl rfl rfl ?_
  refine VO.opX rfl rfl rfl rfl rfl ?_
  refine VO.opX rfl rfl rfl rfl rfl ?_
  refine VO.opX rfl rfl rfl rfl rfl ?_
  refine VO.opX rfl rfl rfl rfl rfl ?_
  refine VO.val rfl rfl (OpV.pickF rfl rfl rfl rfl rfl) ?_
  refine VO.ma rfl rfl rfl rfl ?_
  refine VO.nil ?_
  refine VC.ret ?_
  exact Exists.intro _ (And.intro (RetN.one Tryz.results54 (ResN.v rfl)) (by unfold samePan; simp_all))
end Go.Proofs.YtceflkkgmmcieaaGreatDoor
namespace Go.Proofs.YtceflkkgmmcieaaGreatDoor
open Go.RowKit
set_option linter.unusedVariables false
set_option linter.unusedSimpArgs false
def turnN (p : ProdS) (n : PanS) : Nat → PanS
 | 0 => n
 | i + 1 => turnP p (turnN p n i)
theorem turnN_len (p : ProdS) (n : PanS) : ∀ i, (turnN p n i).slots.length = n.slots.length
 | 0 => rfl
 | i + 1 => by rw [turnN, turnP]; simp [turnN_len p n i]
theorem sz_next {p : ProdS} {q : Int} (hq : 0 ≤ q ∧ q ≤ 3) : szW p (Int.tmod (q + 1) 4) = szH p q ∧ szH p (Int.tmod (q + 1) 4) = szW p q ∧ 0 ≤ Int.tmod (q + 1) 4 ∧ Int.tmod (q + 1) 4 ≤ 3 := by
 rcases (show q = 0 ∨ q = 1 ∨ q = 2 ∨ q = 3 by omega) with h | h | h | h <;> subst h <;> exact ⟨rfl, rfl, by decide, by decide⟩
theorem pl_next {p : ProdS} {q x y : Int} (hq : 0 ≤ q ∧ q ≤ 3) : plX p (Int.tmod (q + 1) 4) x y = szH p q - plY p q x y ∧ plY p (Int.tmod (q + 1) 4) x y = plX p q x y := by
 rcases (show q = 0 ∨ q = 1 ∨ q = 2 ∨ q = 3 by omega) with h | h | h | h <;> subst h
 ·exact ⟨rfl, rfl⟩
 ·exact ⟨rfl, rfl⟩
 ·exact ⟨by show y = p.high - (p.high - y); omega, rfl⟩
 ·exact ⟨by show x = p.wide - (p.wide - x); omega, rfl⟩
theorem turn_four {p : ProdS} {n : PanS} (h : panelF p n = 0) : turnN p n 4 = n := by
 have hpn := panOk (panelF_0 h).2
 show PanS.mk n.wide n.high ((((n.slots.map (turnS p n)).map (turnS p (turnP p n))).map (turnS p (turnP p (turnP p n)))).map (turnS p (turnP p (turnP p (turnP p n))))) = n
 have hs : ((((n.slots.map (turnS p n)).map (turnS p (turnP p n))).map (turnS p (turnP p (turnP p n)))).map (turnS p (turnP p (turnP p (turnP p n))))) = n.slots := by
  apply List.ext_getElem (by simp)
  intro i h1 h2
  have hsl := (hpn.all i h2).2.2
  rw [List.getD_eq_getElem?_getD, List.getElem?_eq_getElem h2] at hsl
  simp only [Option.getD_some] at hsl
  simp only [List.getElem_map]
  generalize n.slots[i] = s at hsl
  obtain ⟨a1, a2, a3⟩ := sz_next (p := p) hsl
  obtain ⟨b1, b2, b3⟩ := sz_next (p := p) a3
  obtain ⟨c1, c2, c3⟩ := sz_next (p := p) b3
  have e4 : Int.tmod (Int.tmod (Int.tmod (Int.tmod (s.quarter + 1) 4 + 1) 4 + 1) 4 + 1) 4 = s.quarter := by
   rcases (show s.quarter = 0 ∨ s.quarter = 1 ∨ s.quarter = 2 ∨ s.quarter = 3 by omega) with h | h | h | h <;> rw [h] <;> rfl
  simp only [turnS, turnP]
  rw [c2, b1, b2, a1, a2, e4]
  cases s
  simp only [SlotS.mk.injEq, and_true]
  omega
 rw [hs]
theorem turn_err {p : ProdS} {n : PanS} (h : panelF p n = 0) (h1 : turnE p n ≠ 0) : turnE p n = 1 := by
 have hpn := panOk (panelF_0 h).2
 unfold turnE at h1 ⊢
 rw [if_neg (by omega)] at h1 ⊢
 have hw : (outR (turnP p n).wide 1 500000 || outR (turnP p n).high 1 500000) = false := by
  show (outR n.high 1 500000 || outR n.wide 1 500000) = false
  simp only [outR, Bool.or_eq_false_iff, decide_eq_false_iff_not]
  have := hpn.wide; have := hpn.high
  omega
 unfold panF at h1 ⊢
 rw [if_neg (by rw [hw]; simp), if_neg (by show ¬ 100 < (n.slots.map (turnS p n)).length; rw [List.length_map]; have := hpn.len; omega)] at h1 ⊢
 split at h1
 ·rename_i hx; rw [if_pos hx]
 ·exact absurd rfl h1
theorem turn_ok {p : ProdS} {n : PanS} (h : panelF p n = 0) (h1 : turnE p n = 0) : turnR p n = turnP p n ∧ panelF p (turnP p n) = 0 := by
 refine ⟨by rw [turnR, if_pos h1], ?_⟩
 unfold turnE at h1
 rw [if_neg (by omega)] at h1
 rw [panelF, if_neg (by have := (panelF_0 h).1; omega)]
 exact h1
theorem numsL_congr2 {α : Type} [Inhabited α] {f g : α → Bool} {l r : List α} : ∀ q, (∀ j, j < q → f (l.getD j default) = g (r.getD j default)) → numsL f l q = numsL g r q
 | 0, _ => rfl
 | q + 1, h => by rw [numsL_succ, numsL_succ, numsL_congr2 q fun j hj => h j (by omega), h q (by omega)]
theorem rowN_congr2 {α : Type} [Inhabited α] {f g : α → α → Bool} {l r : List α} {i : Nat} (h : ∀ j, j < l.length → f (l.getD i default) (l.getD j default) = g (r.getD i default) (r.getD j default)) : ∀ k, k ≤ l.length → i < k → rowN f l i k = rowN g r i k
 | 0, _, h0 => by omega
 | k + 1, hk, h0 => by
  by_cases e : i = k
  ·subst e; rw [rowN_0, rowN_0]
  ·rw [rowN_succ f l (by omega), rowN_succ g r (by omega), rowN_congr2 h k (by omega) (by omega), h k (by omega)]
theorem pairN_congr2 {α : Type} [Inhabited α] {f g : α → α → Bool} {l r : List α} (hl : l.length = r.length) (h : ∀ i j, i < l.length → j < l.length → f (l.getD i default) (l.getD j default) = g (r.getD i default) (r.getD j default)) : ∀ q, q ≤ l.length → pairN f l q = pairN g r q
 | 0, _ => rfl
 | q + 1, hq => by
  rw [pairN_succ, pairN_succ, pairN_congr2 hl h q (by omega), ← hl, Nat.max_eq_right hq, rowN_congr2 (fun j hj => h q j (by omega) hj) _ (Nat.le_refl _) (by omega)]
def spotT (n : PanS) (y : SpotS) : SpotS := ⟨y.slot, y.name, n.high - y.y, y.x, Int.tmod (y.quarter + 1) 4⟩
theorem turn_get {p : ProdS} {n : PanS} {i : Nat} (hi : i < n.slots.length) : (turnP p n).slots.getD i default = turnS p n (n.slots.getD i default) := by
 show (n.slots.map (turnS p n)).getD i default = _
 simp [List.getD_eq_getElem?_getD, hi]
theorem spotQ_turn {p : ProdS} {n : PanS} (h : panelF p n = 0) : ∀ q, q ≤ n.slots.length → spotQ p (turnP p n) q = (spotQ p n q).map (spotT n)
 | 0, _ => rfl
 | q + 1, hq => by
  have hz := panelF_0 h
  have hpn := panOk hz.2
  have hok := prodOk hz.1
  have hg := turn_get (p := p) (n := n) (i := q) (by omega)
  have hsl := (hpn.all q (by omega)).2.2
  have hsk : ((turnP p n).slots.getD q default).skip = (n.slots.getD q default).skip := by rw [hg]; rfl
  cases e : (n.slots.getD q default).skip with
  | true => rw [spotQ_skip (hsk.trans e), spotQ_skip e, spotQ_turn h q (by omega)]
  | false =>
   rw [spotQ_some (hsk.trans e), spotQ_some e, spotQ_turn h q (by omega), List.map_append, List.map_map]
   congr 1
   apply List.map_congr_left
   intro c hc
   obtain ⟨j, hj, rfl⟩ := List.getElem_of_mem hc
   have hq4 := (placeE_zero (hok.all j hj)).2.2
   rw [List.getD_eq_getElem?_getD, List.getElem?_eq_getElem hj] at hq4
   simp only [Option.getD_some] at hq4
   simp only [Function.comp, spotF, hg]
   generalize n.slots.getD q default = s at hsl
   generalize p.places[j] = c at hq4
   obtain ⟨p1, p2⟩ := pl_next (p := p) (x := c.x) (y := c.y) hsl
   have h4 : Int.tmod (Int.tmod (s.quarter + 1) 4 + c.quarter) 4 = Int.tmod (Int.tmod (s.quarter + c.quarter) 4 + 1) 4 := by
    rcases (show s.quarter = 0 ∨ s.quarter = 1 ∨ s.quarter = 2 ∨ s.quarter = 3 by omega) with h1 | h1 | h1 | h1 <;> rcases (show c.quarter = 0 ∨ c.quarter = 1 ∨ c.quarter = 2 ∨ c.quarter = 3 by omega) with h2 | h2 | h2 | h2 <;> rw [h1, h2] <;> rfl
   have h5 : n.high - s.y - szH p s.quarter + (szH p s.quarter - plY p s.quarter c.x c.y) = n.high - (s.y + plY p s.quarter c.x c.y) := by omega
   simp only [spotS, spotT, turnS, p1, p2, h4, h5]
structure TurnF (p : ProdS) (n t : PanS) : Prop where
 ok : panelF p t = 0
 outs : outsR p t = outsR p n
 ovs : ovsR p t = ovsR p n
 len : (spotsR p t).length = (spotsR p n).length
 at_ : ∀ r, r < (spotsR p n).length → ((spotsR p t).getD r default).x = n.high - ((spotsR p n).getD r default).y ∧ ((spotsR p t).getD r default).y = ((spotsR p n).getD r default).x ∧ ((spotsR p t).getD r default).quarter = Int.tmod (((spotsR p n).getD r default).quarter + 1) 4
 bd : ∀ r, r < (spotsR p n).length → (0 ≤ ((spotsR p n).getD r default).y ∧ ((spotsR p n).getD r default).y ≤ 1000000) ∧ (0 ≤ ((spotsR p n).getD r default).quarter ∧ ((spotsR p n).getD r default).quarter ≤ 3)
 high : 1 ≤ n.high ∧ n.high ≤ 500000
theorem turnF {p : ProdS} {n : PanS} (h : panelF p n = 0) (h1 : turnE p n = 0) : TurnF p n (turnP p n) := by
 obtain ⟨_, h2⟩ := turn_ok h h1
 have hz := panelF_0 h
 have hpn := panOk hz.2
 have htn := panOk (panelF_0 h2).2
 have hok := prodOk hz.1
 have hlen : (turnP p n).slots.length = n.slots.length := by show (n.slots.map _).length = _; simp
 have hxy : ∀ i, i < n.slots.length → 0 ≤ n.high - (n.slots.getD i default).y - szH p (n.slots.getD i default).quarter := fun i hi => by
  have := (htn.all i (by omega)).1.1
  rw [turn_get hi] at this
  exact this
 have hsp : spotsR p (turnP p n) = (spotsR p n).map (spotT n) := by
  rw [spotsR, spotsR, if_pos h, if_pos h2, hlen, spotQ_turn h _ (Nat.le_refl _)]
 refine ⟨h2, ?_, ?_, by rw [hsp, List.length_map], fun r hr => ?_, fun r hr => ?_, hpn.high⟩
 ·rw [outsR, outsR, if_pos h, if_pos h2, outL, outL, hlen]
  refine numsL_congr2 _ fun j hj => ?_
  rw [turn_get hj]
  have hb := hxy j hj
  have hsl := hpn.all j hj
  generalize n.slots.getD j default = s at hb hsl
  obtain ⟨a1, a2, _⟩ := sz_next (p := p) hsl.2.2
  unfold outO
  simp only [turnS, a1, a2, turnP]
  rw [decide_eq_false (show ¬ n.high - s.y - szH p s.quarter + szH p s.quarter > n.high by omega), decide_eq_false (show ¬ s.y + szH p s.quarter > n.high by omega), Bool.false_or, Bool.or_false]
 ·rw [ovsR, ovsR, if_pos h, if_pos h2, ovL, ovL]
  rw [pairN_congr2 (g := ovO p) (r := n.slots) hlen (fun i j hi hj => ?_) _ (Nat.le_refl _), hlen]
  rw [turn_get (by omega), turn_get (by omega)]
  have hsi := hpn.all i (by omega)
  have hsj := hpn.all j (by omega)
  generalize n.slots.getD i default = s at hsi
  generalize n.slots.getD j default = t at hsj
  obtain ⟨a1, a2, _⟩ := sz_next (p := p) hsi.2.2
  obtain ⟨b1, b2, _⟩ := sz_next (p := p) hsj.2.2
  unfold ovO
  simp only [turnS, a1, a2, b1, b2]
  rw [Bool.eq_iff_iff]
  simp only [Bool.and_eq_true, decide_eq_true_eq]
  constructor <;> intro h <;> refine ⟨?_, ?_, ?_, ?_⟩ <;> omega
 ·rw [hsp]
  have : ((spotsR p n).map (spotT n)).getD r default = spotT n ((spotsR p n).getD r default) := by simp [List.getD_eq_getElem?_getD, hr]
  rw [this]
  exact ⟨rfl, rfl, rfl⟩
 ·have hm : (spotsR p n).getD r default ∈ spotsR p n := by rw [List.getD_eq_getElem?_getD, List.getElem?_eq_getElem hr]; exact List.getElem_mem hr
  rw [spotsR, if_pos h] at hm ⊢
  obtain ⟨i, j, hi, _, hj, e⟩ := spotQ_mem hm
  rw [e]
  have hsl := hpn.all i hi
  have hc := placeE_zero (hok.all j hj)
  have hb := plX_bd (q := (n.slots.getD i default).quarter) hok.wide hok.high hc.1 hc.2.1
  have h4 := Int.tmod_eq_emod_of_nonneg (a := (n.slots.getD i default).quarter + (p.places.getD j default).quarter) (b := 4) (by omega)
  refine ⟨?_, ?_⟩
  ·show 0 ≤ (n.slots.getD i default).y + plY p _ _ _ ∧ (n.slots.getD i default).y + plY p _ _ _ ≤ 1000000; omega
  ·show 0 ≤ Int.tmod _ 4 ∧ Int.tmod _ 4 ≤ 3
   rw [h4]; omega
theorem ovsR_len' {p : ProdS} {n : PanS} (hl : n.slots.length ≤ 1000) : (ovsR p n).length ≤ 1000000000 := by
 unfold ovsR
 split
 ·have := pairN_len (ovO p) n.slots n.slots.length (Nat.le_refl _)
  have h3 : n.slots.length * n.slots.length ≤ 1000 * 1000 := Nat.mul_le_mul hl hl
  unfold ovL
  omega
 ·simp
set_option maxRecDepth 100000 in
set_option maxHeartbeats 40000000 in
theorem fourTurns_any (a0 : Option Addr) (cap0 : Nat) (L : List Int) (w : World) (hin : Inp w a0 L) :
  Calls Tryz.prog 7 #[.slice a0 L.length cap0] w fun e w' => e = .returned (.bool true) ∧ Chg NoB w w' := by
 refine law_calls Tryz.func7 rfl Tryz.ntmps7 (Nle rfl) Tryz.results7 ?_
 have hB := B0.ok w (fun _ => True) 170
 have hnew : True := trivial
 refine VC.sr ?_
 refine VO.ma rfl rfl rfl rfl ?_
 refine VO.nil ?_
 refine VC.sr ?_
 refine VO.mv rfl rfl rfl rfl ?_
 refine VO.val rfl rfl (OpV.build (pls := #[(0, 1), (1, 1)]) rfl Tryz.zeroValue25 Tryz.underlying25 (fun w => by kernel_rfl) rfl rfl) ?_
 refine VO.op rfl (OpE.box rfl hB rfl rfl rfl ?_)
 intro g
 refine VO.ma rfl rfl rfl rfl ?_
 refine VO.nil ?_
 refine VC.stream (i := 0) (sl := [(3, sp g)]) (by exact rfl) (by exact rfl) hin (by exact ⟨rfl, trivial⟩) (fun p hp => by simp at hp; subst hp; exact ⟨_, rfl⟩) (fun w1 hge hB => ?_)
 refine VC.sr ?_
 refine VO.mv rfl rfl rfl rfl ?_
 refine VO.op rfl (OpE.callT' (0) rfl rfl hB rfl Tryz.call38 rfl (rightProduct_T) (by omega) ?_)
 rintro _ ⟨p, hp, rfl⟩
 refine VO.op rfl (OpE.alloc rfl hB rfl Tryz.zeroValue28 rfl ?_)
 intro g4
 refine VO.op rfl (OpE.store (i := 0) rfl hB rfl Tryz.sizeOf28 rfl rfl rfl rfl rfl rfl (Nle rfl) trivial ?_)
 refine VO.nil ?_
 refine VC.sr ?_
 refine VO.mv rfl rfl rfl rfl ?_
 refine VO.val rfl rfl (OpV.loadK_own (i := 0) rfl hB Tryz.isAgg28 Tryz.sizeOf28 rfl rfl rfl (fun h => h)) ?_
 refine VO.op rfl (OpE.callT' (0 + 300) rfl rfl hB rfl Tryz.call47 rfl (rightPanel_T hp.1 hp.2.2) (by omega) ?_)
 rintro _ ⟨n, hn, rfl⟩
 refine VO.op rfl (OpE.alloc rfl hB rfl Tryz.zeroValue32 rfl ?_)
 intro g5
 refine VO.op rfl (OpE.store (i := 1) rfl hB rfl Tryz.sizeOf32 rfl rfl rfl rfl rfl rfl (Nle rfl) trivial ?_)
 refine VO.nil ?_
 refine VC.sr ?_
 refine VO.val rfl rfl (OpV.loadK_own (i := 1) rfl hB Tryz.isAgg32 Tryz.sizeOf32 rfl rfl rfl (fun h => h)) ?_
 refine VO.op rfl (OpE.alloc rfl hB rfl Tryz.zeroValue32 rfl ?_)
 intro g6
 refine VO.op rfl (OpE.store (i := 2) rfl hB rfl Tryz.sizeOf32 rfl rfl rfl rfl rfl rfl (Nle rfl) trivial ?_)
 refine VO.nil ?_
 refine VC.seq ?_
 refine VC.sr ?_
 refine VO.mv rfl rfl rfl rfl ?_
 refine VO.nil ?_
 refine VC.block ?_
 refine VC.loopK [(4, _), (5, _), (6, _)] ⟨rfl, rfl, rfl, trivial⟩ ({i : Nat // i ≤ 4 ∧ panelF p (turnN p n i) = 0}) (fun (iZ : {i : Nat // i ≤ 4 ∧ panelF p (turnN p n i) = 0}) => match iZ with | ⟨i, hi, hF⟩ => [(32, avI (i : Int))]) (fun (iZ : {i : Nat // i ≤ 4 ∧ panelF p (turnN p n i) = 0}) => match iZ with | ⟨i, hi, hF⟩ => [boxProd g4 p 28, boxPan g5 n 32, boxPan g6 (turnN p n i) 32]) (fun (iZ : {i : Nat // i ≤ 4 ∧ panelF p (turnN p n i) = 0}) => match iZ with | ⟨i, hi, hF⟩ => 100000) (fun (iZ : {i : Nat // i ≤ 4 ∧ panelF p (turnN p n i) = 0}) => match iZ with | ⟨i, hi, hF⟩ => 4 - i) ⟨0, Nat.zero_le _, hn.2⟩ (Le.mk hB [0, 1, 2] ⟨rfl, rfl, rfl, rfl, trivial⟩ rfl rfl (Nle rfl)) ?_
 rintro ⟨i, hi, hF⟩
 show VC _ _ _ _ ⟨[(32, avI (i : Int))] ++ [(4, _), (5, _), (6, _)], [boxProd g4 p 28, boxPan g5 n 32, boxPan g6 (turnN p n i) 32], 100000⟩
 have hlm := turnN_len p n i
 refine VC.sr ?_
 refine VO.val rfl rfl (OpV.lss rfl rfl rfl) ?_
 refine VO.nil ?_
 refine VC.seq ?_
 refine VC.cond rfl (fun aH1b => ?_) (fun aH1b => ?_)
 ·have aH1 := aH1b
  try simp only [qqT, qqF, qqN, qqM, qqL, qqE] at aH1
  refine VC.skip ?_
  refine VC.seq ?_
  refine VC.block ?_
  refine VC.sr ?_
  refine VO.mv rfl rfl rfl rfl ?_
  refine VO.ma rfl rfl rfl rfl ?_
  refine VO.nil ?_
  refine VC.seq ?_
  have hlm2 := turnN_len p n (i + 1)
  have hT := panel_Turned (n := turnN p n i) hp.1 (by omega)
  have hok := turn_ok hF
  have her := turn_err hF
  obtain ⟨tr, htr⟩ : ∃ z, turnR p (turnN p n i) = z := ⟨_, rfl⟩
  obtain ⟨te, hte⟩ : ∃ z, turnE p (turnN p n i) = z := ⟨_, rfl⟩
  have hTF : te = 0 → TurnF p (turnN p n i) (turnN p n (i + 1)) := fun h => turnF hF (hte.trans h)
  rw [htr, hte] at hT
  rw [hte] at hok her
  rw [htr] at hok
  refine VC.region ?_
  refine VO.val rfl rfl (OpV.loadK_own (i := 0) rfl hB Tryz.isAgg28 Tryz.sizeOf28 rfl rfl rfl (fun h => h)) ?_
  refine VO.val rfl rfl (OpV.loadK_own (i := 2) rfl hB Tryz.isAgg32 Tryz.sizeOf32 rfl rfl rfl (fun h => h)) ?_
  refine VO.op rfl (OpE.call rfl hB rfl Tryz.call50 rfl (hT) ?_)
  rintro _ rfl
  refine VO.mv rfl rfl rfl rfl ?_
  refine VO.val rfl rfl (OpV.extract rfl rfl rfl) ?_
  refine VO.val rfl rfl (OpV.extract rfl rfl rfl) ?_
  refine VO.op rfl (OpE.alloc rfl hB rfl Tryz.zeroValue32 rfl ?_)
  intro g8
  refine VO.op rfl (OpE.store (i := 3) rfl hB rfl Tryz.sizeOf32 rfl rfl rfl rfl rfl rfl (Nle rfl) trivial ?_)
  refine VO.ma rfl rfl rfl rfl ?_
  refine VO.nil ?_
  refine VC.seq ?_
  refine VC.sr ?_
  refine VO.mv rfl rfl rfl rfl ?_
  refine VO.val rfl rfl (OpV.neq rfl rfl rfl) ?_
  refine VO.nil ?_
  refine VC.cond rfl (fun h1b => ?_) (fun h1b => ?_)
  ·have h1 := h1b
   try simp only [qqT, qqF, qqN, qqM, qqL, qqE] at h1
   refine VC.sr ?_
   refine VO.mv rfl rfl rfl rfl ?_
   refine VO.val rfl rfl (OpV.eql rfl rfl rfl) ?_
   refine VO.le _ (Le.boolT (t := 44) rfl (decide_eq_true (her h1))) ?_
   refine VO.mv rfl rfl rfl rfl ?_
   refine VO.opY rfl rfl rfl rfl rfl ?_
   refine OpE.call rfl hB rfl Tryz.call33 rfl (SpecN.spec (rk_ready)) ?_
   rintro _ rfl
   refine VO.val rfl rfl (OpV.pickT rfl rfl rfl rfl rfl) ?_
   refine VO.ma rfl rfl rfl rfl ?_
   refine VO.nil ?_
   refine VC.ret ?_
   exact And.intro rfl rfl
  ·have h1 := h1b
   try simp only [qqT, qqF, qqN, qqM, qqL, qqE] at h1
   have h10 : te = 0 := by omega
   obtain ⟨e1, hF2⟩ := hok h10
   have e2 : tr = turnN p n (i + 1) := e1
   subst e2
   have TF := hTF h10
   refine VC.skip ?_
   refine VC.seq ?_
   refine VC.sr ?_
   refine VO.mv rfl rfl rfl rfl ?_
   refine VO.val rfl rfl (OpV.eql rfl rfl rfl) ?_
   refine VO.nil ?_
   refine VC.cond rfl (fun h2b => ?_) (fun h2b => ?_)
   ·have h2 := h2b
    try simp only [qqT, qqF, qqN, qqM, qqL, qqE] at h2
    have ei : turnN p n i = n := by rw [show i = 0 by omega]; rfl
    rw [ei] at TF
    have hO1 := panel_Outside (n := n) hp.1 (by omega)
    have hO2 := panel_Outside (n := turnN p n (i + 1)) hp.1 (by omega)
    have hV1 := panel_Overlaps (n := n) hp.1 (by omega)
    have hV2 := panel_Overlaps (n := turnN p n (i + 1)) hp.1 (by omega)
    have hS1 := panel_Spots (n := n) hp.1 (by omega)
    have hS2 := panel_Spots (n := turnN p n (i + 1)) hp.1 (by omega)
    have hat := TF.at_
    have hsb := TF.bd
    have hsl := TF.len
    have hhi := TF.high
    have hszz : (spotsR p n).length ≤ 100000 := by rw [spotsR, if_pos hn.2]; exact spotQ_bd (Nat.le_refl _) (by omega) (by omega)
    have hol : (outsR p n).length ≤ 1000000000 := outsR_len' (by omega)
    have hvl : (ovsR p n).length ≤ 1000000000 := ovsR_len' (by omega)
    rw [TF.outs, TF.ok] at hO2
    rw [TF.ovs, TF.ok] at hV2
    rw [TF.ok] at hS2
    rw [hn.2] at hO1 hV1 hS1
    obtain ⟨os, hos⟩ : ∃ z, outsR p n = z := ⟨_, rfl⟩
    obtain ⟨vs, hvs⟩ : ∃ z, ovsR p n = z := ⟨_, rfl⟩
    obtain ⟨ss, hss⟩ : ∃ z, spotsR p n = z := ⟨_, rfl⟩
    obtain ⟨ys, hys⟩ : ∃ z, spotsR p (turnN p n (i + 1)) = z := ⟨_, rfl⟩
    rw [hos] at hO1 hO2 hol
    rw [hvs] at hV1 hV2 hvl
    rw [hss] at hS1 hat hsb hsl hszz
    rw [hys] at hS2 hat hsl
    refine VC.seq ?_
    refine VC.le ⟨[(4, _), (5, _), (6, _), (8, _), (32, _)], [.box _ ⟨[_, _, _, _], _, _⟩, .box _ ⟨[_, _, _], _, _⟩, .box _ ⟨[_, _, _], _, _⟩, .box _ ⟨[_, _, _], _, _⟩], 100000⟩ (Le.mk hB [0, 1, 2, 3] ⟨rfl, rfl, rfl, rfl, rfl, trivial⟩ rfl rfl (Nat.le_refl _)) ?_
    refine VC.region ?_
    refine VO.val rfl rfl (OpV.loadK_own (i := 0) rfl hB Tryz.isAgg28 Tryz.sizeOf28 rfl rfl rfl (fun h => h)) ?_
    refine VO.val rfl rfl (OpV.loadK_own (i := 1) rfl hB Tryz.isAgg32 Tryz.sizeOf32 rfl rfl rfl (fun h => h)) ?_
    refine VO.op rfl (OpE.call rfl hB rfl Tryz.call48 rfl (SpecN.spec (hO1)) ?_)
    rintro _ rfl
    refine VO.mv rfl rfl rfl rfl ?_
    refine VO.val rfl rfl (OpV.extract rfl rfl rfl) ?_
    refine VO.val rfl rfl (OpV.extract rfl rfl rfl) ?_
    refine VO.ma rfl rfl rfl rfl ?_
    refine VO.ma rfl rfl rfl rfl ?_
    refine VO.nil ?_
    refine VC.seq ?_
    refine VC.le ⟨[(4, _), (5, _), (6, _), (8, _), (32, _), (10, _), (11, _)], [.box _ ⟨[_, _, _, _], _, _⟩, .box _ ⟨[_, _, _], _, _⟩, .box _ ⟨[_, _, _], _, _⟩, .box _ ⟨[_, _, _], _, _⟩], 100000⟩ (Le.mk hB [0, 1, 2, 3] ⟨rfl, rfl, rfl, rfl, rfl, rfl, rfl, trivial⟩ rfl rfl (Nat.le_refl _)) ?_
    refine VC.region ?_
    refine VO.val rfl rfl (OpV.loadK_own (i := 0) rfl hB Tryz.isAgg28 Tryz.sizeOf28 rfl rfl rfl (fun h => h)) ?_
    refine VO.val rfl rfl (OpV.loadK_own (i := 3) rfl hB Tryz.isAgg32 Tryz.sizeOf32 rfl rfl rfl (fun h => h)) ?_
    refine VO.op rfl (OpE.call rfl hB rfl Tryz.call48 rfl (SpecN.spec (hO2)) ?_)
    rintro _ rfl
    refine VO.mv rfl rfl rfl rfl ?_
    refine VO.val rfl rfl (OpV.extract rfl rfl rfl) ?_
    refine VO.val rfl rfl (OpV.extract rfl rfl rfl) ?_
    refine VO.ma rfl rfl rfl rfl ?_
    refine VO.ma rfl rfl rfl rfl ?_
    refine VO.nil ?_
    refine VC.seq ?_
    refine VC.le ⟨[(4, _), (5, _), (6, _), (8, _), (32, _), (10, _), (11, _), (12, _), (13, _)], [.box _ ⟨[_, _, _, _], _, _⟩, .box _ ⟨[_, _, _], _, _⟩, .box _ ⟨[_, _, _], _, _⟩, .box _ ⟨[_, _, _], _, _⟩], 100000⟩ (Le.mk hB [0, 1, 2, 3] ⟨rfl, rfl, rfl, rfl, rfl, rfl, rfl, rfl, rfl, trivial⟩ rfl rfl (Nat.le_refl _)) ?_
    refine VC.region ?_
    refine VO.val rfl rfl (OpV.loadK_own (i := 0) rfl hB Tryz.isAgg28 Tryz.sizeOf28 rfl rfl rfl (fun h => h)) ?_
    refine VO.val rfl rfl (OpV.loadK_own (i := 1) rfl hB Tryz.isAgg32 Tryz.sizeOf32 rfl rfl rfl (fun h => h)) ?_
    refine VO.op rfl (OpE.call rfl hB rfl Tryz.call51 rfl (SpecN.spec (hV1)) ?_)
    rintro _ rfl
    refine VO.mv rfl rfl rfl rfl ?_
    refine VO.val rfl rfl (OpV.extract rfl rfl rfl) ?_
    refine VO.val rfl rfl (OpV.extract rfl rfl rfl) ?_
    refine VO.ma rfl rfl rfl rfl ?_
    refine VO.ma rfl rfl rfl rfl ?_
    refine VO.nil ?_
    refine VC.seq ?_
    refine VC.le ⟨[(4, _), (5, _), (6, _), (8, _), (32, _), (10, _), (11, _), (12, _), (13, _), (14, _), (15, _)], [.box _ ⟨[_, _, _, _], _, _⟩, .box _ ⟨[_, _, _], _, _⟩, .box _ ⟨[_, _, _], _, _⟩, .box _ ⟨[_, _, _], _, _⟩], 100000⟩ (Le.mk hB [0, 1, 2, 3] ⟨rfl, rfl, rfl, rfl, rfl, rfl, rfl, rfl, rfl, rfl, rfl, trivial⟩ rfl rfl (Nat.le_refl _)) ?_
    refine VC.region ?_
    refine VO.val rfl rfl (OpV.loadK_own (i := 0) rfl hB Tryz.isAgg28 Tryz.sizeOf28 rfl rfl rfl (fun h => h)) ?_
    refine VO.val rfl rfl (OpV.loadK_own (i := 3) rfl hB Tryz.isAgg32 Tryz.sizeOf32 rfl rfl rfl (fun h => h)) ?_
    refine VO.op rfl (OpE.call rfl hB rfl Tryz.call51 rfl (SpecN.spec (hV2)) ?_)
    rintro _ rfl
    refine VO.mv rfl rfl rfl rfl ?_
    refine VO.val rfl rfl (OpV.extract rfl rfl rfl) ?_
    refine VO.val rfl rfl (OpV.extract rfl rfl rfl) ?_
    refine VO.ma rfl rfl rfl rfl ?_
    refine VO.ma rfl rfl rfl rfl ?_
    refine VO.nil ?_
    refine VC.seq ?_
    refine VC.le ⟨[(4, _), (5, _), (6, _), (8, _), (32, _), (10, _), (11, _), (12, _), (13, _), (14, _), (15, _), (16, _), (17, _)], [.box _ ⟨[_, _, _, _], _, _⟩, .box _ ⟨[_, _, _], _, _⟩, .box _ ⟨[_, _, _], _, _⟩, .box _ ⟨[_, _, _], _, _⟩], 100000⟩ (Le.mk hB [0, 1, 2, 3] ⟨rfl, rfl, rfl, rfl, rfl, rfl, rfl, rfl, rfl, rfl, rfl, rfl, rfl, trivial⟩ rfl rfl (Nat.le_refl _)) ?_
    refine VC.region ?_
    refine VO.val rfl rfl (OpV.loadK_own (i := 0) rfl hB Tryz.isAgg28 Tryz.sizeOf28 rfl rfl rfl (fun h => h)) ?_
    refine VO.val rfl rfl (OpV.loadK_own (i := 1) rfl hB Tryz.isAgg32 Tryz.sizeOf32 rfl rfl rfl (fun h => h)) ?_
    refine VO.op rfl (OpE.call rfl hB rfl Tryz.call17 rfl (SpecN.spec (hS1)) ?_)
    rintro _ rfl
    refine VO.mv rfl rfl rfl rfl ?_
    refine VO.val rfl rfl (OpV.extract rfl rfl rfl) ?_
    refine VO.val rfl rfl (OpV.extract rfl rfl rfl) ?_
    refine VO.ma rfl rfl rfl rfl ?_
    refine VO.ma rfl rfl rfl rfl ?_
    refine VO.nil ?_
    refine VC.seq ?_
    refine VC.le ⟨[(4, _), (5, _), (6, _), (8, _), (32, _), (10, _), (11, _), (12, _), (13, _), (14, _), (15, _), (16, _), (17, _), (18, _), (19, _)], [.box _ ⟨[_, _, _, _], _, _⟩, .box _ ⟨[_, _, _], _, _⟩, .box _ ⟨[_, _, _], _, _⟩, .box _ ⟨[_, _, _], _, _⟩], 100000⟩ (Le.mk hB [0, 1, 2, 3] ⟨rfl, rfl, rfl, rfl, rfl, rfl, rfl, rfl, rfl, rfl, rfl, rfl, rfl, rfl, rfl, trivial⟩ rfl rfl (Nat.le_refl _)) ?_
    refine VC.region ?_
    refine VO.val rfl rfl (OpV.loadK_own (i := 0) rfl hB Tryz.isAgg28 Tryz.sizeOf28 rfl rfl rfl (fun h => h)) ?_
    refine VO.val rfl rfl (OpV.loadK_own (i := 3) rfl hB Tryz.isAgg32 Tryz.sizeOf32 rfl rfl rfl (fun h => h)) ?_
    refine VO.op rfl (OpE.call rfl hB rfl Tryz.call17 rfl (SpecN.spec (hS2)) ?_)
    rintro _ rfl
    refine VO.mv rfl rfl rfl rfl ?_
    refine VO.val rfl rfl (OpV.extract rfl rfl rfl) ?_
    refine VO.val rfl rfl (OpV.extract rfl rfl rfl) ?_
    refine VO.ma rfl rfl rfl rfl ?_
    refine VO.ma rfl rfl rfl rfl ?_
    refine VO.nil ?_
    refine VC.seq ?_
    refine VC.seq ?_
    refine VC.le ⟨[(4, _), (5, _), (6, _), (8, _), (32, _), (10, _), (11, _), (12, _), (13, _), (14, _), (15, _), (16, _), (17, _), (18, _), (19, _), (20, _), (21, _)], [.box _ ⟨[_, _, _, _], _, _⟩, .box _ ⟨[_, _, _], _, _⟩, .box _ ⟨[_, _, _], _, _⟩, .box _ ⟨[_, _, _], _, _⟩], 100000⟩ (Le.mk hB [0, 1, 2, 3] ⟨rfl, rfl, rfl, rfl, rfl, rfl, rfl, rfl, rfl, rfl, rfl, rfl, rfl, rfl, rfl, rfl, rfl, trivial⟩ rfl rfl (Nat.le_refl _)) ?_
    refine VC.region ?_
    refine VO.mv rfl rfl rfl rfl ?_
    refine VO.mv rfl rfl rfl rfl ?_
    refine VO.mv rfl rfl rfl rfl ?_
    refine VO.mv rfl rfl rfl rfl ?_
    refine VO.mv rfl rfl rfl rfl ?_
    refine VO.mv rfl rfl rfl rfl ?_
    refine VO.op rfl (OpE.buildSlice (zc := #[.int .i64 0, .int .i64 0, .int .i64 0, .int .i64 0, .int .i64 0, .int .i64 0]) rfl hB rfl Tryz.underlying139 Tryz.sizeOf37 Tryz.zeroValue37 (by decide) (by decide) (by kernel_rfl) rfl rfl ?_)
    refine VO.le _ (Le.lits (t := 92) (xs := [0, 0, 0, 0, 0, 0]) rfl rfl) ?_
    refine VO.op rfl (OpE.call rfl hB rfl Tryz.call36 rfl (SpecN.spec (rk_errs (by simp))) ?_)
    rintro _ rfl
    refine VO.val rfl rfl (OpV.neq rfl rfl rfl) ?_
    refine VO.le _ (Le.recast (t := 94) (y := avB false) rfl (fun w Z u h => h)) ?_
    refine VO.mv rfl rfl rfl rfl ?_
    refine VO.opY rfl rfl rfl rfl rfl ?_
    refine OpE.val (W := NoB) (OpV.move (.inl rfl) rfl) rfl ?_
    refine VO.opY rfl rfl rfl rfl rfl ?_
    refine OpE.val (W := NoB) (OpV.move (.inl rfl) rfl) rfl ?_
    refine VO.opY rfl rfl rfl rfl rfl ?_
    refine OpE.call rfl hB rfl Tryz.call52 rfl (SpecN.spec (slices_Equal_int hol hol)) ?_
    rintro _ rfl
    refine VO.le _ (Le.boolT (t := 98) rfl (decide_eq_true rfl)) ?_
    refine VO.opY rfl rfl rfl rfl rfl ?_
    refine OpE.val (W := NoB) (OpV.not rfl rfl) rfl ?_
    refine VO.val rfl rfl (OpV.pickF rfl rfl rfl rfl rfl) ?_
    refine VO.mv rfl rfl rfl rfl ?_
    refine VO.opY rfl rfl rfl rfl rfl ?_
    refine OpE.val (W := NoB) (OpV.move (.inl rfl) rfl) rfl ?_
    refine VO.opY rfl rfl rfl rfl rfl ?_
    refine OpE.val (W := NoB) (OpV.move (.inl rfl) rfl) rfl ?_
    refine VO.opY rfl rfl rfl rfl rfl ?_
    refine OpE.call rfl hB rfl Tryz.call53 rfl (SpecN.spec (slices_Equal_ipair hvl hvl)) ?_
    rintro _ rfl
    refine VO.le _ (Le.boolT (t := 104) rfl (eqLs_self eqIp_self _)) ?_
    refine VO.opY rfl rfl rfl rfl rfl ?_
    refine OpE.val (W := NoB) (OpV.not rfl rfl) rfl ?_
    refine VO.val rfl rfl (OpV.pickF rfl rfl rfl rfl rfl) ?_
    refine VO.mv rfl rfl rfl rfl ?_
    refine VO.opY rfl rfl rfl rfl rfl ?_
    refine OpE.val (W := NoB) (OpV.move (.inl rfl) rfl) rfl ?_
    refine VO.opY rfl rfl rfl rfl rfl ?_
    refine OpE.val (W := NoB) (OpV.len_im rfl Tryz.underlying44 rfl) rfl ?_
    refine VO.opY rfl rfl rfl rfl rfl ?_
    refine OpE.val (W := NoB) (OpV.move (.inl rfl) rfl) rfl ?_
    refine VO.opY rfl rfl rfl rfl rfl ?_
    refine OpE.val (W := NoB) (OpV.len_im rfl Tryz.underlying44 rfl) rfl ?_
    refine VO.opY rfl rfl rfl rfl rfl ?_
    refine OpE.val (W := NoB) (OpV.neq rfl rfl rfl) rfl ?_
    refine VO.le _ (Le.recast (t := 112) (y := avB false) rfl (fun w Z u h => by rw [hsl, decide_eq_false (fun e => e rfl)] at h; exact h)) ?_
    refine VO.val rfl rfl (OpV.pickF rfl rfl rfl rfl rfl) ?_
    refine VO.nil ?_
    refine VC.condF rfl rfl ?_
    refine VC.skip ?_
    refine VC.sr ?_
    refine VO.mv rfl rfl rfl rfl ?_
    refine VO.val rfl rfl (OpV.len_im rfl Tryz.underlying44 rfl) ?_
    refine VO.mv rfl rfl rfl rfl ?_
    refine VO.nil ?_
    refine VC.block ?_
    refine VC.loopK [(4, _), (5, _), (6, _), (8, _), (18, _), (20, _), (32, _), (115, _)] ⟨rfl, rfl, rfl, rfl, rfl, rfl, rfl, rfl, trivial⟩ ({r : Nat // r ≤ ss.length}) (fun (iZ : {r : Nat // r ≤ ss.length}) => match iZ with | ⟨r, hr⟩ => [(116, avI (r : Int))]) (fun (iZ : {r : Nat // r ≤ ss.length}) => match iZ with | ⟨r, hr⟩ => [boxProd g4 p 28, boxPan g5 n 32, boxPan g6 (turnN p n i) 32, boxPan g8 (turnN p n (i + 1)) 32]) (fun (iZ : {r : Nat // r ≤ ss.length}) => match iZ with | ⟨r, hr⟩ => 100000) (fun (iZ : {r : Nat // r ≤ ss.length}) => match iZ with | ⟨r, hr⟩ => ss.length - r) ⟨0, Nat.zero_le _⟩ (Le.mk hB [0, 1, 2, 3] ⟨rfl, rfl, rfl, rfl, rfl, rfl, rfl, rfl, rfl, trivial⟩ rfl rfl (Nle rfl)) ?_
    rintro ⟨r, hr⟩
    show VC _ _ _ _ ⟨[(116, avI (r : Int))] ++ [(4, _), (5, _), (6, _), (8, _), (18, _), (20, _), (32, _), (115, _)], [boxProd g4 p 28, boxPan g5 n 32, boxPan g6 (turnN p n i) 32, boxPan g8 (turnN p n (i + 1)) 32], 100000⟩
    refine VC.sr ?_
    refine VO.val rfl rfl (OpV.lss rfl rfl rfl) ?_
    refine VO.nil ?_
    refine VC.seq ?_
    refine VC.cond rfl (fun aH2b => ?_) (fun aH2b => ?_)
    ·have aH2 := aH2b
     try simp only [qqT, qqF, qqN, qqM, qqL, qqE] at aH2
     refine VC.skip ?_
     refine VC.seq ?_
     refine VC.block ?_
     refine VC.sr ?_
     refine VO.mv rfl rfl rfl rfl ?_
     refine VO.ma rfl rfl rfl rfl ?_
     refine VO.nil ?_
     refine VC.seq ?_
     obtain ⟨x1, x2, x3⟩ := hat r (by omega)
     have hbb := hsb r (by omega)
     refine VC.draw (fun _ => NoB) hB (by kernel_rfl) ?_
     refine VA.take (i := 0) rfl (by kernel_rfl) (by kernel_rfl) (by kernel_rfl) rfl rfl (OpV.move (.inl rfl) rfl) ?_
     refine VA.take (i := 1) rfl (by kernel_rfl) (by kernel_rfl) (by kernel_rfl) rfl rfl (OpV.move (.inl rfl) rfl) ?_
     refine VA.take (i := 2) rfl (by kernel_rfl) (by kernel_rfl) (by kernel_rfl) rfl rfl (OpV.indexAddr_E rfl Tryz.underlying44 Tryz.sizeOf41 rfl rfl rfl (by omega)) ?_
     refine VA.take (i := 3) rfl (by kernel_rfl) (by kernel_rfl) (by kernel_rfl) rfl rfl (OpV.fieldAddr_atO 2 rfl Tryz.underlying41 rfl rfl Tryz.sizeOf3 rfl rfl) ?_
     refine VA.take (i := 4) rfl (by kernel_rfl) (by kernel_rfl) (by kernel_rfl) rfl rfl (OpV.load_at rfl hB OutW.wi0 Tryz.isAgg3 rfl rfl) ?_
     refine VA.take (i := 5) rfl (by kernel_rfl) (by kernel_rfl) (by kernel_rfl) rfl rfl (OpV.fieldAddrO 1 rfl Tryz.underlying32 rfl rfl Tryz.sizeOf3 rfl) ?_
     refine VA.take (i := 6) rfl (by kernel_rfl) (by kernel_rfl) (by kernel_rfl) rfl rfl (OpV.load_own (i := 1) rfl hB Tryz.isAgg3 rfl rfl rfl Wi.not0) ?_
     refine VA.take (i := 7) rfl (by kernel_rfl) (by kernel_rfl) (by kernel_rfl) rfl rfl (OpV.move (.inl rfl) rfl) ?_
     refine VA.take (i := 8) rfl (by kernel_rfl) (by kernel_rfl) (by kernel_rfl) rfl rfl (OpV.move (.inl rfl) rfl) ?_
     refine VA.take (i := 9) rfl (by kernel_rfl) (by kernel_rfl) (by kernel_rfl) rfl rfl (OpV.indexAddr_E rfl Tryz.underlying44 Tryz.sizeOf41 rfl rfl rfl (by omega)) ?_
     refine VA.take (i := 10) rfl (by kernel_rfl) (by kernel_rfl) (by kernel_rfl) rfl rfl (OpV.fieldAddr_atO 3 rfl Tryz.underlying41 rfl rfl Tryz.sizeOf3 rfl rfl) ?_
     refine VA.take (i := 11) rfl (by kernel_rfl) (by kernel_rfl) (by kernel_rfl) rfl rfl (OpV.load_at rfl hB OutW.wi0 Tryz.isAgg3 rfl rfl) ?_
     refine VA.take (i := 12) rfl (by kernel_rfl) (by kernel_rfl) (by kernel_rfl) rfl rfl (OpV.sub rfl rfl rfl (by unfold fits; omega)) ?_
     refine VA.take (i := 13) rfl (by kernel_rfl) (by kernel_rfl) (by kernel_rfl) rfl rfl (OpV.neq rfl rfl rfl) ?_
     refine VA.le _ (Le.recast (t := 132) (y := avB false) rfl (fun w Z u h => by rw [decide_eq_false (fun e => e x1)] at h; exact h)) ?_
     refine VA.take (i := 14) rfl (by kernel_rfl) (by kernel_rfl) (by kernel_rfl) rfl rfl (OpV.move (.inl rfl) rfl) ?_
     refine VA.takeY (i := 15) rfl (by kernel_rfl) (by kernel_rfl) (by kernel_rfl) rfl rfl rfl rfl rfl (OpV.move (.inl rfl) rfl) ?_
     refine VA.takeY (i := 16) rfl (by kernel_rfl) (by kernel_rfl) (by kernel_rfl) rfl rfl rfl rfl rfl (OpV.move (.inl rfl) rfl) ?_
     refine VA.takeY (i := 17) rfl (by kernel_rfl) (by kernel_rfl) (by kernel_rfl) rfl rfl rfl rfl rfl (OpV.indexAddr_E rfl Tryz.underlying44 Tryz.sizeOf41 rfl rfl rfl (by omega)) ?_
     refine VA.takeY (i := 18) rfl (by kernel_rfl) (by kernel_rfl) (by kernel_rfl) rfl rfl rfl rfl rfl (OpV.fieldAddr_atO 3 rfl Tryz.underlying41 rfl rfl Tryz.sizeOf3 rfl rfl) ?_
     refine VA.takeY (i := 19) rfl (by kernel_rfl) (by kernel_rfl) (by kernel_rfl) rfl rfl rfl rfl rfl (OpV.load_at rfl hB OutW.wi0 Tryz.isAgg3 rfl rfl) ?_
     refine VA.takeY (i := 20) rfl (by kernel_rfl) (by kernel_rfl) (by kernel_rfl) rfl rfl rfl rfl rfl (OpV.move (.inl rfl) rfl) ?_
     refine VA.takeY (i := 21) rfl (by kernel_rfl) (by kernel_rfl) (by kernel_rfl) rfl rfl rfl rfl rfl (OpV.move (.inl rfl) rfl) ?_
     refine VA.takeY (i := 22) rfl (by kernel_rfl) (by kernel_rfl) (by kernel_rfl) rfl rfl rfl rfl rfl (OpV.indexAddr_E rfl Tryz.underlying44 Tryz.sizeOf41 rfl rfl rfl (by omega)) ?_
     refine VA.takeY (i := 23) rfl (by kernel_rfl) (by kernel_rfl) (by kernel_rfl) rfl rfl rfl rfl rfl (OpV.fieldAddr_atO 2 rfl Tryz.underlying41 rfl rfl Tryz.sizeOf3 rfl rfl) ?_
     refine VA.takeY (i := 24) rfl (by kernel_rfl) (by kernel_rfl) (by kernel_rfl) rfl rfl rfl rfl rfl (OpV.load_at rfl hB OutW.wi0 Tryz.isAgg3 rfl rfl) ?_
     refine VA.takeY (i := 25) rfl (by kernel_rfl) (by kernel_rfl) (by kernel_rfl) rfl rfl rfl rfl rfl (OpV.neq rfl rfl rfl) ?_
     refine VA.le _ (Le.recast (t := 144) (y := avB false) rfl (fun w Z u h => by rw [decide_eq_false (fun e => e x2)] at h; exact h)) ?_
     refine VA.take (i := 26) rfl (by kernel_rfl) (by kernel_rfl) (by kernel_rfl) rfl rfl (OpV.pickF rfl rfl rfl rfl rfl) ?_
     refine VA.take (i := 27) rfl (by kernel_rfl) (by kernel_rfl) (by kernel_rfl) rfl rfl (OpV.move (.inl rfl) rfl) ?_
     refine VA.takeY (i := 28) rfl (by kernel_rfl) (by kernel_rfl) (by kernel_rfl) rfl rfl rfl rfl rfl (OpV.move (.inl rfl) rfl) ?_
     refine VA.takeY (i := 29) rfl (by kernel_rfl) (by kernel_rfl) (by kernel_rfl) rfl rfl rfl rfl rfl (OpV.move (.inl rfl) rfl) ?_
     refine VA.takeY (i := 30) rfl (by kernel_rfl) (by kernel_rfl) (by kernel_rfl) rfl rfl rfl rfl rfl (OpV.indexAddr_E rfl Tryz.underlying44 Tryz.sizeOf41 rfl rfl rfl (by omega)) ?_
     refine VA.takeY (i := 31) rfl (by kernel_rfl) (by kernel_rfl) (by kernel_rfl) rfl rfl rfl rfl rfl (OpV.fieldAddr_atO 4 rfl Tryz.underlying41 rfl rfl Tryz.sizeOf3 rfl rfl) ?_
     refine VA.takeY (i := 32) rfl (by kernel_rfl) (by kernel_rfl) (by kernel_rfl) rfl rfl rfl rfl rfl (OpV.load_at rfl hB OutW.wi0 Tryz.isAgg3 rfl rfl) ?_
     refine VA.takeY (i := 33) rfl (by kernel_rfl) (by kernel_rfl) (by kernel_rfl) rfl rfl rfl rfl rfl (OpV.move (.inl rfl) rfl) ?_
     refine VA.takeY (i := 34) rfl (by kernel_rfl) (by kernel_rfl) (by kernel_rfl) rfl rfl rfl rfl rfl (OpV.move (.inl rfl) rfl) ?_
     refine VA.takeY (i := 35) rfl (by kernel_rfl) (by kernel_rfl) (by kernel_rfl) rfl rfl rfl rfl rfl (OpV.indexAddr_E rfl Tryz.underlying44 Tryz.sizeOf41 rfl rfl rfl (by omega)) ?_
     refine VA.takeY (i := 36) rfl (by kernel_rfl) (by kernel_rfl) (by kernel_rfl) rfl rfl rfl rfl rfl (OpV.fieldAddr_atO 4 rfl Tryz.underlying41 rfl rfl Tryz.sizeOf3 rfl rfl) ?_
     refine VA.takeY (i := 37) rfl (by kernel_rfl) (by kernel_rfl) (by kernel_rfl) rfl rfl rfl rfl rfl (OpV.load_at rfl hB OutW.wi0 Tryz.isAgg3 rfl rfl) ?_
     refine VA.takeY (i := 38) rfl (by kernel_rfl) (by kernel_rfl) (by kernel_rfl) rfl rfl rfl rfl rfl (OpV.add rfl rfl rfl (by unfold fits; omega)) ?_
     refine VA.takeY (i := 39) rfl (by kernel_rfl) (by kernel_rfl) (by kernel_rfl) rfl rfl rfl rfl rfl (OpV.rem rfl rfl rfl (by omega) ((by have h4 := Int.tmod_eq_emod_of_nonneg (a := (ss.getD r default).quarter + 1) (b := 4) (by omega); unfold fits; omega))) ?_
     refine VA.takeY (i := 40) rfl (by kernel_rfl) (by kernel_rfl) (by kernel_rfl) rfl rfl rfl rfl rfl (OpV.neq rfl rfl rfl) ?_
     refine VA.le _ (Le.recast (t := 159) (y := avB false) rfl (fun w Z u h => by rw [decide_eq_false (fun e => e x3)] at h; exact h)) ?_
     refine VA.take (i := 41) rfl (by kernel_rfl) (by kernel_rfl) (by kernel_rfl) rfl rfl (OpV.pickF rfl rfl rfl rfl rfl) ?_
     refine VA.done (by kernel_rfl) ?_
     refine VC.condF rfl rfl ?_
     refine VC.skip ?_
     refine VC.region ?_
     refine VO.val rfl rfl (OpV.add rfl rfl rfl (by unfold fits; omega)) ?_
     refine VO.mv rfl rfl rfl rfl ?_
     refine VO.nil ?_
     exact Exists.intro (⟨r + 1, by omega⟩) (And.intro (Le.mk hB [0, 1, 2, 3] ⟨rfl, rfl, rfl, rfl, rfl, rfl, rfl, rfl, rfl, trivial⟩ rfl rfl (Nle rfl)) (by first | omega | (show _ < _; omega) | (simp only []; omega)))
    ·have aH2 := aH2b
     try simp only [qqT, qqF, qqN, qqM, qqL, qqE] at aH2
     refine VC.exit ?_
     refine VC.region ?_
     refine VO.val rfl rfl (OpV.loadK_own (i := 3) rfl hB Tryz.isAgg32 Tryz.sizeOf32 rfl rfl rfl (fun h => h)) ?_
     refine VO.op rfl (OpE.store (i := 2) rfl hB rfl Tryz.sizeOf32 rfl rfl rfl rfl rfl rfl (Nle rfl) trivial ?_)
     refine VO.nil ?_
     refine VC.region ?_
     refine VO.val rfl rfl (OpV.add rfl rfl rfl (by unfold fits; omega)) ?_
     refine VO.mv rfl rfl rfl rfl ?_
     refine VO.nil ?_
     exact Exists.intro (⟨i + 1, by omega, hF2⟩) (And.intro (Le.mk hB [0, 1, 2] ⟨rfl, rfl, rfl, rfl, trivial⟩ rfl rfl (Nle rfl)) (by first | omega | (show _ < _; omega) | (simp only []; omega)))
   ·have h2 := h2b
    try simp only [qqT, qqF, qqN, qqM, qqL, qqE] at h2
    refine VC.skip ?_
    refine VC.region ?_
    refine VO.val rfl rfl (OpV.loadK_own (i := 3) rfl hB Tryz.isAgg32 Tryz.sizeOf32 rfl rfl rfl (fun h => h)) ?_
    refine VO.op rfl (OpE.store (i := 2) rfl hB rfl Tryz.sizeOf32 rfl rfl rfl rfl rfl rfl (Nle rfl) trivial ?_)
    refine VO.nil ?_
    refine VC.region ?_
    refine VO.val rfl rfl (OpV.add rfl rfl rfl (by unfold fits; omega)) ?_
    refine VO.mv rfl rfl rfl rfl ?_
    refine VO.nil ?_
    exact Exists.intro (⟨i + 1, by omega, hF2⟩) (And.intro (Le.mk hB [0, 1, 2] ⟨rfl, rfl, rfl, rfl, trivial⟩ rfl rfl (Nle rfl)) (by first | omega | (show _ < _; omega) | (simp only []; omega)))
 ·have aH1 := aH1b
  try simp only [qqT, qqF, qqN, qqM, qqL, qqE] at aH1
  refine VC.exit ?_
  refine VC.seq ?_
  have e4 : i = 4 := by omega
  rw [e4, turn_four hn.2]
  refine VC.region ?_
  refine VO.val rfl rfl (OpV.loadK_own (i := 2) rfl hB Tryz.isAgg32 Tryz.sizeOf32 rfl rfl rfl (fun h => h)) ?_
  refine VO.val rfl rfl (OpV.loadK_own (i := 1) rfl hB Tryz.isAgg32 Tryz.sizeOf32 rfl rfl rfl (fun h => h)) ?_
  refine VO.op rfl (OpE.call rfl hB rfl Tryz.call54 rfl (SpecN.spec (rf_SamePanel (by omega) (by omega))) ?_)
  rintro _ rfl
  refine VO.le _ (Le.boolT (t := 166) rfl (samePan_self _)) ?_
  refine VO.mv rfl rfl rfl rfl ?_
  refine VO.opY rfl rfl rfl rfl rfl ?_
  refine OpE.call rfl hB rfl Tryz.call33 rfl (SpecN.spec (rk_ready)) ?_
  rintro _ rfl
  refine VO.val rfl rfl (OpV.pickT rfl rfl rfl rfl rfl) ?_
  refine VO.ma rfl rfl rfl rfl ?_
  refine VO.nil ?_
  refine VC.ret ?_
  exact And.intro rfl rfl
end Go.Proofs.YtceflkkgmmcieaaGreatDoor
