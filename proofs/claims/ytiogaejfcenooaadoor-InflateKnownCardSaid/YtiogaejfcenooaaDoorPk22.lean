/- A pack of texts: InfE. -/
import Derived.Test.YtiogaejfcenooaaDoorPk21
namespace Go.Proofs.YtiogaejfcenooaaDoor
set_option linter.unusedVariables false
set_option linter.unusedSimpArgs false
open Go.RowKit
set_option maxRecDepth 100000 in
set_option maxHeartbeats 1000000 in
theorem xof_ok (gx gr : Nat) (l : List UInt8) (most at_ s : Nat) (vo vb : Value) (TA : Option Addr) (n c : Nat) (t : List (Nat × Nat)) {w0 w : World} {L : List Pr} (H : Sp w0 (Rr gr l at_ :: XpB gx gr vo most vb :: L) w) (ha : at_ ≤ 8 * l.length) (hl : l.length ≤ 100000000)
  (hT : Ent L fun w => Rd w TA (cellsP t)) (hn : n = t.length) (ht : ∀ p ∈ t, p.1 ≤ 100000 ∧ p.2 ≤ 13) (hs : s ≤ 1000000) :
  Calls Tryd.prog 114 #[.pointer (some ⟨gx, 0, none⟩), .int .i64 (s : Int), .slice TA n c] w fun e w' =>
   match PI.count (PBits.ofB l) t s at_ with
   | .error c => e = .panicked (pan c) ∧ Sp w0 L w'
   | .ok r => e = .returned (.int .i64 (r.2 : Int)) ∧ Sp w0 (Rr gr l r.1 :: XpB gx gr vo most vb :: L) w' := by
 by_cases hsl : s < t.length
 ·have hrd : ∀ w, Rd w TA (cellsP t) → ∃ ad, TA = some ad ∧ w.cell? (ad.add (s * 2)) = some (.int .i64 ((t.getD s (0, 0)).1 : Int)) ∧ w.cell? ⟨(ad.add (s * 2)).block, (ad.add (s * 2)).off + 1, none⟩ = some (.int .i64 ((t.getD s (0, 0)).2 : Int)) := fun w h => rdP h hsl
  obtain ⟨ad, rfl, _, _⟩ := hrd w (hT _ _ H.tail2)
  have hcell : Ent L fun w => w.cell? (ad.add (s * 2)) = some (.int .i64 ((t.getD s (0, 0)).1 : Int)) ∧ w.cell? ⟨(ad.add (s * 2)).block, (ad.add (s * 2)).off + 1, none⟩ = some (.int .i64 ((t.getD s (0, 0)).2 : Int)) := fun w0 w H => by
   obtain ⟨ad2, e, h⟩ := hrd w (hT _ _ H)
   injection e with e
   rw [e]; exact h
  have hmem : t.getD s (0, 0) ∈ t := by
   rw [List.getD_eq_getElem?_getD, List.getElem?_eq_getElem hsl]
   exact List.getElem_mem hsl
  have hb := ht _ hmem
  have hq : PI.count (PBits.ofB l) t s at_ = (PI.number (PBits.ofB l) at_ (t.getD s (0, 0)).2).bind fun r => .ok (r.1, (t.getD s (0, 0)).1 + r.2) := by unfold PI.count; rw [if_pos hsl]
  rw [hq]
  obtain ⟨⟨f, k⟩, hfk⟩ : ∃ p, t.getD s (0, 0) = p := ⟨_, rfl⟩
  rw [hfk] at hcell hb ⊢
  have HC := Lib.hid hcell
  have hk57 : k ≤ 57 := by have := hb.2; simp only at this; omega
  have hf := hb.1
  simp only at hf
  have sn : (s : Int) < (n : Int) := by omega
  have sn2 : ¬ (s : Int) ≥ (n : Int) := by omega
  clear hcell hrd hmem hT hq hfk hb ht hn hsl
  show Calls _ _ _ _ fun e w' => match (PI.number (PBits.ofB l) at_ k).bind fun r => .ok (r.1, f + r.2) with
   | .error c => e = .panicked (pan c) ∧ Sp w0 L w'
   | .ok r => e = .returned (.int .i64 (r.2 : Int)) ∧ Sp w0 (Rr gr l r.1 :: XpB gx gr vo most vb :: L) w'
  cases hr : PI.number (PBits.ofB l) at_ k with
  | error e =>
   have HR := Lib.hid hr
   show Calls _ _ _ _ fun e' w' => e' = .panicked (pan e) ∧ Sp w0 L w'
   clear hr
   go_enter Tryd.func114, Tryd.ntmps114
   go_wp2_with fail
   refine wp_region_sr (L := L) (fun ix vx => ([(· = .slice (some ad) n c), (· = .int .i64 (s : Int)), (· = .pointer (some (ad.add (s * 2)))), (· = .pointer (some (ad.add (s * 2)))), (· = .int .i64 (f : Int)), (· = .pointer (some ⟨gx, 0, none⟩)), (· = .slice (some ad) n c), (· = .int .i64 (s : Int)), (· = .pointer (some (ad.add (s * 2)))), (· = .pointer (some ⟨(ad.add (s * 2)).block, (ad.add (s * 2)).off + 1, none⟩)), (· = .int .i64 (k : Int)), (fun _ => False), (fun _ => True), (fun _ => True)] : List (Value → Prop)).getD ix (fun _ => True) vx)
    (fun ix vx => ([fun _ => [], fun _ => [], fun _ => [], fun _ => [], fun _ => [], fun _ => [], fun _ => [], fun _ => [], fun _ => [], fun _ => [], fun _ => [], fun _ => [], fun _ => [], fun _ => []] : List (Value → List Pr)).getD ix (fun _ => []) vx) (fun ix => ([[], [], [], [], [], [], [], [], [], [], [], [Rr gr l at_, XpB gx gr vo most vb], [], []] : List (List Pr)).getD ix []) 14 25
    [some 12, some 13, some 14, some 15, some 16, some 17, some 18, some 19, some 20, some 21, some 22, some 23, some 24, some 6]
    [[], [], [0, 1], [2], [3], [], [], [], [6, 7], [8], [9], [5, 10], [4, 11], [12, 11, 0, 1, 2, 3, 4, 5, 6, 7, 8, 9, 10, 11, 12]]
    [[], [], [0, 1], [0, 1, 2], [0, 1, 2, 3], [], [], [], [6, 7], [6, 7, 8], [6, 7, 8, 9], [5, 6, 7, 8, 9, 10], [0, 1, 2, 3, 4, 5, 6, 7, 8, 9, 10, 11], [0, 1, 2, 3, 4, 5, 6, 7, 8, 9, 10, 11, 12]]
    [[], [], [], [], [], [], [], [], [], [], [], [], [], []]
    [[], [], [], [], [], [], [], [], [], [], [], [], [], []]
    [(0, .pointer (some ⟨gx, 0, none⟩)), (1, .int .i64 (s : Int)), (2, .slice (some ad) n c)]
    (by kernel_rfl) rfl (by decide) (by rfl) rfl (by decide +kernel) (by decide +kernel) (by rfl) rfl rfl rfl (by decide) (by simp) (H) ?hstep ?hend
   case hstep =>
    refine ⟨?_, ⟨?_, ⟨?_, ⟨?_, ⟨?_, ⟨?_, ⟨?_, ⟨?_, ⟨?_, ⟨?_, ⟨?_, ⟨?_, ⟨?_, ⟨?_, trivial⟩⟩⟩⟩⟩⟩⟩⟩⟩⟩⟩⟩⟩⟩
    ·intro x wx A rest hDf hN hS hE H K hK0
     replace hDf := Lib.hid hDf
     have e2 : A.tmps[2]?.getD undef = .slice (some ad) n c := hN (2, .slice (some ad) n c) (by simp) (by rfl)
     replace H : Sp w0 (rest) wx := H
     have hK : Hid (∀ (v : Value) (w' : World), v = .slice (some ad) n c → Sp w0 (rest) w' → K (A.put (some 12) v) w') := Lib.hid hK0
     clear hK0 hN hS hE
     change Oper.wp _ _ A wx K _
     go_step
     exact hK.out _ _ rfl (H)
    ·intro x wx A rest hDf hN hS hE H K hK0
     replace hDf := Lib.hid hDf
     have e1 : A.tmps[1]?.getD undef = .int .i64 (s : Int) := hN (1, .int .i64 (s : Int)) (by simp) (by rfl)
     replace H : Sp w0 (rest) wx := H
     have hK : Hid (∀ (v : Value) (w' : World), v = .int .i64 (s : Int) → Sp w0 (rest) w' → K (A.put (some 13) v) w') := Lib.hid hK0
     clear hK0 hN hS hE
     change Oper.wp _ _ A wx K _
     go_step
     exact hK.out _ _ rfl (H)
    ·intro x wx A rest hDf hN hS hE H K hK0
     replace hDf := Lib.hid hDf
     have e12 : A.tmps[12]?.getD undef = .slice (some ad) n c := ((hS 0 (by decide)).2 12 rfl).trans (hS 0 (by decide)).1
     have e13 : A.tmps[13]?.getD undef = .int .i64 (s : Int) := ((hS 1 (by decide)).2 13 rfl).trans (hS 1 (by decide)).1
     replace H : Sp w0 (rest) wx := H
     have hK : Hid (∀ (v : Value) (w' : World), v = .pointer (some (ad.add (s * 2))) → Sp w0 (rest) w' → K (A.put (some 14) v) w') := Lib.hid hK0
     clear hK0 hN hS hE
     change Oper.wp _ _ A wx K _
     go_step
     exact hK.out _ _ rfl (H)
    ·intro x wx A rest hDf hN hS hE H K hK0
     replace hDf := Lib.hid hDf
     have e14 : A.tmps[14]?.getD undef = .pointer (some (ad.add (s * 2))) := ((hS 2 (by decide)).2 14 rfl).trans (hS 2 (by decide)).1
     replace H : Sp w0 (rest) wx := H
     have hK : Hid (∀ (v : Value) (w' : World), v = .pointer (some (ad.add (s * 2))) → Sp w0 (rest) w' → K (A.put (some 15) v) w') := Lib.hid hK0
     clear hK0 hN hS hE
     change Oper.wp _ _ A wx K _
     go_step
     exact hK.out _ _ rfl (H)
    ·intro x wx A rest hDf hN hS hE H K hK0
     replace hDf := Lib.hid hDf
     have e15 : A.tmps[15]?.getD undef = .pointer (some (ad.add (s * 2))) := ((hS 3 (by decide)).2 15 rfl).trans (hS 3 (by decide)).1
     replace H : Sp w0 (rest) wx := H
     have hK : Hid (∀ (v : Value) (w' : World), v = .int .i64 (f : Int) → Sp w0 (rest) w' → K (A.put (some 16) v) w') := Lib.hid hK0
     clear hK0 hN hS
     have hc : wx.cell? (ad.add (s * 2)) = some (.int .i64 (f : Int)) ∧ wx.cell? ⟨(ad.add (s * 2)).block, (ad.add (s * 2)).off + 1, none⟩ = some (.int .i64 (k : Int)) := hE (fun w => w.cell? (ad.add (s * 2)) = some (.int .i64 (f : Int)) ∧ w.cell? ⟨(ad.add (s * 2)).block, (ad.add (s * 2)).off + 1, none⟩ = some (.int .i64 (k : Int))) HC.out _ _ H
     have c1 := hc.1
     clear hc
     change Oper.wp _ _ A wx K _
     go_step
     exact hK.out _ _ rfl (H)
    ·intro x wx A rest hDf hN hS hE H K hK0
     replace hDf := Lib.hid hDf
     have e0 : A.tmps[0]?.getD undef = .pointer (some ⟨gx, 0, none⟩) := hN (0, .pointer (some ⟨gx, 0, none⟩)) (by simp) (by rfl)
     replace H : Sp w0 (rest) wx := H
     have hK : Hid (∀ (v : Value) (w' : World), v = .pointer (some ⟨gx, 0, none⟩) → Sp w0 (rest) w' → K (A.put (some 17) v) w') := Lib.hid hK0
     clear hK0 hN hS hE
     change Oper.wp _ _ A wx K _
     go_step
     exact hK.out _ _ rfl (H)
    ·intro x wx A rest hDf hN hS hE H K hK0
     replace hDf := Lib.hid hDf
     have e2 : A.tmps[2]?.getD undef = .slice (some ad) n c := hN (2, .slice (some ad) n c) (by simp) (by rfl)
     replace H : Sp w0 (rest) wx := H
     have hK : Hid (∀ (v : Value) (w' : World), v = .slice (some ad) n c → Sp w0 (rest) w' → K (A.put (some 18) v) w') := Lib.hid hK0
     clear hK0 hN hS hE
     change Oper.wp _ _ A wx K _
     go_step
     exact hK.out _ _ rfl (H)
    ·intro x wx A rest hDf hN hS hE H K hK0
     replace hDf := Lib.hid hDf
     have e1 : A.tmps[1]?.getD undef = .int .i64 (s : Int) := hN (1, .int .i64 (s : Int)) (by simp) (by rfl)
     replace H : Sp w0 (rest) wx := H
     have hK : Hid (∀ (v : Value) (w' : World), v = .int .i64 (s : Int) → Sp w0 (rest) w' → K (A.put (some 19) v) w') := Lib.hid hK0
     clear hK0 hN hS hE
     change Oper.wp _ _ A wx K _
     go_step
     exact hK.out _ _ rfl (H)
    ·intro x wx A rest hDf hN hS hE H K hK0
     replace hDf := Lib.hid hDf
     have e18 : A.tmps[18]?.getD undef = .slice (some ad) n c := ((hS 6 (by decide)).2 18 rfl).trans (hS 6 (by decide)).1
     have e19 : A.tmps[19]?.getD undef = .int .i64 (s : Int) := ((hS 7 (by decide)).2 19 rfl).trans (hS 7 (by decide)).1
     replace H : Sp w0 (rest) wx := H
     have hK : Hid (∀ (v : Value) (w' : World), v = .pointer (some (ad.add (s * 2))) → Sp w0 (rest) w' → K (A.put (some 20) v) w') := Lib.hid hK0
     clear hK0 hN hS hE
     change Oper.wp _ _ A wx K _
     go_step
     exact hK.out _ _ rfl (H)
    ·intro x wx A rest hDf hN hS hE H K hK0
     replace hDf := Lib.hid hDf
     have e20 : A.tmps[20]?.getD undef = .pointer (some (ad.add (s * 2))) := ((hS 8 (by decide)).2 20 rfl).trans (hS 8 (by decide)).1
     replace H : Sp w0 (rest) wx := H
     have hK : Hid (∀ (v : Value) (w' : World), v = .pointer (some ⟨(ad.add (s * 2)).block, (ad.add (s * 2)).off + 1, none⟩) → Sp w0 (rest) w' → K (A.put (some 21) v) w') := Lib.hid hK0
     clear hK0 hN hS hE
     change Oper.wp _ _ A wx K _
     go_step
     exact hK.out _ _ rfl (H)
    ·intro x wx A rest hDf hN hS hE H K hK0
     replace hDf := Lib.hid hDf
     have e21 : A.tmps[21]?.getD undef = .pointer (some ⟨(ad.add (s * 2)).block, (ad.add (s * 2)).off + 1, none⟩) := ((hS 9 (by decide)).2 21 rfl).trans (hS 9 (by decide)).1
     replace H : Sp w0 (rest) wx := H
     have hK : Hid (∀ (v : Value) (w' : World), v = .int .i64 (k : Int) → Sp w0 (rest) w' → K (A.put (some 22) v) w') := Lib.hid hK0
     clear hK0 hN hS
     have hc : wx.cell? (ad.add (s * 2)) = some (.int .i64 (f : Int)) ∧ wx.cell? ⟨(ad.add (s * 2)).block, (ad.add (s * 2)).off + 1, none⟩ = some (.int .i64 (k : Int)) := hE (fun w => w.cell? (ad.add (s * 2)) = some (.int .i64 (f : Int)) ∧ w.cell? ⟨(ad.add (s * 2)).block, (ad.add (s * 2)).off + 1, none⟩ = some (.int .i64 (k : Int))) HC.out _ _ H
     have c1 := hc.2
     clear hc
     change Oper.wp _ _ A wx K _
     go_step
     exact hK.out _ _ rfl (H)
    ·intro x wx A rest hDf hN hS hE H K hK0
     replace hDf := Lib.hid hDf
     have e17 : A.tmps[17]?.getD undef = .pointer (some ⟨gx, 0, none⟩) := ((hS 5 (by decide)).2 17 rfl).trans (hS 5 (by decide)).1
     have e22 : A.tmps[22]?.getD undef = .int .i64 (k : Int) := ((hS 10 (by decide)).2 22 rfl).trans (hS 10 (by decide)).1
     replace H : Sp w0 ((Rr gr l at_) :: (XpB gx gr vo most vb) :: rest) wx := H
     have hK : Hid (∀ (v : Value) (w' : World), (fun _ => False) v → Sp w0 (rest) w' → K (A.put (some 23) v) w') := Lib.hid hK0
     clear hK0 hN hS
     change Oper.wp _ _ A wx K _
     go_wp2_with fail
     have h9 := xnum_ok gx gr l most at_ k vo vb H (by omega) hk57 (by omega)
     rw [HR.out] at h9
     refine h9.mono ?_
     clear h9
     rintro _ w9 ⟨rfl, H9⟩
     go_wp2
     exact ⟨hDf.out, rfl, H9.sub hE⟩
    ·intro x wx A rest hDf hN hS hE H K hK0
     replace hDf := Lib.hid hDf
     have e16 : A.tmps[16]?.getD undef = .int .i64 (f : Int) := ((hS 4 (by decide)).2 16 rfl).trans (hS 4 (by decide)).1
     have q23 := (hS 11 (by decide)).1
     have e23 : A.tmps[23]?.getD undef = x 11 := (hS 11 (by decide)).2 23 rfl
     replace H : Sp w0 (rest) wx := H
     have hK : Hid (∀ (v : Value) (w' : World), True → Sp w0 (rest) w' → K (A.put (some 24) v) w') := Lib.hid hK0
     clear hK0 hN
     exact ((hS 11 (by decide)).1 : False).elim
    ·intro x wx A rest hDf hN hS hE H K hK0
     replace hDf := Lib.hid hDf
     have q24 := (hS 12 (by decide)).1
     have e24 : A.tmps[24]?.getD undef = x 12 := (hS 12 (by decide)).2 24 rfl
     replace H : Sp w0 (rest) wx := H
     have hK : Hid (∀ (v : Value) (w' : World), True → Sp w0 (rest) w' → K (A.put (some 6) v) w') := Lib.hid hK0
     clear hK0 hN
     exact ((hS 11 (by decide)).1 : False).elim
   case hend =>
    intro x wx A hA hS H
    replace H : Sp w0 (L) wx := H
    have y11 : False := hS 11 (by decide)
    clear hS
    simp only [putAll, Act.put, List.setIfInBounds_toArray, List.set_cons_succ, List.set_cons_zero, Nat.reduceAdd] at hA
    subst hA
    exact y11.elim
  | ok r =>
   obtain ⟨hr1, hr2⟩ := PI.number_ok hr
   subst hr1
   have hv := PI.numAt_small (PBits.ofB l) at_ k 57 hk57
   obtain ⟨nn, hv2⟩ : ∃ v, PI.numAt (PBits.ofB l) at_ k = v := ⟨_, rfl⟩
   rw [hv2] at hr hv ⊢
   have HR := Lib.hid hr
   obtain ⟨fv, hfv⟩ : ∃ fv, f + nn = fv := ⟨_, rfl⟩
   show Calls _ _ _ _ fun e w' => e = .returned (.int .i64 ((f + nn : Nat) : Int)) ∧ Sp w0 (Rr gr l (at_ + k) :: XpB gx gr vo most vb :: L) w'
   rw [hfv]
   have e3 : (f : Int) + (nn : Int) = (fv : Int) := by omega
   have hfv2 : fv < 9000000000000000000 := by omega
   clear hr hv2 hfv
   go_enter Tryd.func114, Tryd.ntmps114
   go_wp2_with fail
   refine wp_region_sr (L := L) (fun ix vx => ([(· = .slice (some ad) n c), (· = .int .i64 (s : Int)), (· = .pointer (some (ad.add (s * 2)))), (· = .pointer (some (ad.add (s * 2)))), (· = .int .i64 (f : Int)), (· = .pointer (some ⟨gx, 0, none⟩)), (· = .slice (some ad) n c), (· = .int .i64 (s : Int)), (· = .pointer (some (ad.add (s * 2)))), (· = .pointer (some ⟨(ad.add (s * 2)).block, (ad.add (s * 2)).off + 1, none⟩)), (· = .int .i64 (k : Int)), (· = .int .i64 (nn : Int)), (· = .int .i64 (fv : Int)), (· = .int .i64 (fv : Int))] : List (Value → Prop)).getD ix (fun _ => True) vx)
    (fun ix vx => ([fun _ => [], fun _ => [], fun _ => [], fun _ => [], fun _ => [], fun _ => [], fun _ => [], fun _ => [], fun _ => [], fun _ => [], fun _ => [], fun _ => [Rr gr l (at_ + k), XpB gx gr vo most vb], fun _ => [], fun _ => []] : List (Value → List Pr)).getD ix (fun _ => []) vx) (fun ix => ([[], [], [], [], [], [], [], [], [], [], [], [Rr gr l at_, XpB gx gr vo most vb], [], []] : List (List Pr)).getD ix []) 14 25
    [some 12, some 13, some 14, some 15, some 16, some 17, some 18, some 19, some 20, some 21, some 22, some 23, some 24, some 6]
    [[], [], [0, 1], [2], [3], [], [], [], [6, 7], [8], [9], [5, 10], [4, 11], [12, 11, 0, 1, 2, 3, 4, 5, 6, 7, 8, 9, 10, 11, 12]]
    [[], [], [0, 1], [0, 1, 2], [0, 1, 2, 3], [], [], [], [6, 7], [6, 7, 8], [6, 7, 8, 9], [5, 6, 7, 8, 9, 10], [0, 1, 2, 3, 4, 5, 6, 7, 8, 9, 10, 11], [0, 1, 2, 3, 4, 5, 6, 7, 8, 9, 10, 11, 12]]
    [[], [], [], [], [], [], [], [], [], [], [], [], [], []]
    [[], [], [], [], [], [], [], [], [], [], [], [], [], []]
    [(0, .pointer (some ⟨gx, 0, none⟩)), (1, .int .i64 (s : Int)), (2, .slice (some ad) n c)]
    (by kernel_rfl) rfl (by decide) (by rfl) rfl (by decide +kernel) (by decide +kernel) (by rfl) rfl rfl rfl (by decide) (by simp) (H) ?hstep ?hend
   case hstep =>
    refine ⟨?_, ⟨?_, ⟨?_, ⟨?_, ⟨?_, ⟨?_, ⟨?_, ⟨?_, ⟨?_, ⟨?_, ⟨?_, ⟨?_, ⟨?_, ⟨?_, trivial⟩⟩⟩⟩⟩⟩⟩⟩⟩⟩⟩⟩⟩⟩
    ·intro x wx A rest hDf hN hS hE H K hK0
     replace hDf := Lib.hid hDf
     have e2 : A.tmps[2]?.getD undef = .slice (some ad) n c := hN (2, .slice (some ad) n c) (by simp) (by rfl)
     replace H : Sp w0 (rest) wx := H
     have hK : Hid (∀ (v : Value) (w' : World), v = .slice (some ad) n c → Sp w0 (rest) w' → K (A.put (some 12) v) w') := Lib.hid hK0
     clear hK0 hN hS hE
     change Oper.wp _ _ A wx K _
     go_step
     exact hK.out _ _ rfl (H)
    ·intro x wx A rest hDf hN hS hE H K hK0
     replace hDf := Lib.hid hDf
     have e1 : A.tmps[1]?.getD undef = .int .i64 (s : Int) := hN (1, .int .i64 (s : Int)) (by simp) (by rfl)
     replace H : Sp w0 (rest) wx := H
     have hK : Hid (∀ (v : Value) (w' : World), v = .int .i64 (s : Int) → Sp w0 (rest) w' → K (A.put (some 13) v) w') := Lib.hid hK0
     clear hK0 hN hS hE
     change Oper.wp _ _ A wx K _
     go_step
     exact hK.out _ _ rfl (H)
    ·intro x wx A rest hDf hN hS hE H K hK0
     replace hDf := Lib.hid hDf
     have e12 : A.tmps[12]?.getD undef = .slice (some ad) n c := ((hS 0 (by decide)).2 12 rfl).trans (hS 0 (by decide)).1
     have e13 : A.tmps[13]?.getD undef = .int .i64 (s : Int) := ((hS 1 (by decide)).2 13 rfl).trans (hS 1 (by decide)).1
     replace H : Sp w0 (rest) wx := H
     have hK : Hid (∀ (v : Value) (w' : World), v = .pointer (some (ad.add (s * 2))) → Sp w0 (rest) w' → K (A.put (some 14) v) w') := Lib.hid hK0
     clear hK0 hN hS hE
     change Oper.wp _ _ A wx K _
     go_step
     exact hK.out _ _ rfl (H)
    ·intro x wx A rest hDf hN hS hE H K hK0
     replace hDf := Lib.hid hDf
     have e14 : A.tmps[14]?.getD undef = .pointer (some (ad.add (s * 2))) := ((hS 2 (by decide)).2 14 rfl).trans (hS 2 (by decide)).1
     replace H : Sp w0 (rest) wx := H
     have hK : Hid (∀ (v : Value) (w' : World), v = .pointer (some (ad.add (s * 2))) → Sp w0 (rest) w' → K (A.put (some 15) v) w') := Lib.hid hK0
     clear hK0 hN hS hE
     change Oper.wp _ _ A wx K _
     go_step
     exact hK.out _ _ rfl (H)
    ·intro x wx A rest hDf hN hS hE H K hK0
     replace hDf := Lib.hid hDf
     have e15 : A.tmps[15]?.getD undef = .pointer (some (ad.add (s * 2))) := ((hS 3 (by decide)).2 15 rfl).trans (hS 3 (by decide)).1
     replace H : Sp w0 (rest) wx := H
     have hK : Hid (∀ (v : Value) (w' : World), v = .int .i64 (f : Int) → Sp w0 (rest) w' → K (A.put (some 16) v) w') := Lib.hid hK0
     clear hK0 hN hS
     have hc : wx.cell? (ad.add (s * 2)) = some (.int .i64 (f : Int)) ∧ wx.cell? ⟨(ad.add (s * 2)).block, (ad.add (s * 2)).off + 1, none⟩ = some (.int .i64 (k : Int)) := hE (fun w => w.cell? (ad.add (s * 2)) = some (.int .i64 (f : Int)) ∧ w.cell? ⟨(ad.add (s * 2)).block, (ad.add (s * 2)).off + 1, none⟩ = some (.int .i64 (k : Int))) HC.out _ _ H
     have c1 := hc.1
     clear hc
     change Oper.wp _ _ A wx K _
     go_step
     exact hK.out _ _ rfl (H)
    ·intro x wx A rest hDf hN hS hE H K hK0
     replace hDf := Lib.hid hDf
     have e0 : A.tmps[0]?.getD undef = .pointer (some ⟨gx, 0, none⟩) := hN (0, .pointer (some ⟨gx, 0, none⟩)) (by simp) (by rfl)
     replace H : Sp w0 (rest) wx := H
     have hK : Hid (∀ (v : Value) (w' : World), v = .pointer (some ⟨gx, 0, none⟩) → Sp w0 (rest) w' → K (A.put (some 17) v) w') := Lib.hid hK0
     clear hK0 hN hS hE
     change Oper.wp _ _ A wx K _
     go_step
     exact hK.out _ _ rfl (H)
    ·intro x wx A rest hDf hN hS hE H K hK0
     replace hDf := Lib.hid hDf
     have e2 : A.tmps[2]?.getD undef = .slice (some ad) n c := hN (2, .slice (some ad) n c) (by simp) (by rfl)
     replace H : Sp w0 (rest) wx := H
     have hK : Hid (∀ (v : Value) (w' : World), v = .slice (some ad) n c → Sp w0 (rest) w' → K (A.put (some 18) v) w') := Lib.hid hK0
     clear hK0 hN hS hE
     change Oper.wp _ _ A wx K _
     go_step
     exact hK.out _ _ rfl (H)
    ·intro x wx A rest hDf hN hS hE H K hK0
     replace hDf := Lib.hid hDf
     have e1 : A.tmps[1]?.getD undef = .int .i64 (s : Int) := hN (1, .int .i64 (s : Int)) (by simp) (by rfl)
     replace H : Sp w0 (rest) wx := H
     have hK : Hid (∀ (v : Value) (w' : World), v = .int .i64 (s : Int) → Sp w0 (rest) w' → K (A.put (some 19) v) w') := Lib.hid hK0
     clear hK0 hN hS hE
     change Oper.wp _ _ A wx K _
     go_step
     exact hK.out _ _ rfl (H)
    ·intro x wx A rest hDf hN hS hE H K hK0
     replace hDf := Lib.hid hDf
     have e18 : A.tmps[18]?.getD undef = .slice (some ad) n c := ((hS 6 (by decide)).2 18 rfl).trans (hS 6 (by decide)).1
     have e19 : A.tmps[19]?.getD undef = .int .i64 (s : Int) := ((hS 7 (by decide)).2 19 rfl).trans (hS 7 (by decide)).1
     replace H : Sp w0 (rest) wx := H
     have hK : Hid (∀ (v : Value) (w' : World), v = .pointer (some (ad.add (s * 2))) → Sp w0 (rest) w' → K (A.put (some 20) v) w') := Lib.hid hK0
     clear hK0 hN hS hE
     change Oper.wp _ _ A wx K _
     go_step
     exact hK.out _ _ rfl (H)
    ·intro x wx A rest hDf hN hS hE H K hK0
     replace hDf := Lib.hid hDf
     have e20 : A.tmps[20]?.getD undef = .pointer (some (ad.add (s * 2))) := ((hS 8 (by decide)).2 20 rfl).trans (hS 8 (by decide)).1
     replace H : Sp w0 (rest) wx := H
     have hK : Hid (∀ (v : Value) (w' : World), v = .pointer (some ⟨(ad.add (s * 2)).block, (ad.add (s * 2)).off + 1, none⟩) → Sp w0 (rest) w' → K (A.put (some 21) v) w') := Lib.hid hK0
     clear hK0 hN hS hE
     change Oper.wp _ _ A wx K _
     go_step
     exact hK.out _ _ rfl (H)
    ·intro x wx A rest hDf hN hS hE H K hK0
     replace hDf := Lib.hid hDf
     have e21 : A.tmps[21]?.getD undef = .pointer (some ⟨(ad.add (s * 2)).block, (ad.add (s * 2)).off + 1, none⟩) := ((hS 9 (by decide)).2 21 rfl).trans (hS 9 (by decide)).1
     replace H : Sp w0 (rest) wx := H
     have hK : Hid (∀ (v : Value) (w' : World), v = .int .i64 (k : Int) → Sp w0 (rest) w' → K (A.put (some 22) v) w') := Lib.hid hK0
     clear hK0 hN hS
     have hc : wx.cell? (ad.add (s * 2)) = some (.int .i64 (f : Int)) ∧ wx.cell? ⟨(ad.add (s * 2)).block, (ad.add (s * 2)).off + 1, none⟩ = some (.int .i64 (k : Int)) := hE (fun w => w.cell? (ad.add (s * 2)) = some (.int .i64 (f : Int)) ∧ w.cell? ⟨(ad.add (s * 2)).block, (ad.add (s * 2)).off + 1, none⟩ = some (.int .i64 (k : Int))) HC.out _ _ H
     have c1 := hc.2
     clear hc
     change Oper.wp _ _ A wx K _
     go_step
     exact hK.out _ _ rfl (H)
    ·intro x wx A rest hDf hN hS hE H K hK0
     replace hDf := Lib.hid hDf
     have e17 : A.tmps[17]?.getD undef = .pointer (some ⟨gx, 0, none⟩) := ((hS 5 (by decide)).2 17 rfl).trans (hS 5 (by decide)).1
     have e22 : A.tmps[22]?.getD undef = .int .i64 (k : Int) := ((hS 10 (by decide)).2 22 rfl).trans (hS 10 (by decide)).1
     replace H : Sp w0 ((Rr gr l at_) :: (XpB gx gr vo most vb) :: rest) wx := H
     have hK : Hid (∀ (v : Value) (w' : World), v = .int .i64 (nn : Int) → Sp w0 ((Rr gr l (at_ + k)) :: (XpB gx gr vo most vb) :: rest) w' → K (A.put (some 23) v) w') := Lib.hid hK0
     clear hK0 hN hS hE
     change Oper.wp _ _ A wx K _
     go_wp2_with fail
     have h9 := xnum_ok gx gr l most at_ k vo vb H (by omega) hk57 (by omega)
     rw [HR.out] at h9
     refine h9.mono ?_
     clear h9
     rintro _ w9 ⟨rfl, H9⟩
     exact hK.out _ _ rfl H9
    ·intro x wx A rest hDf hN hS hE H K hK0
     replace hDf := Lib.hid hDf
     have e16 : A.tmps[16]?.getD undef = .int .i64 (f : Int) := ((hS 4 (by decide)).2 16 rfl).trans (hS 4 (by decide)).1
     have e23 : A.tmps[23]?.getD undef = .int .i64 (nn : Int) := ((hS 11 (by decide)).2 23 rfl).trans (hS 11 (by decide)).1
     replace H : Sp w0 (rest) wx := H
     have hK : Hid (∀ (v : Value) (w' : World), v = .int .i64 (fv : Int) → Sp w0 (rest) w' → K (A.put (some 24) v) w') := Lib.hid hK0
     clear hK0 hN hS hE
     change Oper.wp _ _ A wx K _
     go_step
     exact hK.out _ _ rfl (H)
    ·intro x wx A rest hDf hN hS hE H K hK0
     replace hDf := Lib.hid hDf
     have e24 : A.tmps[24]?.getD undef = .int .i64 (fv : Int) := ((hS 12 (by decide)).2 24 rfl).trans (hS 12 (by decide)).1
     replace H : Sp w0 (rest) wx := H
     have hK : Hid (∀ (v : Value) (w' : World), v = .int .i64 (fv : Int) → Sp w0 (rest) w' → K (A.put (some 6) v) w') := Lib.hid hK0
     clear hK0 hN hS hE
     change Oper.wp _ _ A wx K _
     go_step
     exact hK.out _ _ rfl (H)
   case hend =>
    intro x wx A hA hS H
    replace H : Sp w0 ((Rr gr l (at_ + k)) :: (XpB gx gr vo most vb) :: L) wx := H
    have y13 : x 13 = .int .i64 (fv : Int) := hS 13 (by decide)
    clear hS
    simp only [putAll, Act.put, List.setIfInBounds_toArray, List.set_cons_succ, List.set_cons_zero, Nat.reduceAdd] at hA
    subst hA
    rw [y13]
    go_wp2
    go_ret
    exact ⟨rfl, H⟩
 ·have hq : PI.count (PBits.ofB l) t s at_ = .error 20 := by unfold PI.count; rw [if_neg hsl]
  rw [hq]
  have sn2 : (s : Int) ≥ (n : Int) := by omega
  show Calls _ _ _ _ fun e w' => e = .panicked (pan 20) ∧ Sp w0 L w'
  clear hT
  go_enter Tryd.func114, Tryd.ntmps114
  go_wp2
  exact ⟨rfl, rfl, H.tail2⟩
structure Tabs (TL TA : Option Addr) (cl ca : Nat) (w : World) : Prop where
 long : w.cell? ⟨5, 0, none⟩ = some (.slice TL 28 cl)
 longs : Rd w TL (cellsP PI.lengthsT)
 far : w.cell? ⟨2, 0, none⟩ = some (.slice TA 30 ca)
 fars : Rd w TA (cellsP PI.awayT)
 order : ∀ i, i < 19 → w.cell? ⟨3, i, none⟩ = some (.int .i64 (PI.orderT.getD i 0 : Nat))
theorem Tabs.heap {TL TA : Option Addr} {cl ca : Nat} {W w : World} (h : Tabs TL TA cl ca W) (hs : ∀ b, b < W.heap.size → w.heap[b]? = W.heap[b]?) : Tabs TL TA cl ca w := by
 have hc : ∀ (p : Addr) u, W.cell? p = some u → w.cell? p = some u := fun p u hp => by
  rw [← hp]; exact World.cell?_of_block (hs p.block (cell_lt hp))
 exact ⟨hc _ _ h.long, h.longs.keep fun p u _ hp => by rw [hp]; exact hc _ _ hp, hc _ _ h.far, h.fars.keep fun p u _ hp => by rw [hp]; exact hc _ _ hp, fun i hi => hc _ _ (h.order i hi)⟩
theorem lengthsT_le : ∀ p ∈ PI.lengthsT, p.1 ≤ 100000 ∧ p.2 ≤ 13 := by decide
theorem awayT_le : ∀ p ∈ PI.awayT, p.1 ≤ 100000 ∧ p.2 ≤ 13 := by decide
set_option maxRecDepth 100000 in
theorem xlen_ok (gx gr : Nat) (l : List UInt8) (most at_ s : Nat) (vo vb : Value) (TL TA : Option Addr) (cl ca : Nat) {w0 w : World} {L : List Pr} (H : Sp w0 (Rr gr l at_ :: XpB gx gr vo most vb :: L) w) (ha : at_ ≤ 8 * l.length) (hl : l.length ≤ 100000000)
  (hT : Ent L (Tabs TL TA cl ca)) (hs : s ≤ 1000000) :
  Calls Tryd.prog 113 #[.pointer (some ⟨gx, 0, none⟩), .int .i64 (s : Int)] w fun e w' =>
   match PI.length (PBits.ofB l) s at_ with
   | .error c => e = .panicked (pan c) ∧ Sp w0 L w'
   | .ok r => e = .returned (.int .i64 (r.2 : Int)) ∧ Sp w0 (Rr gr l r.1 :: XpB gx gr vo most vb :: L) w' := by
 by_cases h28 : s = 28
 ·subst h28
  show Calls _ _ _ _ fun e w' => e = .returned (.int .i64 258) ∧ Sp w0 (Rr gr l at_ :: XpB gx gr vo most vb :: L) w'
  clear hT
  go_enter Tryd.func113, Tryd.ntmps113
  go_wp2
  go_ret
  exact ⟨rfl, H⟩
 ·have hq : PI.length (PBits.ofB l) s at_ = PI.count (PBits.ofB l) PI.lengthsT s at_ := by unfold PI.length; rw [if_neg h28]
  rw [hq]
  have n1 : ¬ (s : Int) = 28 := by omega
  have c5 := (hT _ _ H.tail2).long
  have h1 := xof_ok gx gr l most at_ s vo vb TL 28 cl PI.lengthsT H ha hl (fun w0 w h => (hT w0 w h).longs) rfl lengthsT_le hs
  have H1 := Lib.hid h1
  clear h1 hT hq
  cases hr : PI.count (PBits.ofB l) PI.lengthsT s at_ with
  | error c =>
   rw [hr] at H1
   show Calls _ _ _ _ fun e w' => e = .panicked (pan c) ∧ Sp w0 L w'
   clear hr
   go_enter Tryd.func113, Tryd.ntmps113
   go_wp2_with fail
   refine H1.out.mono ?_
   rintro _ w1 ⟨rfl, H2⟩
   go_wp2
   exact ⟨rfl, rfl, H2⟩
  | ok r =>
   rw [hr] at H1
   obtain ⟨r1, r2⟩ := r
   show Calls _ _ _ _ fun e w' => e = .returned (.int .i64 (r2 : Int)) ∧ Sp w0 (Rr gr l r1 :: XpB gx gr vo most vb :: L) w'
   clear hr
   go_enter Tryd.func113, Tryd.ntmps113
   go_wp2_with fail
   refine H1.out.mono ?_
   rintro _ w1 ⟨rfl, H2⟩
   go_wp2_with fail
   go_ret
   exact ⟨rfl, H2⟩
end Go.Proofs.YtiogaejfcenooaaDoor

