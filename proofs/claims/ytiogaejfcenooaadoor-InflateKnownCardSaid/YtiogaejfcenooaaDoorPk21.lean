/- A pack of texts: InfC InfD SepRegion4 CellsP. -/
import Derived.Test.YtiogaejfcenooaaDoorPk02
import Derived.Test.YtiogaejfcenooaaDoorPk20
namespace Go.Proofs.YtiogaejfcenooaaDoor
set_option linter.unusedVariables false
set_option linter.unusedSimpArgs false
open Go.RowKit
set_option maxRecDepth 100000 in
set_option maxHeartbeats 4000000 in
theorem xnext_ok (gb gv gx gr : Nat) (by_ : List UInt8) (vo vb : Value) (most : Nat) (vr : Value) (m : List Nat) (mo : Nat) (n at_ : Nat) (l : List Bool) {w0 w : World} {L : List Pr} (H : Sp w0 (FeedX gv gx gr by_ vo vb most at_ :: Row 3 1 vr (PH.rows m).length (cellsN (PH.rows m)) :: BkB gb m vr (mo : Int) :: L) w) (hn : n = l.length) (hb : l = PBits.ofB by_) (hl : n ≤ 800000000) (ha : at_ ≤ n) (hmo : mo ≤ 15) (hs : PH.sum m ≤ 32768) (hm : m.length ≤ 1024) :
  Calls Tryd.prog 151 #[.pointer (some ⟨gb, 0, none⟩), .func (.func 150) #[] #[.pointer (some ⟨gv, 0, none⟩)]] w fun e w' =>
   e = .returned (.tuple #[.int .i64 ((PH.nextFrom m (l.drop at_) mo 0).2.2 : Int), .int .i64 (PH.nextFrom m (l.drop at_) mo 0).2.1]) ∧ Sp w0 (FeedX gv gx gr by_ vo vb most (at_ + (PH.nextFrom m (l.drop at_) mo 0).1) :: Row 3 1 vr (PH.rows m).length (cellsN (PH.rows m)) :: BkB gb m vr (mo : Int) :: L) w' := by
 obtain ⟨T, hT⟩ : ∃ T, PH.nextFrom m (l.drop at_) mo 0 = T := ⟨_, rfl⟩
 rw [hT]
 have HT := Lib.hid hT
 have HN := Lib.hid hn
 have HB := Lib.hid hb
 have HS := Lib.hid hs
 clear hT hn hb hs
 go_enter Tryd.func151, Tryd.ntmps151
 go_wp2_with fail
 go_loopw [6, 7, 8, 9] (fun c6 c7 c8 c9 wr => ∃ i : Nat, c6 = .int .i64 (PH.numb ((l.drop at_).take i) : Int) ∧ c7 = .int .i64 ((PH.fst m i + PH.tal m i : Nat) : Int) ∧ c8 = .int .i64 ((PH.rowsB m i).length : Int) ∧ c9 = .int .i64 ((i + 1 : Nat) : Int) ∧ i ≤ mo ∧ at_ + i ≤ n ∧ PH.fst m i + PH.tal m i ≤ PH.numb ((l.drop at_).take i) ∧ PH.nextFrom m (l.drop at_) (mo - i) i = T ∧ Sp w0 (FeedX gv gx gr by_ vo vb most (at_ + i) :: Row 3 1 vr (PH.rows m).length (cellsN (PH.rows m)) :: BkB gb m vr (mo : Int) :: L) wr) (fun _ _ _ c9 _ => mo + 1 - (intOf c9).toNat)
 case atStart => exact ⟨0, rfl, rfl, rfl, rfl, Nat.zero_le _, ha, Nat.zero_le _, HT.out, H⟩
 case round =>
  obtain ⟨i, rfl, rfl, rfl, rfl, hi, hai, hfc, hnx, H1⟩ := hrel
  obtain ⟨C, hC⟩ : ∃ C, PH.numb ((l.drop at_).take i) = C := ⟨_, rfl⟩
  obtain ⟨F, hF⟩ : ∃ F, PH.fst m i + PH.tal m i = F := ⟨_, rfl⟩
  obtain ⟨R, hR⟩ : ∃ R, (PH.rowsB m i).length = R := ⟨_, rfl⟩
  obtain ⟨P, hP⟩ : ∃ P, (PH.rows m).length = P := ⟨_, rfl⟩
  have hCl : C < 32768 := by
   have := PH.numb_lt ((l.drop at_).take i)
   have h2 : 2 ^ ((l.drop at_).take i).length ≤ 2 ^ 15 := Nat.pow_le_pow_right (by omega) (by rw [List.length_take]; omega)
   omega
  rw [hC, hF] at hfc
  rw [hC, hF, hR]
  obtain ⟨VR, cR, rfl, _, _⟩ := Row.form H1 1 rfl
  rw [hP] at H1
  rw [hP] at ⊢
  obtain ⟨c16, c17, _, _, ctal⟩ := BkB.get H1 2 rfl
  have e1 : ((i + 1 : Nat) : Int) = (i : Int) + 1 := by omega
  rw [e1]
  by_cases him : i < mo
  ·have k1 : (i : Int) + 1 ≤ (mo : Int) := by omega
   by_cases hat : at_ + i < n
   ·have hg : ∃ b, l[at_ + i]? = some b := ⟨l[at_ + i]'(by rw [← HN.out]; exact hat), List.getElem?_eq_getElem _⟩
    obtain ⟨b, hbi⟩ := hg
    have HBI := Lib.hid hbi
    have HNX := Lib.hid hnx
    have HC := Lib.hid hC
    have HF := Lib.hid hF
    have HR := Lib.hid hR
    have HP := Lib.hid hP
    have ct := Lib.hid (ctal (i + 1) (by omega))
    clear hbi hnx hC hF hR hP ctal H HT
    go_wp2_with fail
    refine (xbit_on gv gx gr by_ vo vb most (at_ + i) b H1 (by have := HN.out; rw [HB.out, PBits.ofB_length] at this; omega) (by rw [← HB.out]; exact HBI.out)).mono ?_
    rintro _ w1 ⟨rfl, H2⟩
    obtain ⟨c16, c17, _, _, ctal⟩ := BkB.get H2 2 rfl
    have ct := ctal (i + 1) (by omega)
    obtain ⟨t, ht⟩ : ∃ t, PH.tal m (i + 1) = t := ⟨_, rfl⟩
    rw [ht] at ct
    have HTT := Lib.hid ht
    have ht2 : t ≤ 1024 := by rw [← ht]; exact Nat.le_trans (PH.tal_le m _) hm
    have hR2 : R ≤ 15360 := by
     rw [← HR.out]
     exact Nat.le_trans (PH.rowsB_len m i) (Nat.mul_le_mul (by omega : i ≤ 15) hm)
    have HST := PH.next_on m l at_ i (mo - (i + 1)) C F b HBI.out HC.out HF.out
    rw [show mo - (i + 1) + 1 = mo - i by omega, HNX.out, ht, HR.out] at HST
    have HNB := Lib.hid (PH.numb_take l at_ i b HBI.out)
    have hrt : R + t ≤ (PH.rows m).length := by
     rw [← HR.out, ← ht, ← PH.rowsB_tal]
     exact PH.rowsB_mono m (i + 1) 15 (by omega)
    have HRT := Lib.hid hrt
    rw [HC.out] at HNB
    have hrr : ∀ q, q < (PH.rows m).length → ∃ ad, VR = some ad ∧ w1.cell? (ad.add q) = some (.int .i64 ((PH.rows m).getD q 0 : Int)) := by
     intro q hq
     obtain ⟨A9, c9, e9, hrd, _, _⟩ := H2.row_rd 1 rfl
     injection e9 with e9
     subst e9
     obtain ⟨ad, ea, hc⟩ := hrd.at_ (k := q) (by simpa [cellsN] using hq)
     refine ⟨ad, ea, ?_⟩
     rw [hc]
     simp [cellsN, List.getD_eq_getElem?_getD, List.getElem?_eq_getElem hq]
    have HRR := Lib.hid hrr
    have hz := or_zero C (by omega)
    have ho := or_one2 C (by omega)
    clear ctal ht hrt hrr
    have q1 : bits .and .u32 1 1 = 1 := by decide +kernel
    have q2 : bits .and .u32 0 1 = 0 := by decide +kernel
    cases b
    ·rw [show bitV false = 0 from rfl] at HST
     rw [show ((bitV false : Nat) : Int) = 0 from rfl]
     by_cases hit : 2 * C + 0 < 2 * F + t
     ·rw [if_pos hit] at HST
      obtain ⟨kk, hkk⟩ : ∃ kk, 2 * C + 0 - 2 * F = kk := ⟨_, rfl⟩
      rw [hkk] at HST
      have kv : (C : Int) * 2 - (F : Int) * 2 = (kk : Int) := by omega
      obtain ⟨q, hq0⟩ : ∃ q, R + kk = q := ⟨_, rfl⟩
      rw [hq0] at HST
      have kq : (R : Int) + (kk : Int) = (q : Int) := by omega
      have hq : q < (PH.rows m).length := by have := HRT.out; omega
      have hr2 := HRR.out q hq
      have k4 : (kk : Int) < (t : Int) := by omega
      have k6 : (q : Int) < (P : Int) := by rw [← HP.out]; omega
      obtain ⟨y, hy⟩ : ∃ y, (PH.rows m).getD q 0 = y := ⟨_, rfl⟩
      obtain ⟨ad, rfl, hcell⟩ := hr2
      rw [hy] at hcell HST
      have HTT2 := Lib.hid HST
      clear HST
      clear hy hkk hq0 hq HRR HRT
      go_wp2_with fail
      rw [HTT2.out]
      go_ret2
      exact ⟨rfl, by rw [HP.out]; exact H2⟩
     ·rw [if_neg hit] at HST
      have HTT2 := Lib.hid HST
      clear HST
      obtain ⟨kk, hkk⟩ : ∃ kk, 2 * C + 0 - 2 * F = kk := ⟨_, rfl⟩
      have kv : (C : Int) * 2 - (F : Int) * 2 = (kk : Int) := by omega
      have k4 : ¬ (kk : Int) < (t : Int) := by omega
      have HIT := Lib.hid hit
      clear hit hkk HRR HRT
      go_wp2_with fail
      have hit := HIT.out
      clear HIT
      go_roundw
      case rel =>
       refine ⟨i + 1, ?_, ?_, ?_, by go_num, by omega, by omega, ?_, HTT2.out.symm, H2⟩
       ·rw [HNB.out]; exact congrArg (Value.int .i64) (by simp [bitV]; omega)
       ·rw [PH.fst_next, HF.out, HTT.out]; exact congrArg (Value.int .i64) (by omega)
       ·rw [PH.rowsB_tal, HR.out, HTT.out]; exact congrArg (Value.int .i64) (by omega)
       ·rw [PH.fst_next, HF.out, HTT.out, HNB.out]; have hbf : bitV false = 0 := rfl; have hbt : bitV true = 1 := rfl; omega
      case measure => first | (simp [intOf]; omega) | simp [intOf]
    ·rw [show bitV true = 1 from rfl] at HST
     rw [show ((bitV true : Nat) : Int) = 1 from rfl]
     by_cases hit : 2 * C + 1 < 2 * F + t
     ·rw [if_pos hit] at HST
      obtain ⟨kk, hkk⟩ : ∃ kk, 2 * C + 1 - 2 * F = kk := ⟨_, rfl⟩
      rw [hkk] at HST
      have kv : (C : Int) * 2 + 1 - (F : Int) * 2 = (kk : Int) := by omega
      obtain ⟨q, hq0⟩ : ∃ q, R + kk = q := ⟨_, rfl⟩
      rw [hq0] at HST
      have kq : (R : Int) + (kk : Int) = (q : Int) := by omega
      have hq : q < (PH.rows m).length := by have := HRT.out; omega
      have hr2 := HRR.out q hq
      have k4 : (kk : Int) < (t : Int) := by omega
      have k6 : (q : Int) < (P : Int) := by rw [← HP.out]; omega
      obtain ⟨y, hy⟩ : ∃ y, (PH.rows m).getD q 0 = y := ⟨_, rfl⟩
      obtain ⟨ad, rfl, hcell⟩ := hr2
      rw [hy] at hcell HST
      have HTT2 := Lib.hid HST
      clear HST
      clear hy hkk hq0 hq HRR HRT
      go_wp2_with fail
      rw [HTT2.out]
      go_ret2
      exact ⟨rfl, by rw [HP.out]; exact H2⟩
     ·rw [if_neg hit] at HST
      have HTT2 := Lib.hid HST
      clear HST
      obtain ⟨kk, hkk⟩ : ∃ kk, 2 * C + 1 - 2 * F = kk := ⟨_, rfl⟩
      have kv : (C : Int) * 2 + 1 - (F : Int) * 2 = (kk : Int) := by omega
      have k4 : ¬ (kk : Int) < (t : Int) := by omega
      have HIT := Lib.hid hit
      clear hit hkk HRR HRT
      go_wp2_with fail
      have hit := HIT.out
      clear HIT
      go_roundw
      case rel =>
       refine ⟨i + 1, ?_, ?_, ?_, by go_num, by omega, by omega, ?_, HTT2.out.symm, H2⟩
       ·rw [HNB.out]; exact congrArg (Value.int .i64) (by simp [bitV]; omega)
       ·rw [PH.fst_next, HF.out, HTT.out]; exact congrArg (Value.int .i64) (by omega)
       ·rw [PH.rowsB_tal, HR.out, HTT.out]; exact congrArg (Value.int .i64) (by omega)
       ·rw [PH.fst_next, HF.out, HTT.out, HNB.out]; have hbf : bitV false = 0 := rfl; have hbt : bitV true = 1 := rfl; omega
      case measure => first | (simp [intOf]; omega) | simp [intOf]
   ·have hnx2 : T = (i, 4, 0) := by
     rw [← hnx, show mo - i = mo - (i + 1) + 1 by omega, PH.nextFrom, if_pos (by rw [List.length_drop, ← HN.out]; omega)]
    have HTT2 := Lib.hid hnx2
    have HP := Lib.hid hP
    have hend : at_ + i = n := by omega
    have HE := Lib.hid hend
    clear hnx hnx2 hC hF hR hP ctal H HT hend
    go_wp2_with fail
    refine (xbit_end gv gx gr by_ vo vb most (at_ + i) H1 (by have := HN.out; rw [HB.out, PBits.ofB_length] at this; omega) (by have := HN.out; rw [HB.out, PBits.ofB_length] at this; have := HE.out; omega)).mono ?_
    rintro _ w1 ⟨rfl, H2⟩
    go_wp2_with fail
    rw [HTT2.out]
    go_ret2
    exact ⟨rfl, by rw [HP.out]; exact H2⟩
  ·have k1 : ¬ (i : Int) + 1 ≤ (mo : Int) := by omega
   have hnx2 : T = (i, 20, 0) := by rw [← hnx, show mo - i = 0 by omega]; rfl
   have HTT2 := Lib.hid hnx2
   have HP := Lib.hid hP
   clear hnx hnx2 hC hF hR hP ctal H HT
   go_wp2_with fail
   rw [HTT2.out]
   go_ret2
   exact ⟨rfl, by rw [HP.out]; exact H1⟩
end Go.Proofs.YtiogaejfcenooaaDoor

namespace Go.Proofs.YtiogaejfcenooaaDoor
set_option linter.unusedVariables false
set_option linter.unusedSimpArgs false
open Go.RowKit
def Bok (gb : Nat) (m : List Nat) : Pr := Ex fun vr : Value => Star (Row 3 1 vr (PH.rows m).length (cellsN (PH.rows m))) (BkB gb m vr (PI.mostN m : Int))
set_option maxRecDepth 100000 in
theorem xsign_ok (gx gr gb : Nat) (l : List UInt8) (most at_ : Nat) (vo vb : Value) (m : List Nat) {w0 w : World} {L : List Pr} (H : Sp w0 (Rr gr l at_ :: XpB gx gr vo most vb :: Bok gb m :: L) w) (ha : at_ ≤ 8 * l.length) (hl : l.length ≤ 100000000) (hs : PH.sum m ≤ 32768) (hm : m.length ≤ 1024) :
  Calls Tryd.prog 112 #[.pointer (some ⟨gx, 0, none⟩), .pointer (some ⟨gb, 0, none⟩)] w fun e w' =>
   match PI.sign (PBits.ofB l) m at_ with
   | .error c => e = .panicked (pan c) ∧ Sp w0 L w'
   | .ok r => e = .returned (.int .i64 (r.2 : Int)) ∧ Sp w0 (Rr gr l r.1 :: XpB gx gr vo most vb :: Bok gb m :: L) w' := by
 have hmf : ∀ (fn : Fn) (first cap : Array Value) (w : World), (Instr.makeFunc fn first cap).run Tryd.prog w = .ok (.func fn first cap) w := fun _ _ _ _ => rfl
 have h7 := PI.next_facts m ((PBits.ofB l).drop at_) (PI.mostN m) (PI.mostN_le m)
 obtain ⟨T, hT⟩ : ∃ T, PH.nextFrom m ((PBits.ofB l).drop at_) (PI.mostN m) 0 = T := ⟨_, rfl⟩
 rw [hT] at h7
 have hq : PI.sign (PBits.ofB l) m at_ = if T.2.1 = 0 then .ok (at_ + T.1, T.2.2) else .error T.2.1.toNat := by unfold PI.sign; rw [hT]
 rw [hq]
 have HT := Lib.hid hT
 have H7 := Lib.hid h7.2
 obtain ⟨vr, H⟩ := (H.pick 3 [2, 0, 1]).unex
 replace H := H.unstar.pick 4 [2, 3, 0, 1]
 have H1 := feedX_shut ((H.newBk [.pointer (some ⟨gx, 0, none⟩)] 75).pick 5 [1, 2, 0, 3, 4])
 clear hT h7 hq
 have HL := Lib.hid hl
 have HA := Lib.hid ha
 by_cases h0 : T.2.1 = 0
 ·rw [if_pos h0]
  show Calls _ _ _ _ fun e w' => e = .returned (.int .i64 (T.2.2 : Int)) ∧ Sp w0 (Rr gr l (at_ + T.1) :: XpB gx gr vo most vb :: Bok gb m :: L) w'
  have h1 := xnext_ok gb w.heap.size gx gr l vo vb most vr m (PI.mostN m) (8 * l.length) at_ (PBits.ofB l) H1 (PBits.ofB_length l).symm rfl (by have := HL.out; omega) HA.out (PI.mostN_le m) hs hm
  rw [HT.out, h0] at h1
  obtain ⟨t, ht⟩ : ∃ t, T.2.2 = t := ⟨_, rfl⟩
  obtain ⟨q, hq⟩ : ∃ q, at_ + T.1 = q := ⟨_, rfl⟩
  rw [ht, hq] at h1
  rw [ht, hq]
  clear h0 ht hq HT H7
  have HN := Lib.hid h1
  clear h1
  go_enter Tryd.func112, Tryd.ntmps112
  go_wp2_with fail
  refine HN.out.mono ?_
  rintro _ w1 ⟨rfl, H2⟩
  have H3 := (feedX_open H2).pick 5 [0, 1, 3, 4]
  go_wp2_with fail
  refine (fail_ok w1).mono ?_
  rintro _ w2 ⟨rfl, rfl⟩
  go_wp2
  go_ret
  have H5 : Sp w0 (Bok gb m :: Rr gr l q :: XpB gx gr vo most vb :: L) w1 := Sp.ex vr (H3.pick 4 [2, 3, 0, 1]).star
  exact ⟨rfl, H5.pick 3 [1, 2, 0]⟩
 ·rw [if_neg h0]
  have hc : ∃ c : Nat, T.2.1 = (c : Int) ∧ c ≠ 0 := by
   rcases H7.out with h | h | h
   ·exact absurd h.1 h0
   ·exact ⟨4, h, by decide⟩
   ·exact ⟨20, h, by decide⟩
  obtain ⟨c, hc, hc0⟩ := hc
  have h1 := xnext_ok gb w.heap.size gx gr l vo vb most vr m (PI.mostN m) (8 * l.length) at_ (PBits.ofB l) H1 (PBits.ofB_length l).symm rfl (by have := HL.out; omega) HA.out (PI.mostN_le m) hs hm
  rw [HT.out, hc] at h1
  rw [hc, show ((c : Int)).toNat = c from rfl]
  show Calls _ _ _ _ fun e w' => e = .panicked (pan c) ∧ Sp w0 L w'
  obtain ⟨t, ht⟩ : ∃ t, T.2.2 = t := ⟨_, rfl⟩
  obtain ⟨q, hq⟩ : ∃ q, at_ + T.1 = q := ⟨_, rfl⟩
  rw [ht, hq] at h1
  clear hc h0 HT H7 ht hq
  have HN := Lib.hid h1
  clear h1
  go_enter Tryd.func112, Tryd.ntmps112
  go_wp2_with fail
  refine HN.out.mono ?_
  rintro _ w1 ⟨rfl, H2⟩
  have H3 := (feedX_open H2).pick 5 [0, 1, 3, 4]
  go_wp2_with fail
  refine (fail_no c hc0 w1).mono ?_
  rintro _ w2 ⟨rfl, rfl⟩
  go_wp2
  exact ⟨rfl, rfl, H3.pick 4 []⟩
end Go.Proofs.YtiogaejfcenooaaDoor

namespace Go.Proofs.YtiogaejfcenooaaDoor
open Go.RowKit
section
variable {P : Program} {Q : Exit → Act → World → Prop}
theorem putAll_defers (x : Nat → Value) : ∀ (ds : List (Option Tmp)) (k : Nat) (a : Act), (putAll a ds k x).defers = a.defers
 | [], _, _ => rfl
 | d :: ds, k, a => by
  unfold putAll
  rw [putAll_defers x ds (k + 1) _]
  cases d <;> rfl
theorem Sp.sub {w0 w : World} {L rest : List Pr} (H : Sp w0 rest w) (hE : ∀ φ, Ent L φ → Ent rest φ) : Sp w0 L w :=
 ⟨H.os, H.tape, H.output, hE (fun w => ∃ own : Nat → Nat, ∀ (i : Nat) (A : Pr), L[i]? = some A → A (cut (hpOf w) own i)) (fun _ _ h => h.own) _ _ H⟩
def freeAt4 (ds : List (Option Tmp)) (anc : List (List Nat)) (i t : Nat) : Bool := (List.range ds.length).all fun j => if ds.getD j none = some t then (anc.getD j []).contains i else true
def StepsSr (P : Program) (Q : Exit → Act → World → Prop) (S : Nat → Value → Prop) (R : Nat → Value → List Pr) (I : Nat → List Pr) (ds : List (Option Tmp)) (ac : List (List Nat)) (env : List (Nat × Value)) (w0 : World) (L : List Pr) : Nat → List Oper → List (List Nat) → List (List Nat) → List (List Nat) → Prop
 | i, o :: os, an :: ans, us :: uss, se :: ses => (∀ (x : Nat → Value) (w : World) (A : Act) (rest : List Pr),
   A.defers = [] → (∀ p, p ∈ env → freeAt4 ds ac i p.1 = true → A.tmps[p.1]?.getD undef = p.2) → (∀ j, j ∈ an → S j (x j) ∧ ∀ t, ds.getD j none = some t → A.tmps[t]?.getD undef = x j) → (∀ φ, Ent L φ → Ent rest φ) →
   Sp w0 (I i ++ (us.flatMap (fun j => R j (x j)) ++ (se.flatMap I ++ rest))) w →
   ∀ K : Act → World → Prop, (∀ v w', S i v → Sp w0 (R i v ++ (se.flatMap I ++ rest)) w' → K (A.put o.dst v) w') →
   StepOb P Q o x A w K) ∧ StepsSr P Q S R I ds ac env w0 L (i + 1) os ans uss ses
 | _, [], [], [], [] => True
 | _, _, _, _, _ => False
theorem stepsSr_get {S : Nat → Value → Prop} {R : Nat → Value → List Pr} {I : Nat → List Pr} {ds : List (Option Tmp)} {ac : List (List Nat)} {env : List (Nat × Value)} {w0 : World} {L : List Pr} :
  ∀ (l : List Oper) (k i : Nat) (o : Oper) (ans uss ses : List (List Nat)), StepsSr P Q S R I ds ac env w0 L k l ans uss ses → l[i]? = some o →
  ∀ (x : Nat → Value) (w : World) (A : Act) (rest : List Pr),
   A.defers = [] → (∀ p, p ∈ env → freeAt4 ds ac (k + i) p.1 = true → A.tmps[p.1]?.getD undef = p.2) → (∀ j, j ∈ ans.getD i [] → S j (x j) ∧ ∀ t, ds.getD j none = some t → A.tmps[t]?.getD undef = x j) → (∀ φ, Ent L φ → Ent rest φ) →
   Sp w0 (I (k + i) ++ ((uss.getD i []).flatMap (fun j => R j (x j)) ++ ((ses.getD i []).flatMap I ++ rest))) w →
   ∀ K : Act → World → Prop, (∀ v w', S (k + i) v → Sp w0 (R (k + i) v ++ ((ses.getD i []).flatMap I ++ rest)) w' → K (A.put o.dst v) w') →
   StepOb P Q o x A w K
 | [], _, _, _, _, _, _, _, h => by simp at h
 | o :: os, k, i, o', [], uss, ses, hs, h => by simp [StepsSr] at hs
 | o :: os, k, i, o', an :: ans, [], ses, hs, h => by simp [StepsSr] at hs
 | o :: os, k, i, o', an :: ans, us :: uss, [], hs, h => by simp [StepsSr] at hs
 | o :: os, k, 0, o', an :: ans, us :: uss, se :: ses, hs, h => by
  have : o = o' := by simpa using h
  subst this
  exact hs.1
 | o :: os, k, i + 1, o', an :: ans, us :: uss, se :: ses, hs, h => by
  have := stepsSr_get os (k + 1) i o' ans uss ses hs.2 (by simpa using h)
  rw [show k + 1 + i = k + (i + 1) by omega] at this
  exact this
theorem wp_region_sr {rid : Nat} {l : List Oper} {a0 : Act} {w w0 : World} {L : List Pr}
    (S : Nat → Value → Prop) (R : Nat → Value → List Pr) (I : Nat → List Pr) (n sz : Nat)
    (ds : List (Option Tmp)) (pre anc use see : List (List Nat)) (env : List (Nat × Value)) (hm : P.follows .mixedOrders = true)
    (hds : l.map (·.dst) = ds) (hdist : Distinct ds)
    (hpre : (l.map fun o => (o.after.toList.filter (Region.binds .any ·)).map (·.on)) = pre)
    (hn : pre.length = n) (hanc : ancOk pre anc = true) (hflow : flowOk n anc use see = true) (hgu : guardsOk l ds anc = true) (hanl : anc.length = n)
    (hdv : a0.defers = []) (hsz : a0.tmps.size = sz) (hlt : ds.all (fun d => match d with | some t => decide (t < sz) | none => true) = true)
    (henv : ∀ p, p ∈ env → a0.tmps[p.1]?.getD undef = p.2)
    (H : Sp w0 ((List.range n).flatMap I ++ L) w)
    (hstep : StepsSr P Q S R I ds anc env w0 L 0 l anc use see)
    (hend : ∀ (x : Nat → Value) (w : World) (A : Act), A = putAll a0 ds 0 x → (∀ i, i < n → S i (x i)) →
      Sp w0 ((List.range n).flatMap (fun i => if (List.range n).any (fun k => (use.getD k []).contains i) then [] else R i (x i)) ++ L) w → Q .normal A w) :
    (Code.region rid l.toArray true).wp P Q a0 w := by
  have hdl : ds.length = l.length := by rw [← hds]; simp
  have hpl : pre.length = l.length := by rw [← hpre]; simp
  refine wp_region_sp0 S R I n ds pre anc use see hm hds hdist hpre hn hanc hflow H (fun i o ho x w A rest hA hS hu hE hH => ?_) hend
  have hil : i < l.length := (List.getElem?_eq_some_iff.1 ho).1
  have hslot : ∀ j, j < n → ∀ t, ds.getD j none = some t → A.tmps[t]? = some (x j) := fun j hj t ht => by
    have hj' : j < ds.length := by omega
    rw [List.getD_eq_getElem?_getD, List.getElem?_eq_getElem hj'] at ht
    simp only [Option.getD_some] at ht
    have htl := List.all_eq_true.1 hlt _ (List.getElem_mem hj')
    rw [ht] at htl
    replace htl : t < sz := by simpa using htl
    rw [hA, putAll_eval x ds 0 j t a0 hdist (by rw [List.getElem?_eq_getElem hj', ht]) (Nat.lt_of_lt_of_eq htl hsz.symm), Nat.zero_add]
  have hanlt : ∀ j, j ∈ anc.getD i [] → j < n := fun j hj => by
    have h := List.all_eq_true.1 hanc i (by simp; omega)
    simp only [Bool.and_eq_true] at h
    have := List.all_eq_true.1 h.2 j hj
    simp only [Bool.and_eq_true, decide_eq_true_eq] at this
    omega
  have hob := stepsSr_get l 0 i o anc use see hstep ho x w A rest (by rw [hA, putAll_defers]; exact hdv) (fun p hp hfr => by
      rw [Nat.zero_add] at hfr
      rw [← henv p hp, hA]
      by_cases hm : some p.1 ∈ ds
      · obtain ⟨j, hj, hjt⟩ := List.getElem_of_mem hm
        have hfj := List.all_eq_true.1 hfr j (by simpa using hj)
        have hdj : ds.getD j none = some p.1 := by rw [List.getD_eq_getElem?_getD, List.getElem?_eq_getElem hj, hjt]; rfl
        rw [if_pos hdj] at hfj
        have hb := hu j (by simpa using hfj)
        have hpt : p.1 < a0.tmps.size := by
          have htl := List.all_eq_true.1 hlt _ (List.getElem_mem hj)
          rw [hjt] at htl
          replace htl : p.1 < sz := by simpa using htl
          omega
        rw [putAll_eval x ds 0 j p.1 a0 hdist (by rw [List.getElem?_eq_getElem hj, hjt]) hpt, Nat.zero_add, hb]
        unfold base
        rw [hdj]
        show (some (a0.tmps.getD p.1 undef)).getD undef = _
        rw [Array.getD_eq_getD_getElem?]; rfl
      · rw [putAll_eval_far x p.1 ds 0 a0 hm]) (fun j hj => ⟨hS j hj, fun t ht => by rw [hslot j (hanlt j hj) t ht]; rfl⟩) hE (by rw [Nat.zero_add]; exact hH)
    (Gave w0 S R i A o.dst ((see.getD i []).flatMap I ++ rest)) (fun v w' h1 h2 => ⟨v, rfl, by rwa [Nat.zero_add] at h1, by rwa [Nat.zero_add] at h2⟩)
  unfold StepOb at hob
  unfold wpList
  cases hg : o.guard with
  | none =>
    rw [hg] at hob
    have hw : Region.wanted o (yielded l.toArray A.tmps) = true := by simp [Region.wanted, hg]
    rw [if_pos hw]
    refine .inl ?_
    refine Oper.wp_mono (fun a w h => ?_) (upon_exits' hob)
    exact h
  | some p =>
    obtain ⟨j, b⟩ := p
    rw [hg] at hob
    obtain ⟨c, hc, hob⟩ := hob
    have hg2 := List.all_eq_true.1 hgu (o, anc.getD i []) (by
      rw [List.mem_iff_getElem?]
      refine ⟨i, ?_⟩
      rw [List.getElem?_zip_eq_some]
      refine ⟨ho, ?_⟩
      rw [List.getD_eq_getElem?_getD, List.getElem?_eq_getElem (by omega)]; rfl)
    simp only [hg, Bool.and_eq_true, List.contains_iff_mem] at hg2
    obtain ⟨hja, hjs⟩ := hg2
    have hjn := hanlt j hja
    obtain ⟨t, ht⟩ := Option.isSome_iff_exists.1 hjs
    have hy : yielded l.toArray A.tmps j = c := by
      unfold yielded
      have hdj : (l.toArray[j]?).bind (·.dst) = some t := by
        have hj' : j < ds.length := by omega
        rw [List.getD_eq_getElem?_getD, List.getElem?_eq_getElem hj'] at ht
        simp only [Option.getD_some] at ht
        subst hds
        have hj2 : j < l.length := by simpa using hj'
        rw [List.getElem_map] at ht
        simp [hj2, ht]
      rw [hdj]
      simp only [Option.bind_some, hslot j hjn t ht]
      rw [← hc]
      cases x j <;> rfl
    have hw : Region.wanted o (yielded l.toArray A.tmps) = (c == some b) := by simp [Region.wanted, hg, hy]
    rw [hw]
    by_cases hcb : c = some b
    · rw [if_pos hcb] at hob
      rw [if_pos (by simp [hcb])]
      exact .inl (upon_exits' hob)
    · rw [if_neg hcb] at hob
      rw [if_neg (by simpa using hcb)]
      exact hob
end
end Go.Proofs.YtiogaejfcenooaaDoor

namespace Go.Proofs.YtiogaejfcenooaaDoor
open Go.RowKit
def cellsP (t : List (Nat × Nat)) : List Value := t.flatMap fun p => [.int .i64 (p.1 : Int), .int .i64 (p.2 : Int)]
theorem cellsP_len (t : List (Nat × Nat)) : (cellsP t).length = t.length * 2 := by
 induction t with
 | nil => rfl
 | cons p t ih => show ([_, _] ++ cellsP t).length = _; simp [ih]; omega
theorem cellsP_get : ∀ (t : List (Nat × Nat)) (i : Nat), i < t.length → (cellsP t)[i * 2]? = some (.int .i64 ((t.getD i (0, 0)).1 : Int)) ∧ (cellsP t)[i * 2 + 1]? = some (.int .i64 ((t.getD i (0, 0)).2 : Int))
 | [], i, h => by simp at h
 | p :: t, 0, _ => ⟨rfl, rfl⟩
 | p :: t, i + 1, h => by
  have := cellsP_get t i (by simpa using h)
  have e : cellsP (p :: t) = [.int .i64 (p.1 : Int), .int .i64 (p.2 : Int)] ++ cellsP t := rfl
  rw [e, List.getElem?_append_right (by simp; omega), List.getElem?_append_right (by simp; omega)]
  simp only [List.length_cons, List.length_nil]
  rw [show (i + 1) * 2 - (0 + 1 + 1) = i * 2 by omega, show (i + 1) * 2 + 1 - (0 + 1 + 1) = i * 2 + 1 by omega]
  exact this
theorem rdP {w : World} {A : Option Addr} {t : List (Nat × Nat)} (h : Rd w A (cellsP t)) {i : Nat} (hi : i < t.length) : ∃ ad, A = some ad ∧ w.cell? (ad.add (i * 2)) = some (.int .i64 ((t.getD i (0, 0)).1 : Int)) ∧ w.cell? ⟨(ad.add (i * 2)).block, (ad.add (i * 2)).off + 1, none⟩ = some (.int .i64 ((t.getD i (0, 0)).2 : Int)) := by
 obtain ⟨ad, e, hc⟩ := h (by intro e; have := cellsP_len t; rw [e] at this; simp at this; omega)
 have hg := cellsP_get t i hi
 refine ⟨ad, e, hc _ _ hg.1, ?_⟩
 rw [field_addr ad (i * 2) 1 (by omega)]
 exact hc _ _ hg.2
end Go.Proofs.YtiogaejfcenooaaDoor

