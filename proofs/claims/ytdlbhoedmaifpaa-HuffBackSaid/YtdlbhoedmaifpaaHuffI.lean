/- HuffI: Next of a book. -/
import Derived.Test.YtdlbhoedmaifpaaHuffH
import Derived.Lib.QuoteBits
namespace Go.Proofs.Ytdlbhoedmaifpaa
open Go.RowKit
namespace PH
/-- Bits as a number, the first the highest. -/
def numb (l : List Bool) : Nat := l.foldl (fun x b => 2 * x + bitV b) 0
theorem numb_snoc (l : List Bool) (b : Bool) : numb (l ++ [b]) = 2 * numb l + bitV b := by unfold numb; rw [List.foldl_append]; rfl
theorem numb_lt (l : List Bool) : numb l < 2 ^ l.length := by
  generalize hk : l.length = k
  induction k generalizing l with
  | zero => rw [List.eq_nil_of_length_eq_zero hk]; decide
  | succ k ih =>
    have hne : l ≠ [] := by rintro rfl; cases hk
    have h1 := List.dropLast_concat_getLast hne
    have h2 := ih l.dropLast (by rw [List.length_dropLast]; omega)
    rw [← h1, numb_snoc, Nat.pow_succ]
    have : bitV (l.getLast hne) ≤ 1 := by unfold bitV; split <;> omega
    omega
/-- What Next answers: how many bits are taken, the error, the symbol. -/
def nextFrom (m : List Nat) (l : List Bool) : Nat → Nat → Nat × Int × Nat
  | 0, n => (n, 20, 0)
  | k + 1, n => if l.length ≤ n then (n, 4, 0) else
    if numb (l.take (n + 1)) < fst m (n + 1) + tal m (n + 1) then (n + 1, 0, (rows m).getD ((rowsB m n).length + (numb (l.take (n + 1)) - fst m (n + 1))) 0) else nextFrom m l k (n + 1)
theorem rowsB_tal (m : List Nat) (n : Nat) : (rowsB m (n + 1)).length = (rowsB m n).length + tal m (n + 1) := by
  rw [rowsB, List.length_append]
  congr 1
  unfold tal
  rw [if_neg (by omega)]
  have h : ∀ k, k ≤ m.length → (idx m (n + 1) k).length = (m.take k).count (n + 1) := by
    intro k
    induction k with
    | zero => intro _; simp [idx]
    | succ k ih =>
      intro hk
      have h1 := ih (by omega)
      have hg : m.getD k 0 = m[k]'(by omega) := by rw [List.getD_eq_getElem?_getD, List.getElem?_eq_getElem (by omega)]; rfl
      rw [idx_succ, List.take_succ_eq_append_getElem (by omega), List.count_append, hg]
      by_cases e : m[k]'(by omega) = n + 1
      · rw [if_pos e, List.length_append, h1, e]; simp
      · rw [if_neg e, h1]; simp [e]
  have := h m.length (Nat.le_refl _)
  rwa [List.take_length] at this
theorem rowsB_mono (m : List Nat) (n k : Nat) (h : n ≤ k) : (rowsB m n).length ≤ (rowsB m k).length := by
  obtain ⟨d, rfl⟩ : ∃ d, k = n + d := ⟨k - n, by omega⟩
  clear h
  induction d with
  | zero => exact Nat.le_refl _
  | succ d ih => have := rowsB_tal m (n + d); rw [← Nat.add_assoc]; omega
theorem fst_next (m : List Nat) (i : Nat) : fst m (i + 1) = 2 * (fst m i + tal m i) := by
  cases i with
  | zero => rfl
  | succ i => rw [show fst m (i + 1 + 1) = (fst m (i + 1) + tal m (i + 1)) * 2 from rfl]; omega
theorem numb_take (l : List Bool) (a i : Nat) (b : Bool) (h : l[a + i]? = some b) : numb ((l.drop a).take (i + 1)) = 2 * numb ((l.drop a).take i) + bitV b := by
  rw [List.take_add_one, List.getElem?_drop, h]
  exact numb_snoc _ _
theorem next_on (m : List Nat) (l : List Bool) (a i k C F : Nat) (b : Bool) (h : l[a + i]? = some b) (hC : numb ((l.drop a).take i) = C) (hF : fst m i + tal m i = F) :
    nextFrom m (l.drop a) (k + 1) i = if 2 * C + bitV b < 2 * F + tal m (i + 1) then (i + 1, 0, (rows m).getD ((rowsB m i).length + (2 * C + bitV b - 2 * F)) 0) else nextFrom m (l.drop a) k (i + 1) := by
  have h1 := numb_take l a i b h
  have h2 := fst_next m i
  rw [hC] at h1
  rw [hF] at h2
  have h3 : ¬ (l.drop a).length ≤ i := by
    obtain ⟨h4, _⟩ := List.getElem?_eq_some_iff.1 h
    rw [List.length_drop]; omega
  rw [nextFrom, if_neg h3, h1, h2]
end PH
theorem or_zero (x : Nat) (hx : x < 4611686018427387904) : bits .or .i64 ((x : Int) * 2) 0 = (x : Int) * 2 := by
  have e : (x : Int) * 2 = ((x * 2 : Nat) : Int) := by omega
  rw [e]
  show IntKind.i64.wrap ((BitVec.ofInt 64 ((x * 2 : Nat) : Int) ||| BitVec.ofInt 64 ((0 : Nat) : Int)).toNat : Int) = _
  rw [BitVec.toNat_or, ofInt_u64 (x * 2) (by omega), ofInt_u64 0 (by omega), Nat.or_zero]
  exact Go.Lib.wrap_i64_small _ (by omega)
theorem or_one2 (x : Nat) (hx : x < 4611686018427387904) : bits .or .i64 ((x : Int) * 2) 1 = (x : Int) * 2 + 1 := by
  have e : (x : Int) * 2 = ((x * 2 : Nat) : Int) := by omega
  rw [e, Go.Lib.or_one (x * 2) (by omega)]
  omega
set_option maxRecDepth 100000 in
set_option maxHeartbeats 4000000 in
theorem next_ok (gb g : Nat) (vr : Value) (m : List Nat) (mo : Nat) (A : Option Addr) (n c at_ : Nat) (l : List Bool) {w0 w : World} {L : List Pr} (H : Sp w0 (FeedB g A n c at_ :: Row 3 1 vr (PH.rows m).length (cellsN (PH.rows m)) :: BkB gb m vr (mo : Int) :: L) w) (hn : n = l.length) (hb : Ent L fun w => Rd w A (cellsBo l)) (hl : n ≤ 1000000) (ha : at_ ≤ n) (hmo : mo ≤ 15) (hs : PH.sum m ≤ 32768) (hm : m.length ≤ 1024) :
    Calls Try.prog 36 #[.pointer (some ⟨gb, 0, none⟩), .func (.func 37) #[.pointer (some ⟨g, 0, none⟩)] #[]] w fun e w' =>
      e = .returned (.tuple #[.int .i64 ((PH.nextFrom m (l.drop at_) mo 0).2.2 : Int), .int .i64 (PH.nextFrom m (l.drop at_) mo 0).2.1]) ∧ Sp w0 (FeedB g A n c (at_ + (PH.nextFrom m (l.drop at_) mo 0).1) :: Row 3 1 vr (PH.rows m).length (cellsN (PH.rows m)) :: BkB gb m vr (mo : Int) :: L) w' := by
  obtain ⟨T, hT⟩ : ∃ T, PH.nextFrom m (l.drop at_) mo 0 = T := ⟨_, rfl⟩
  rw [hT]
  have HT := Lib.hid hT
  have HN := Lib.hid hn
  have HB := Lib.hid hb
  have HS := Lib.hid hs
  clear hT hn hb hs
  go_enter Try.func36, Try.ntmps36
  go_wp2_with fail
  go_loopw [6, 7, 8, 9] (fun c6 c7 c8 c9 wr => ∃ i : Nat, c6 = .int .i64 (PH.numb ((l.drop at_).take i) : Int) ∧ c7 = .int .i64 ((PH.fst m i + PH.tal m i : Nat) : Int) ∧ c8 = .int .i64 ((PH.rowsB m i).length : Int) ∧ c9 = .int .i64 ((i + 1 : Nat) : Int) ∧ i ≤ mo ∧ at_ + i ≤ n ∧ PH.fst m i + PH.tal m i ≤ PH.numb ((l.drop at_).take i) ∧ PH.nextFrom m (l.drop at_) (mo - i) i = T ∧ Sp w0 (FeedB g A n c (at_ + i) :: Row 3 1 vr (PH.rows m).length (cellsN (PH.rows m)) :: BkB gb m vr (mo : Int) :: L) wr) (fun _ _ _ c9 _ => mo + 1 - (intOf c9).toNat)
  case atStart => exact ⟨0, rfl, rfl, rfl, rfl, Nat.zero_le _, ha, Nat.zero_le _, HT.out, H⟩
  case round =>
    obtain ⟨i, rfl, rfl, rfl, rfl, hi, hai, hfc, hnx, H1⟩ := hrel
    obtain ⟨C, hC⟩ : ∃ C, PH.numb ((l.drop at_).take i) = C := ⟨_, rfl⟩
    obtain ⟨F, hF⟩ : ∃ F, PH.fst m i + PH.tal m i = F := ⟨_, rfl⟩
    obtain ⟨R, hR⟩ : ∃ R, (PH.rowsB m i).length = R := ⟨_, rfl⟩
    obtain ⟨P, hP⟩ : ∃ P, (PH.rows m).length = P := ⟨_, rfl⟩
    have hCl : C < 32768 := by
      have := PH.numb_lt ((l.drop at_).take i)
      have h2 : 2 ^ ((l.drop at_).take i).length ≤ 2 ^ 15 := Nat.pow_le_pow_right (by omega) (by rw [List.length_take]; omega)
      omega
    rw [hC, hF] at hfc
    rw [hC, hF, hR]
    obtain ⟨VR, cR, rfl, _, _⟩ := Row.form H1 1 rfl
    rw [hP] at H1
    rw [hP] at ⊢
    obtain ⟨c16, c17, _, _, ctal⟩ := BkB.get H1 2 rfl
    have e1 : ((i + 1 : Nat) : Int) = (i : Int) + 1 := by omega
    rw [e1]
    by_cases him : i < mo
    · have k1 : (i : Int) + 1 ≤ (mo : Int) := by omega
      by_cases hat : at_ + i < n
      · have hg : ∃ b, l[at_ + i]? = some b := ⟨l[at_ + i]'(by rw [← HN.out]; exact hat), List.getElem?_eq_getElem _⟩
        obtain ⟨b, hbi⟩ := hg
        have HBI := Lib.hid hbi
        have HNX := Lib.hid hnx
        have HC := Lib.hid hC
        have HF := Lib.hid hF
        have HR := Lib.hid hR
        have HP := Lib.hid hP
        have ct := Lib.hid (ctal (i + 1) (by omega))
        clear hbi hnx hC hF hR hP ctal H HT
        go_wp2_with fail
        refine (feed_on g A n c (at_ + i) l b H1 HN.out (HB.out.cons _ |>.cons _) (by omega) HBI.out).mono ?_
        rintro _ w1 ⟨rfl, H2⟩
        obtain ⟨c16, c17, _, _, ctal⟩ := BkB.get H2 2 rfl
        have ct := ctal (i + 1) (by omega)
        obtain ⟨t, ht⟩ : ∃ t, PH.tal m (i + 1) = t := ⟨_, rfl⟩
        rw [ht] at ct
        have HTT := Lib.hid ht
        have ht2 : t ≤ 1024 := by rw [← ht]; exact Nat.le_trans (PH.tal_le m _) hm
        have hR2 : R ≤ 15360 := by
          rw [← HR.out]
          exact Nat.le_trans (PH.rowsB_len m i) (Nat.mul_le_mul (by omega : i ≤ 15) hm)
        have HST := PH.next_on m l at_ i (mo - (i + 1)) C F b HBI.out HC.out HF.out
        rw [show mo - (i + 1) + 1 = mo - i by omega, HNX.out, ht, HR.out] at HST
        have HNB := Lib.hid (PH.numb_take l at_ i b HBI.out)
        have hrt : R + t ≤ (PH.rows m).length := by
          rw [← HR.out, ← ht, ← PH.rowsB_tal]
          exact PH.rowsB_mono m (i + 1) 15 (by omega)
        have HRT := Lib.hid hrt
        rw [HC.out] at HNB
        have hrr : ∀ q, q < (PH.rows m).length → ∃ ad, VR = some ad ∧ w1.cell? (ad.add q) = some (.int .i64 ((PH.rows m).getD q 0 : Int)) := by
          intro q hq
          obtain ⟨A9, c9, e9, hrd, _, _⟩ := H2.row_rd 1 rfl
          injection e9 with e9
          subst e9
          obtain ⟨ad, ea, hc⟩ := hrd.at_ (k := q) (by simpa [cellsN] using hq)
          refine ⟨ad, ea, ?_⟩
          rw [hc]
          simp [cellsN, List.getD_eq_getElem?_getD, List.getElem?_eq_getElem hq]
        have HRR := Lib.hid hrr
        have hz := or_zero C (by omega)
        have ho := or_one2 C (by omega)
        clear ctal ht hrt hrr
        have q1 : bits .and .u32 1 1 = 1 := by decide +kernel
        have q2 : bits .and .u32 0 1 = 0 := by decide +kernel
        cases b
        · rw [show bitV false = 0 from rfl] at HST
          rw [show ((bitV false : Nat) : Int) = 0 from rfl]
          by_cases hit : 2 * C + 0 < 2 * F + t
          · rw [if_pos hit] at HST
            obtain ⟨kk, hkk⟩ : ∃ kk, 2 * C + 0 - 2 * F = kk := ⟨_, rfl⟩
            rw [hkk] at HST
            have kv : (C : Int) * 2 - (F : Int) * 2 = (kk : Int) := by omega
            obtain ⟨q, hq0⟩ : ∃ q, R + kk = q := ⟨_, rfl⟩
            rw [hq0] at HST
            have kq : (R : Int) + (kk : Int) = (q : Int) := by omega
            have hq : q < (PH.rows m).length := by have := HRT.out; omega
            have hr2 := HRR.out q hq
            have k4 : (kk : Int) < (t : Int) := by omega
            have k6 : (q : Int) < (P : Int) := by rw [← HP.out]; omega
            obtain ⟨y, hy⟩ : ∃ y, (PH.rows m).getD q 0 = y := ⟨_, rfl⟩
            obtain ⟨ad, rfl, hcell⟩ := hr2
            rw [hy] at hcell HST
            have HTT2 := Lib.hid HST
            clear HST
            clear hy hkk hq0 hq HRR HRT
            go_wp2_with fail
            rw [HTT2.out]
            go_ret2
            exact ⟨rfl, by rw [HP.out]; exact H2⟩
          · rw [if_neg hit] at HST
            have HTT2 := Lib.hid HST
            clear HST
            obtain ⟨kk, hkk⟩ : ∃ kk, 2 * C + 0 - 2 * F = kk := ⟨_, rfl⟩
            have kv : (C : Int) * 2 - (F : Int) * 2 = (kk : Int) := by omega
            have k4 : ¬ (kk : Int) < (t : Int) := by omega
            have HIT := Lib.hid hit
            clear hit hkk HRR HRT
            go_wp2_with fail
            have hit := HIT.out
            clear HIT
            go_roundw
            case rel =>
              refine ⟨i + 1, ?_, ?_, ?_, by go_num, by omega, by omega, ?_, HTT2.out.symm, H2⟩
              · rw [HNB.out]; exact congrArg (Value.int .i64) (by simp [bitV]; omega)
              · rw [PH.fst_next, HF.out, HTT.out]; exact congrArg (Value.int .i64) (by omega)
              · rw [PH.rowsB_tal, HR.out, HTT.out]; exact congrArg (Value.int .i64) (by omega)
              · rw [PH.fst_next, HF.out, HTT.out, HNB.out]; have hbf : bitV false = 0 := rfl; have hbt : bitV true = 1 := rfl; omega
            case measure => first | (simp [intOf]; omega) | simp [intOf]
        · rw [show bitV true = 1 from rfl] at HST
          rw [show ((bitV true : Nat) : Int) = 1 from rfl]
          by_cases hit : 2 * C + 1 < 2 * F + t
          · rw [if_pos hit] at HST
            obtain ⟨kk, hkk⟩ : ∃ kk, 2 * C + 1 - 2 * F = kk := ⟨_, rfl⟩
            rw [hkk] at HST
            have kv : (C : Int) * 2 + 1 - (F : Int) * 2 = (kk : Int) := by omega
            obtain ⟨q, hq0⟩ : ∃ q, R + kk = q := ⟨_, rfl⟩
            rw [hq0] at HST
            have kq : (R : Int) + (kk : Int) = (q : Int) := by omega
            have hq : q < (PH.rows m).length := by have := HRT.out; omega
            have hr2 := HRR.out q hq
            have k4 : (kk : Int) < (t : Int) := by omega
            have k6 : (q : Int) < (P : Int) := by rw [← HP.out]; omega
            obtain ⟨y, hy⟩ : ∃ y, (PH.rows m).getD q 0 = y := ⟨_, rfl⟩
            obtain ⟨ad, rfl, hcell⟩ := hr2
            rw [hy] at hcell HST
            have HTT2 := Lib.hid HST
            clear HST
            clear hy hkk hq0 hq HRR HRT
            go_wp2_with fail
            rw [HTT2.out]
            go_ret2
            exact ⟨rfl, by rw [HP.out]; exact H2⟩
          · rw [if_neg hit] at HST
            have HTT2 := Lib.hid HST
            clear HST
            obtain ⟨kk, hkk⟩ : ∃ kk, 2 * C + 1 - 2 * F = kk := ⟨_, rfl⟩
            have kv : (C : Int) * 2 + 1 - (F : Int) * 2 = (kk : Int) := by omega
            have k4 : ¬ (kk : Int) < (t : Int) := by omega
            have HIT := Lib.hid hit
            clear hit hkk HRR HRT
            go_wp2_with fail
            have hit := HIT.out
            clear HIT
            go_roundw
            case rel =>
              refine ⟨i + 1, ?_, ?_, ?_, by go_num, by omega, by omega, ?_, HTT2.out.symm, H2⟩
              · rw [HNB.out]; exact congrArg (Value.int .i64) (by simp [bitV]; omega)
              · rw [PH.fst_next, HF.out, HTT.out]; exact congrArg (Value.int .i64) (by omega)
              · rw [PH.rowsB_tal, HR.out, HTT.out]; exact congrArg (Value.int .i64) (by omega)
              · rw [PH.fst_next, HF.out, HTT.out, HNB.out]; have hbf : bitV false = 0 := rfl; have hbt : bitV true = 1 := rfl; omega
            case measure => first | (simp [intOf]; omega) | simp [intOf]
      · have hnx2 : T = (i, 4, 0) := by
          rw [← hnx, show mo - i = mo - (i + 1) + 1 by omega, PH.nextFrom, if_pos (by rw [List.length_drop, ← HN.out]; omega)]
        have HTT2 := Lib.hid hnx2
        have HP := Lib.hid hP
        have hend : at_ + i = n := by omega
        have HE := Lib.hid hend
        clear hnx hnx2 hC hF hR hP ctal H HT hend
        go_wp2_with fail
        refine (feed_end g A n c (at_ + i) H1 (by omega) HE.out).mono ?_
        rintro _ w1 ⟨rfl, H2⟩
        go_wp2_with fail
        rw [HTT2.out]
        go_ret2
        exact ⟨rfl, by rw [HP.out]; exact H2⟩
    · have k1 : ¬ (i : Int) + 1 ≤ (mo : Int) := by omega
      have hnx2 : T = (i, 20, 0) := by rw [← hnx, show mo - i = 0 by omega]; rfl
      have HTT2 := Lib.hid hnx2
      have HP := Lib.hid hP
      clear hnx hnx2 hC hF hR hP ctal H HT
      go_wp2_with fail
      rw [HTT2.out]
      go_ret2
      exact ⟨rfl, by rw [HP.out]; exact H1⟩
end Go.Proofs.Ytdlbhoedmaifpaa
