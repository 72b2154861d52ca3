/- A pack of texts: BitsMath HuffG HuffH HuffI HuffCode HuffS HuffT HuffKnown HuffU BitsS3 BitsQ BitsP BitsO. -/
import Derived.Deep.CutRange
import Derived.Laws.BitsAllLaws
import Derived.Lib.QuoteBits
import Derived.StillTailTactics
import Derived.Test.YtiogaejfcenooaaDoorProg
import Derived.WalkKit
import Derived.Test.YtiogaejfcenooaaDoorPk01
import Derived.Test.YtiogaejfcenooaaDoorPk02
import Derived.Test.YtiogaejfcenooaaDoorPk11
import Derived.Test.YtiogaejfcenooaaDoorPk12
namespace Go.Proofs.YtiogaejfcenooaaDoor.PBits
def le : List UInt8 → Nat
 | [] => 0
 | b :: l => b.toNat + 256 * le l
def bytesOf (V : Nat) : Nat → List UInt8
 | 0 => []
 | n + 1 => UInt8.ofNat (V % 256) :: bytesOf (V / 256) n
theorem le_lt (l : List UInt8) : le l < 256 ^ l.length := by
 induction l with
 | nil => simp [le]
 | cons b l ih =>
  have := b.toNat_lt
  simp only [le, List.length_cons, Nat.pow_succ]
  omega
theorem bytesOf_length (V n : Nat) : (bytesOf V n).length = n := by
 induction n generalizing V with
 | zero => rfl
 | succ n ih => simp [bytesOf, ih]
theorem le_bytesOf (V n : Nat) : le (bytesOf V n) = V % 256 ^ n := by
 induction n generalizing V with
 | zero => simp [bytesOf, le, Nat.mod_one]
 | succ n ih =>
  have h := Nat.mod_mul (x := V) (a := 256) (b := 256 ^ n)
  have hb : (UInt8.ofNat (V % 256)).toNat = V % 256 := by rw [UInt8.toNat_ofNat']; omega
  have e : (256 : Nat) ^ (n + 1) = 256 * 256 ^ n := by rw [Nat.pow_succ, Nat.mul_comm]
  simp only [bytesOf, le, ih, hb, e, h]
theorem bytesOf_add (V n m : Nat) : bytesOf V (n + m) = bytesOf V n ++ bytesOf (V / 256 ^ n) m := by
 induction n generalizing V with
 | zero => simp [bytesOf]
 | succ n ih =>
  rw [show n + 1 + m = (n + m) + 1 by omega]
  simp only [bytesOf, ih, List.cons_append, Nat.div_div_eq_div_mul]
  rw [show 256 * 256 ^ n = 256 ^ (n + 1) by rw [Nat.pow_succ, Nat.mul_comm]]
theorem bytesOf_more (V W n : Nat) : bytesOf (V + W * 256 ^ n) n = bytesOf V n := by
 induction n generalizing V W with
 | zero => rfl
 | succ n ih =>
  have h1 : (V + W * 256 ^ (n + 1)) % 256 = V % 256 := by
   rw [Nat.pow_succ, ← Nat.mul_assoc, Nat.add_mul_mod_self_right]
  have h2 : (V + W * 256 ^ (n + 1)) / 256 = V / 256 + W * 256 ^ n := by
   rw [Nat.pow_succ, ← Nat.mul_assoc, Nat.add_mul_div_right _ _ (by omega)]
  simp only [bytesOf, h1, h2, ih]
theorem le_append (a b : List UInt8) : le (a ++ b) = le a + 256 ^ a.length * le b := by
 induction a with
 | nil => simp [le]
 | cons x a ih =>
  simp only [List.cons_append, le, ih, List.length_cons, Nat.pow_succ, Nat.mul_add]
  rw [← Nat.mul_assoc, Nat.mul_comm 256 (256 ^ a.length)]
  omega
def rev (n : Nat) : Nat → Nat
 | 0 => 0
 | k + 1 => (n % 2) * 2 ^ k + rev (n / 2) k
def sw (s M x : Nat) : Nat := (x / 2 ^ s &&& M) ||| (x &&& M) * 2 ^ s
theorem pow_parts (N : Nat) : 2 ^ N = 2 ^ (N % 8) * 256 ^ (N / 8) := by
 rw [show (256 : Nat) = 2 ^ 8 by decide, ← Nat.pow_mul, ← Nat.pow_add]
 congr 1
 omega
theorem put_bytes (V n N : Nat) : bytesOf (V + n * 2 ^ N) (N / 8) = bytesOf V (N / 8) := by
 rw [pow_parts N, ← Nat.mul_assoc, bytesOf_more]
theorem put_wait (V n N : Nat) : (V + n * 2 ^ N) / 256 ^ (N / 8) = V / 256 ^ (N / 8) + n * 2 ^ (N % 8) := by
 rw [pow_parts N, ← Nat.mul_assoc, Nat.add_mul_div_right _ _ (Nat.pow_pos (by decide))]
theorem byte_next (X q : Nat) : bytesOf X (q + 1) = bytesOf X q ++ [UInt8.ofNat (X / 256 ^ q % 256)] := by
 rw [bytesOf_add]
 rfl
end Go.Proofs.YtiogaejfcenooaaDoor.PBits

namespace Go.Proofs.YtiogaejfcenooaaDoor
open Go.RowKit
set_option maxRecDepth 100000 in
theorem new_bad (A : Option Addr) (n c : Nat) (l : List Int) {w0 w : World} {L : List Pr} (H : Sp w0 L w) (hn : n = l.length) (hb : Ent L fun w => Rd w A (cells64 l)) (hl : n ≤ 1000000000) (hm : PH.may l = false) :
  Calls Tryd.prog 154 #[.slice A n c] w fun e w' => e = .returned (.tuple #[.pointer none, .int .i64 1]) ∧ Sp w0 L w' := by
 have hst := state_bad A n c l H hn hb hl hm
 clear hn hb hm
 go_enter Tryd.func154, Tryd.ntmps154
 go_wp2_with fail
 refine hst.mono ?_
 rintro _ w1 ⟨rfl, H1⟩
 clear hst
 go_wp2_with fail
 go_ret2
 exact ⟨rfl, H1⟩
end Go.Proofs.YtiogaejfcenooaaDoor

namespace Go.Proofs.YtiogaejfcenooaaDoor
open Go.RowKit
def bitV (b : Bool) : Nat := if b then 1 else 0
end Go.Proofs.YtiogaejfcenooaaDoor

namespace Go.Proofs.YtiogaejfcenooaaDoor
open Go.RowKit
namespace PH
def numb (l : List Bool) : Nat := l.foldl (fun x b => 2 * x + bitV b) 0
theorem numb_snoc (l : List Bool) (b : Bool) : numb (l ++ [b]) = 2 * numb l + bitV b := by unfold numb; rw [List.foldl_append]; rfl
theorem numb_lt (l : List Bool) : numb l < 2 ^ l.length := by
 generalize hk : l.length = k
 induction k generalizing l with
 | zero => rw [List.eq_nil_of_length_eq_zero hk]; decide
 | succ k ih =>
  have hne : l ≠ [] := by rintro rfl; cases hk
  have h1 := List.dropLast_concat_getLast hne
  have h2 := ih l.dropLast (by rw [List.length_dropLast]; omega)
  rw [← h1, numb_snoc, Nat.pow_succ]
  have : bitV (l.getLast hne) ≤ 1 := by unfold bitV; split <;> omega
  omega
def nextFrom (m : List Nat) (l : List Bool) : Nat → Nat → Nat × Int × Nat
 | 0, n => (n, 20, 0)
 | k + 1, n => if l.length ≤ n then (n, 4, 0) else
  if numb (l.take (n + 1)) < fst m (n + 1) + tal m (n + 1) then (n + 1, 0, (rows m).getD ((rowsB m n).length + (numb (l.take (n + 1)) - fst m (n + 1))) 0) else nextFrom m l k (n + 1)
theorem rowsB_tal (m : List Nat) (n : Nat) : (rowsB m (n + 1)).length = (rowsB m n).length + tal m (n + 1) := by
 rw [rowsB, List.length_append]
 congr 1
 unfold tal
 rw [if_neg (by omega)]
 have h : ∀ k, k ≤ m.length → (idx m (n + 1) k).length = (m.take k).count (n + 1) := by
  intro k
  induction k with
  | zero => intro _; simp [idx]
  | succ k ih =>
   intro hk
   have h1 := ih (by omega)
   have hg : m.getD k 0 = m[k]'(by omega) := by rw [List.getD_eq_getElem?_getD, List.getElem?_eq_getElem (by omega)]; rfl
   rw [idx_succ, List.take_succ_eq_append_getElem (by omega), List.count_append, hg]
   by_cases e : m[k]'(by omega) = n + 1
   ·rw [if_pos e, List.length_append, h1, e]; simp
   ·rw [if_neg e, h1]; simp [e]
 have := h m.length (Nat.le_refl _)
 rwa [List.take_length] at this
theorem rowsB_mono (m : List Nat) (n k : Nat) (h : n ≤ k) : (rowsB m n).length ≤ (rowsB m k).length := by
 obtain ⟨d, rfl⟩ : ∃ d, k = n + d := ⟨k - n, by omega⟩
 clear h
 induction d with
 | zero => exact Nat.le_refl _
 | succ d ih => have := rowsB_tal m (n + d); rw [← Nat.add_assoc]; omega
theorem fst_next (m : List Nat) (i : Nat) : fst m (i + 1) = 2 * (fst m i + tal m i) := by
 cases i with
 | zero => rfl
 | succ i => rw [show fst m (i + 1 + 1) = (fst m (i + 1) + tal m (i + 1)) * 2 from rfl]; omega
theorem numb_take (l : List Bool) (a i : Nat) (b : Bool) (h : l[a + i]? = some b) : numb ((l.drop a).take (i + 1)) = 2 * numb ((l.drop a).take i) + bitV b := by
 rw [List.take_add_one, List.getElem?_drop, h]
 exact numb_snoc _ _
theorem next_on (m : List Nat) (l : List Bool) (a i k C F : Nat) (b : Bool) (h : l[a + i]? = some b) (hC : numb ((l.drop a).take i) = C) (hF : fst m i + tal m i = F) :
  nextFrom m (l.drop a) (k + 1) i = if 2 * C + bitV b < 2 * F + tal m (i + 1) then (i + 1, 0, (rows m).getD ((rowsB m i).length + (2 * C + bitV b - 2 * F)) 0) else nextFrom m (l.drop a) k (i + 1) := by
 have h1 := numb_take l a i b h
 have h2 := fst_next m i
 rw [hC] at h1
 rw [hF] at h2
 have h3 : ¬ (l.drop a).length ≤ i := by
  obtain ⟨h4, _⟩ := List.getElem?_eq_some_iff.1 h
  rw [List.length_drop]; omega
 rw [nextFrom, if_neg h3, h1, h2]
end PH
theorem or_zero (x : Nat) (hx : x < 4611686018427387904) : bits .or .i64 ((x : Int) * 2) 0 = (x : Int) * 2 := by
 have e : (x : Int) * 2 = ((x * 2 : Nat) : Int) := by omega
 rw [e]
 show IntKind.i64.wrap ((BitVec.ofInt 64 ((x * 2 : Nat) : Int) ||| BitVec.ofInt 64 ((0 : Nat) : Int)).toNat : Int) = _
 rw [BitVec.toNat_or, ofInt_u64 (x * 2) (by omega), ofInt_u64 0 (by omega), Nat.or_zero]
 exact Go.Lib.wrap_i64_small _ (by omega)
theorem or_one2 (x : Nat) (hx : x < 4611686018427387904) : bits .or .i64 ((x : Int) * 2) 1 = (x : Int) * 2 + 1 := by
 have e : (x : Int) * 2 = ((x * 2 : Nat) : Int) := by omega
 rw [e, Go.Lib.or_one (x * 2) (by omega)]
 omega
end Go.Proofs.YtiogaejfcenooaaDoor

namespace Go.Proofs.YtiogaejfcenooaaDoor
set_option linter.unusedVariables false
namespace PH
theorem idx_get (m : List Nat) (n k r : Nat) (hk : k ≤ m.length) (h : r < (idx m n k).length) : ∃ i, i < k ∧ (idx m n k).getD r 0 = i ∧ m.getD i 0 = n ∧ (m.take i).count n = r := by
 induction k generalizing r with
 | zero => simp [idx] at h
 | succ k ih =>
  rw [idx_succ] at h ⊢
  have hlen : ∀ q, q ≤ m.length → (idx m n q).length = (m.take q).count n := by
   intro q
   induction q with
   | zero => intro _; simp [idx]
   | succ q ihq =>
    intro hq
    have h1 := ihq (by omega)
    have hg : m.getD q 0 = m[q]'(by omega) := by rw [List.getD_eq_getElem?_getD, List.getElem?_eq_getElem (by omega)]; rfl
    rw [idx_succ, List.take_succ_eq_append_getElem (by omega), List.count_append, hg]
    by_cases e : m[q]'(by omega) = n
    ·rw [if_pos e, List.length_append, h1, e]; simp
    ·rw [if_neg e, h1]; simp [e]
  by_cases e : m.getD k 0 = n
  ·rw [if_pos e] at h ⊢
   rw [List.length_append, List.length_singleton] at h
   rcases Nat.lt_or_ge r (idx m n k).length with hr | hr
   ·obtain ⟨i, h1, h2, h3, h4⟩ := ih r (by omega) hr
    refine ⟨i, by omega, ?_, h3, h4⟩
    rw [List.getD_eq_getElem?_getD, List.getElem?_append_left hr, ← List.getD_eq_getElem?_getD]; exact h2
   ·have hr2 : r = (idx m n k).length := by omega
    refine ⟨k, by omega, ?_, e, by rw [hr2, hlen k (by omega)]⟩
    rw [List.getD_eq_getElem?_getD, List.getElem?_append_right hr, hr2, Nat.sub_self]; rfl
  ·rw [if_neg e] at h ⊢
   obtain ⟨i, h1, h2, h3, h4⟩ := ih r (by omega) h
   exact ⟨i, by omega, h2, h3, h4⟩
theorem tal_pos (m : List Nat) (n : Nat) (h : n ≠ 0) : tal m n = m.count n := by unfold tal; rw [if_neg h]
theorem rank_lt (m : List Nat) (i n : Nat) (hi : i < m.length) (hn : m.getD i 0 = n) : (m.take i).count n < m.count n := by
 have h := List.take_append_drop i m
 have hd : m.drop i = m[i] :: m.drop (i + 1) := List.drop_eq_getElem_cons hi
 have hg : m[i] = n := by rw [← hn, List.getD_eq_getElem?_getD, List.getElem?_eq_getElem hi]; rfl
 have e : m.count n = (m.take i).count n + (m.drop i).count n := by
  conv => lhs; rw [← h]
  rw [List.count_append]
 rw [e, hd, hg, List.count_cons_self]; omega
theorem rank_inj (m : List Nat) (i j n : Nat) (hi : i < m.length) (hj : j < m.length) (hin : m.getD i 0 = n) (hjn : m.getD j 0 = n) (h : (m.take i).count n = (m.take j).count n) : i = j := by
 have key : ∀ i j, i < j → j ≤ m.length → m.getD i 0 = n → (m.take i).count n < (m.take j).count n := by
  intro i j hij hj hin
  have h1 := rank_lt (m.take j) i n (by rw [List.length_take]; omega) (by rw [List.getD_eq_getElem?_getD, List.getElem?_take_of_lt hij, ← List.getD_eq_getElem?_getD]; exact hin)
  rwa [List.take_take, Nat.min_eq_left (by omega)] at h1
 rcases Nat.lt_trichotomy i j with h1 | h1 | h1
 ·have := key i j h1 (by omega) hin; omega
 ·exact h1
 ·have := key j i h1 (by omega) hjn; omega
theorem codeAt_of (m : List Nat) (i n : Nat) (hn : m.getD i 0 = n) (h0 : n ≠ 0) : codeAt m i = fst m n + (m.take i).count n := by
 unfold codeAt; rw [hn, if_neg h0]
theorem codeAt_lt (m : List Nat) (i n : Nat) (hi : i < m.length) (hn : m.getD i 0 = n) (h0 : n ≠ 0) : fst m n ≤ codeAt m i ∧ codeAt m i < fst m n + tal m n := by
 rw [codeAt_of m i n hn h0, tal_pos m n h0]
 have := rank_lt m i n hi hn
 omega
theorem rowsB_take (m : List Nat) (n k : Nat) (h : n ≤ k) : ∃ t, rowsB m k = rowsB m n ++ t := by
 obtain ⟨d, rfl⟩ : ∃ d, k = n + d := ⟨k - n, by omega⟩
 clear h
 induction d with
 | zero => exact ⟨[], by simp⟩
 | succ d ih =>
  obtain ⟨t, ht⟩ := ih
  exact ⟨t ++ idx m (n + d + 1) m.length, by rw [← Nat.add_assoc, rowsB, ht, List.append_assoc]⟩
theorem code_sym (m : List Nat) (n c : Nat) (hn : n < 15) (h1 : fst m (n + 1) ≤ c) (h2 : c < fst m (n + 1) + tal m (n + 1)) :
  ∃ i, i < m.length ∧ m.getD i 0 = n + 1 ∧ codeAt m i = c ∧ (rows m).getD ((rowsB m n).length + (c - fst m (n + 1))) 0 = i := by
 have hl := rowsB_tal m n
 rw [rowsB, List.length_append] at hl
 obtain ⟨i, hi, hg, hm, hc⟩ := idx_get m (n + 1) m.length (c - fst m (n + 1)) (Nat.le_refl _) (by omega)
 refine ⟨i, hi, hm, by rw [codeAt_of m i (n + 1) hm (by omega), hc]; omega, ?_⟩
 obtain ⟨t, ht⟩ := rowsB_take m (n + 1) 15 (by omega)
 unfold rows
 rw [ht, rowsB, List.append_assoc, List.getD_eq_getElem?_getD, List.getElem?_append_right (by omega), show (rowsB m n).length + (c - fst m (n + 1)) - (rowsB m n).length = c - fst m (n + 1) by omega, List.getElem?_append_left (by omega), ← List.getD_eq_getElem?_getD]
 exact hg
theorem code_inj (m : List Nat) (i j : Nat) (hi : i < m.length) (hj : j < m.length) (h0 : m.getD i 0 ≠ 0) (hl : m.getD i 0 = m.getD j 0) (hc : codeAt m i = codeAt m j) : i = j := by
 rw [codeAt_of m i _ rfl h0, codeAt_of m j _ hl.symm h0] at hc
 exact rank_inj m i j _ hi hj rfl hl.symm (by omega)
theorem fst_share15 (m : List Nat) (n : Nat) (h1 : 1 ≤ n) (h : n ≤ 15) : fst m n * 2 ^ (15 - n) = share m n := by
 have := fst_share m n h1 (by omega)
 rw [show 16 - n = (15 - n) + 1 by omega, Nat.pow_succ, ← Nat.mul_assoc] at this
 omega
theorem share_next (m : List Nat) (n : Nat) (h1 : 1 ≤ n) (h : n ≤ 15) : (fst m n + tal m n) * 2 ^ (15 - n) = share m (n + 1) := by
 rw [Nat.add_mul, fst_share15 m n h1 h, share]
theorem share_one (m : List Nat) : share m 1 = 0 := by simp [share, tal]
def hit (m : List Nat) (R i : Nat) : Prop := m.getD i 0 ≠ 0 ∧ R / 2 ^ (15 - m.getD i 0) = codeAt m i
instance (m : List Nat) (R i : Nat) : Decidable (hit m R i) := inferInstanceAs (Decidable (_ ∧ _))
theorem tal_le_rows (m : List Nat) (n : Nat) (h1 : 1 ≤ n) (h : n ≤ 15) : tal m n ≤ (rows m).length := by
 obtain ⟨p, rfl⟩ : ∃ p, n = p + 1 := ⟨n - 1, by omega⟩
 have h2 := rowsB_tal m p
 have h3 := rowsB_mono m (p + 1) 15 h
 unfold rows; omega
theorem sum_none (m : List Nat) (h : (rows m).length = 0) : sum m = 0 := by
 have key : ∀ n, n ≤ 16 → share m n = 0 := by
  intro n
  induction n with
  | zero => intro _; rfl
  | succ n ih =>
   intro hn
   rw [share, ih (by omega)]
   rcases Nat.eq_zero_or_pos n with h0 | h0
   ·subst h0; simp [tal]
   ·have := tal_le_rows m n h0 (by omega)
    rw [show tal m n = 0 by omega]; simp
 exact key 16 (Nat.le_refl _)
theorem sum_single (m : List Nat) (h : (rows m).length = 1) (h1 : tal m 1 = 1) : sum m = 16384 := by
 have hz : ∀ n, 2 ≤ n → n ≤ 15 → tal m n = 0 := by
  intro n h2 h3
  obtain ⟨p, rfl⟩ : ∃ p, n = p + 1 := ⟨n - 1, by omega⟩
  have q1 := rowsB_tal m 0
  have q2 := rowsB_mono m 1 p (by omega)
  have q3 := rowsB_tal m p
  have q4 := rowsB_mono m (p + 1) 15 h3
  unfold rows at h
  rw [show (rowsB m 0).length = 0 from rfl, show 0 + 1 = 1 from rfl] at q1
  omega
 have key : ∀ n, 2 ≤ n → n ≤ 16 → share m n = 16384 := by
  intro n
  induction n with
  | zero => intro h; omega
  | succ n ih =>
   intro h2 hn
   rcases Nat.lt_or_ge n 2 with q | q
   ·obtain rfl : n = 1 := by omega
    rw [share, share_one, h1]
   ·rw [share, ih q (by omega), hz n q (by omega)]; simp
 exact key 16 (by omega) (by omega)
theorem share_two (m : List Nat) : share m 2 = tal m 1 * 16384 := by rw [share, share_one]; simp
theorem many_no_book (m : List Nat) (h : PH.state m = 1) : mayBook m = false := by
 have hs : 32768 < sum m := by
  unfold PH.state at h
  by_cases q : sum m < 32768
  ·rw [if_pos q] at h; omega
  ·rw [if_neg q] at h
   by_cases q2 : 32768 < sum m
   ·exact q2
   ·rw [if_neg q2] at h; omega
 cases hb : mayBook m with
 | false => rfl
 | true =>
  exfalso
  unfold mayBook at hb
  simp only [Bool.or_eq_true, Bool.and_eq_true, decide_eq_true_eq] at hb
  rcases hb with h2 | h2 | ⟨h1, h2⟩
  ·omega
  ·rw [sum_none m h2] at hs; omega
  ·rw [sum_single m h1 h2] at hs; omega
end PH
end Go.Proofs.YtiogaejfcenooaaDoor

namespace Go.Proofs.YtiogaejfcenooaaDoor
set_option linter.unusedVariables false
open Go.RowKit
namespace PH
theorem tal_append (a b : List Nat) (n : Nat) : tal (a ++ b) n = tal a n + tal b n := by
 unfold tal
 split
 ·rfl
 ·exact List.count_append
theorem share_append (a b : List Nat) (k : Nat) : share (a ++ b) k = share a k + share b k := by
 induction k with
 | zero => rfl
 | succ k ih => rw [share, share, share, ih, tal_append, Nat.add_mul]; omega
theorem share_single (x : Nat) (k : Nat) : share [x] k = if 0 < x ∧ x < k then 2 ^ (15 - x) else 0 := by
 induction k with
 | zero => rw [if_neg (by omega)]; rfl
 | succ k ih =>
  rw [share, ih]
  have ht : tal [x] k = if k = 0 then 0 else if x = k then 1 else 0 := by
   unfold tal
   by_cases h0 : k = 0
   ·rw [if_pos h0, if_pos h0]
   ·rw [if_neg h0, if_neg h0, List.count_singleton]
    by_cases h1 : x = k
    ·rw [if_pos h1, if_pos (by simpa using h1)]
    ·rw [if_neg h1, if_neg (by simpa using h1)]
  rw [ht]
  by_cases h1 : x = k
  ·subst h1
   by_cases h0 : x = 0
   ·rw [if_pos h0, if_neg (by omega), if_neg (by omega)]; simp
   ·rw [if_neg h0, if_pos rfl, if_neg (by omega), if_pos (by omega)]; omega
  ·rw [show (if k = 0 then 0 else if x = k then 1 else 0) = 0 by simp [h1], Nat.zero_mul, Nat.add_zero]
   by_cases h2 : 0 < x ∧ x < k
   ·rw [if_pos h2, if_pos (by omega)]
   ·rw [if_neg h2, if_neg (by omega)]
theorem sum_take (m : List Nat) (i : Nat) (hi : i < m.length) (x : Nat) (hx : m[i] = x) (h15 : x ≤ 15) : sum (m.take (i + 1)) = sum (m.take i) + if 0 < x then 2 ^ (15 - x) else 0 := by
 unfold sum
 rw [List.take_succ_eq_append_getElem hi, share_append, hx, share_single]
 congr 1
 by_cases h : 0 < x
 ·rw [if_pos h, if_pos (by omega)]
 ·rw [if_neg h, if_neg (by omega)]
end PH
def laid (m : List Nat) (q i j : Nat) : Nat := if m.getD j 0 = 0 then 0 else if m.getD j 0 < q ∨ (m.getD j 0 = q ∧ j < i) then PH.codeAt m j else 0
end Go.Proofs.YtiogaejfcenooaaDoor

namespace Go.Proofs.YtiogaejfcenooaaDoor
set_option linter.unusedVariables false
open Go.RowKit
namespace PH
theorem mayBook_sum (m : List Nat) (h : mayBook m = true) : sum m ≤ 32768 := by
 rcases Nat.lt_or_ge 32768 (sum m) with q | q
 ·have : PH.state m = 1 := by
   unfold PH.state
   rw [if_neg (by omega), if_pos q]
  rw [many_no_book m this] at h; cases h
 ·exact q
end PH
end Go.Proofs.YtiogaejfcenooaaDoor

namespace Go.Proofs.YtiogaejfcenooaaDoor
open Go.RowKit
theorem new_no (A : Option Addr) (n c : Nat) (m : List Nat) {w0 w : World} {L : List Pr} (H : Sp w0 L w) (hn : n = m.length) (hb : Ent L fun w => Rd w A (cells64 (castI m))) (hl : n ≤ 1024) (h15 : ∀ x ∈ m, x ≤ 15) (hm : mayBook m = false) :
  Calls Tryd.prog 154 #[.slice A n c] w fun e w' => e = .returned (.tuple #[.pointer none, .int .i64 20]) ∧ Sp w0 L w' :=
 (new_ok A n c m H hn hb hl h15).mono fun e w' h => by rw [if_neg (by rw [hm]; decide)] at h; exact h
theorem new_yes (A : Option Addr) (n c : Nat) (m : List Nat) {w0 w : World} {L : List Pr} (H : Sp w0 L w) (hn : n = m.length) (hb : Ent L fun w => Rd w A (cells64 (castI m))) (hl : n ≤ 1024) (h15 : ∀ x ∈ m, x ≤ 15) (hm : mayBook m = true) :
  Calls Tryd.prog 154 #[.slice A n c] w fun e w' => ∃ g v, e = .returned (.tuple #[.pointer (some ⟨g, 0, none⟩), .int .i64 0]) ∧ Sp w0 (Row 3 1 v (PH.rows m).length (cellsN (PH.rows m)) :: BkB g m v (mostOf m) :: L) w' :=
 (new_ok A n c m H hn hb hl h15).mono fun e w' h => by rw [if_pos hm] at h; exact h
def fxl (i : Nat) : Nat := if i < 144 then 8 else if i < 256 then 9 else if i < 280 then 7 else 8
def fixedL : List Nat := (List.range 288).map fxl
end Go.Proofs.YtiogaejfcenooaaDoor
namespace Go.Proofs.YtiogaejfcenooaaDoor
set_option linter.unusedVariables false
open Go.RowKit
namespace PH
def nat (l : List Int) : List Nat := l.map Int.toNat
def ecI (l : List Int) : Int := if may l = true then (if PH.state (nat l) = 1 then 20 else 0) else 1
def okB (l : List Int) : Bool := may l && mayBook (nat l)
def enI (l : List Int) : Int := if may l = true then 20 else 1
def cn (l : List Int) : Nat := if ecI l = 0 then l.length else 0
theorem may_split {l : List Int} (h : may l = true) : l = castI (nat l) ∧ (nat l).length ≤ 1024 ∧ ∀ n ∈ nat l, n ≤ 15 := by
 obtain ⟨m, hm, h1, h2⟩ := may_nat h
 have : nat l = m := by
  unfold nat
  rw [hm, List.map_map]
  refine (List.map_congr_left fun n _ => ?_).trans (List.map_id m)
  show ((n : Int)).toNat = n
  omega
 rw [this]
 exact ⟨hm, h1, h2⟩
theorem nat_len (l : List Int) : (nat l).length = l.length := by simp [nat]
theorem nextFrom_err (m : List Nat) (l : List Bool) (k n : Nat) (hn : n ≤ l.length) (hk : n + k ≤ 15) (hk0 : n + k ≤ l.length ∨ True) :
  n ≤ (nextFrom m l k n).1 ∧ (nextFrom m l k n).1 ≤ l.length ∧ ((nextFrom m l k n).2.1 = 0 ∧ n + 1 ≤ (nextFrom m l k n).1 ∨ (nextFrom m l k n).2.1 = 4 ∨ (nextFrom m l k n).2.1 = 20) := by
 induction k generalizing n with
 | zero => exact ⟨Nat.le_refl _, hn, .inr (.inr rfl)⟩
 | succ k ih =>
  rw [nextFrom]
  by_cases h : l.length ≤ n
  ·rw [if_pos h]; exact ⟨Nat.le_refl _, hn, .inr (.inl rfl)⟩
  ·rw [if_neg h]
   by_cases h2 : numb (l.take (n + 1)) < fst m (n + 1) + tal m (n + 1)
   ·rw [if_pos h2]
    exact ⟨by show n ≤ n + 1; omega, by show n + 1 ≤ _; omega, .inl ⟨rfl, Nat.le_refl _⟩⟩
   ·rw [if_neg h2]
    obtain ⟨a, b, c⟩ := ih (n + 1) (by omega) (by omega) (.inr trivial)
    refine ⟨by omega, b, ?_⟩
    rcases c with ⟨c1, c2⟩ | c | c
    ·exact .inl ⟨c1, by omega⟩
    ·exact .inr (.inl c)
    ·exact .inr (.inr c)
end PH
section
variable (A : Option Addr) (n c : Nat) (l : List Int) {w0 w : World} {L : List Pr}
theorem new_any_no (H : Sp w0 L w) (hn : n = l.length) (hb : Ent L fun w => Rd w A (cells64 l)) (hl : n ≤ 1000000) (hk : PH.okB l = false) :
  Calls Tryd.prog 154 #[.slice A n c] w fun e w' => e = .returned (.tuple #[.pointer none, .int .i64 (PH.enI l)]) ∧ Sp w0 L w' := by
 unfold PH.enI
 unfold PH.okB at hk
 cases hm : PH.may l with
 | true =>
  obtain ⟨h1, h2, h3⟩ := PH.may_split hm
  rw [hm, Bool.true_and] at hk
  rw [if_pos rfl]
  exact new_no A n c (PH.nat l) H (by rw [PH.nat_len]; exact hn) (by rw [← h1]; exact hb) (by rw [hn, ← PH.nat_len]; exact h2) h3 hk
 | false =>
  rw [if_neg (by decide)]
  exact new_bad A n c l H hn hb (by omega) hm
theorem new_any_yes (H : Sp w0 L w) (hn : n = l.length) (hb : Ent L fun w => Rd w A (cells64 l)) (hk : PH.okB l = true) :
  Calls Tryd.prog 154 #[.slice A n c] w fun e w' => ∃ g v, e = .returned (.tuple #[.pointer (some ⟨g, 0, none⟩), .int .i64 0]) ∧ Sp w0 (Row 3 1 v (PH.rows (PH.nat l)).length (cellsN (PH.rows (PH.nat l))) :: BkB g (PH.nat l) v (mostOf (PH.nat l)) :: L) w' := by
 unfold PH.okB at hk
 simp only [Bool.and_eq_true] at hk
 obtain ⟨h1, h2, h3⟩ := PH.may_split hk.1
 exact new_yes A n c (PH.nat l) H (by rw [PH.nat_len]; exact hn) (by rw [← h1]; exact hb) (by rw [hn, ← PH.nat_len]; exact h2) h3 hk.2
end
end Go.Proofs.YtiogaejfcenooaaDoor

namespace Go.Proofs.YtiogaejfcenooaaDoor
open Go.RowKit
theorem i64_and7 (x : Int) : bits .and .i64 x 7 = x % 8 := by
 have e2 : (BitVec.ofInt 64 (7 : Int)).toNat = 7 := rfl
 show IntKind.i64.wrap ((BitVec.ofInt 64 x &&& BitVec.ofInt 64 (7 : Int)).toNat : Int) = _
 rw [BitVec.toNat_and, BitVec.toNat_ofInt, e2, nat_mask3, IntKind.wrap_i64]
 omega
end Go.Proofs.YtiogaejfcenooaaDoor

namespace Go.Proofs.YtiogaejfcenooaaDoor
open Go.RowKit
namespace PBits
theorem le_drop (l : List UInt8) (q : Nat) : le (l.drop q) = le l / 256 ^ q := by
 by_cases h : q ≤ l.length
 ·conv => rhs; rw [← List.take_append_drop q l, le_append]
  have h1 := le_lt (l.take q)
  have h2 : (l.take q).length = q := by simp [h]
  rw [h2] at h1 ⊢
  rw [Nat.add_mul_div_left _ _ (Nat.pow_pos (by decide)), Nat.div_eq_of_lt h1, Nat.zero_add]
 ·rw [List.drop_eq_nil_of_le (by omega)]
  have h1 := le_lt l
  rw [Nat.div_eq_of_lt (Nat.lt_of_lt_of_le h1 (Nat.pow_le_pow_right (by decide) (by omega)))]
  rfl
theorem le_byte (l : List UInt8) (i : Nat) : le l / 256 ^ i % 256 = (l.getD i 0).toNat := by
 rw [← le_drop]
 by_cases h : i < l.length
 ·rw [List.drop_eq_getElem_cons h, le, List.getD_eq_getElem?_getD, List.getElem?_eq_getElem h]
  have := l[i].toNat_lt
  simp only [Option.getD_some]
  omega
 ·rw [List.drop_eq_nil_of_le (by omega), List.getD_eq_getElem?_getD, List.getElem?_eq_none (by omega)]
  rfl
theorem mod_next (R k : Nat) : R % 256 ^ (k + 1) = R % 256 ^ k + 256 ^ k * (R / 256 ^ k % 256) := by
 rw [Nat.pow_succ, Nat.mod_mul]
def peek (l : List UInt8) (at_ k : Nat) : Nat := le l / 2 ^ at_ % 2 ^ k
theorem peek_of (l : List UInt8) (at_ k K : Nat) (hK : k + 7 ≤ 8 * K) : (le l / 256 ^ (at_ / 8)) % 256 ^ K / 2 ^ (at_ % 8) % 2 ^ k = peek l at_ k := by
 unfold peek
 have e1 : (256 : Nat) ^ K = 2 ^ (at_ % 8) * (2 ^ k * 2 ^ (8 * K - k - at_ % 8)) := by
  rw [show (256 : Nat) = 2 ^ 8 by decide, ← Nat.pow_mul, ← Nat.pow_add, ← Nat.pow_add]
  congr 1; omega
 have e2 : (256 : Nat) ^ (at_ / 8) * 2 ^ (at_ % 8) = 2 ^ at_ := by
  rw [show (256 : Nat) = 2 ^ 8 by decide, ← Nat.pow_mul, ← Nat.pow_add]
  congr 1; omega
 rw [e1, Nat.mod_mul_right_div_self, Nat.mod_mul_right_mod, Nat.div_div_eq_div_mul, e2]
end PBits
def RrB (g : Nat) (v : Value) (at_ : Nat) : Pr := Bk g 112 [v, .int .i64 (at_ : Int), .bool true]
def Rr (g : Nat) (l : List UInt8) (at_ : Nat) : Pr := Ex fun v : Value => Star (RrB g v at_) (Row 5 1 v l.length (cells8 l))
theorem rnone_any (g : Nat) (w : World) (c2 : w.cell? ⟨g, 2, none⟩ = some (.bool true)) :
  Calls Tryd.prog 48 #[.pointer (some ⟨g, 0, none⟩)] w fun e w' => e = .returned (.bool false) ∧ w = w' := by
 go_enter Tryd.func48, Tryd.ntmps48
 go_wp2
 go_ret
 exact ⟨rfl, rfl⟩
theorem rasks_ok (g : Nat) (m : Int) (w : World) (c2 : w.cell? ⟨g, 2, none⟩ = some (.bool true)) (h0 : 0 ≤ m) (h1 : m ≤ 57) :
  Calls Tryd.prog 149 #[.func (.func 48) #[.pointer (some ⟨g, 0, none⟩)] #[], .int .i64 m, .bool true] w fun e w' => e = .returned (.int .i64 0) ∧ w = w' := by
 go_enter Tryd.func149, Tryd.ntmps149
 go_wp2_with fail
 refine (rnone_any g _ c2).mono ?_
 rintro e w2 ⟨rfl, rfl⟩
 have k1 : ¬ (57 : Int) < m := by omega
 have k2 : ¬ m < 0 := by omega
 go_wp2
 go_ret
 exact ⟨rfl, rfl⟩
theorem newReader_ok {w0 w : World} {L : List Pr} {v : Value} {l : List UInt8} (H : Sp w0 L w) (hb : Byt w v l) (hl : l.length ≤ 1000000000) :
  Calls Tryd.prog 46 #[v] w (Ret fun u w' => ∃ g, u = .pointer (some ⟨g, 0, none⟩) ∧ Sp w0 (Rr g l 0 :: L) w') := by
 obtain ⟨A, c, rfl, hr, h1, h2⟩ := id hb
 have HR := Lib.hid hr
 clear hr
 go_enter Tryd.func46, Tryd.ntmps46
 go_wp2_with fail
 refine (clone_ok H hb hl).mono ?_
 rintro e w2 ⟨u, rfl, H⟩
 obtain ⟨A1, c1, ev, _, _⟩ := Row.form H 0 rfl
 subst ev
 go_wp2
 go_ret
 exact ⟨_, rfl, _, rfl, Sp.ex (.slice A1 l.length c1) (Sp.star (H.newBk _ _))⟩
theorem rr_open {w0 w : World} {L : List Pr} {g at_ : Nat} {l : List UInt8} (H : Sp w0 (Rr g l at_ :: L) w) :
  ∃ A c, Sp w0 (RrB g (.slice A l.length c) at_ :: Row 5 1 (.slice A l.length c) l.length (cells8 l) :: L) w ∧ Byt w (.slice A l.length c) l ∧
   w.cell? ⟨g, 0, none⟩ = some (.slice A l.length c) ∧ w.cell? ⟨g, 1, none⟩ = some (.int .i64 (at_ : Int)) ∧ w.cell? ⟨g, 2, none⟩ = some (.bool true) := by
 obtain ⟨v, H⟩ := H.unex
 replace H := H.unstar
 obtain ⟨A, c, rfl, _, _⟩ := Row.form H 1 rfl
 exact ⟨A, c, H, H.row_byt 1 rfl, H.cell 0 rfl 0, H.cell 0 rfl 1, H.cell 0 rfl 2⟩
theorem left_ok (g : Nat) (l : List UInt8) (at_ : Nat) {w0 w : World} {L : List Pr} (H : Sp w0 (Rr g l at_ :: L) w) (ha : at_ ≤ 8 * l.length) (hl : l.length ≤ 1000000000) :
  Calls Tryd.prog 109 #[.pointer (some ⟨g, 0, none⟩)] w fun e w' => e = .returned (.int .i64 ((8 * l.length - at_ : Nat) : Int)) ∧ Keep w w' := by
 obtain ⟨A, c, _, _, c0, c1, c2⟩ := rr_open H
 clear H
 obtain ⟨n, hn⟩ : ∃ n, l.length = n := ⟨_, rfl⟩
 rw [hn] at c0 ha hl ⊢
 clear hn
 have h8 : (at_ : Int) ≤ 8 * n := by omega
 go_enter Tryd.func109, Tryd.ntmps109
 go_wp2_with fail
 refine (rnone_any g _ c2).mono ?_
 rintro e w2 ⟨rfl, rfl⟩
 go_wp2
 go_quiet (fail)
 go_wp2
 go_ret
 exact ⟨ret_i64 (by omega), Keep.drewN _ _⟩
theorem at_ok (g : Nat) (at_ : Nat) {w : World} (c1 : w.cell? ⟨g, 1, none⟩ = some (.int .i64 (at_ : Int))) (c2 : w.cell? ⟨g, 2, none⟩ = some (.bool true)) :
  Calls Tryd.prog 32 #[.pointer (some ⟨g, 0, none⟩)] w fun e w' => e = .returned (.int .i64 (at_ : Int)) ∧ w = w' := by
 go_enter Tryd.func32, Tryd.ntmps32
 go_wp2_with fail
 refine (rnone_any g _ c2).mono ?_
 rintro e w2 ⟨rfl, rfl⟩
 go_wp2
 go_ret
 exact ⟨rfl, rfl⟩
theorem skip_ok (g : Nat) (l : List UInt8) (at_ k : Nat) {w0 w : World} {L : List Pr} (H : Sp w0 (Rr g l at_ :: L) w) (ha : at_ + k ≤ 8 * l.length) (hk : k ≤ 57) (hl : l.length ≤ 1000000000) :
  Calls Tryd.prog 148 #[.pointer (some ⟨g, 0, none⟩), .int .i64 (k : Int)] w fun e w' => e = .returned (.int .i64 0) ∧ Sp w0 (Rr g l (at_ + k) :: L) w' := by
 obtain ⟨_, _, _, _, _, _, c2⟩ := rr_open H
 go_enter Tryd.func148, Tryd.ntmps148
 go_wp2_with fail
 refine (rasks_ok g k _ c2 (by omega) (by omega)).mono ?_
 rintro e w2 ⟨rfl, rfl⟩
 go_wp2_with fail
 refine (left_ok g l at_ H (by omega) hl).mono ?_
 rintro e w2 ⟨rfl, hK⟩
 replace H := hK.sep H
 clear hK c2
 obtain ⟨A, c, H, _, c0, c1, c2⟩ := rr_open H
 have z1 : w2.frozen? ⟨g, 1, none⟩ = false := H.frozen 0 rfl 1
 have h1 : ¬ ((8 * l.length - at_ : Nat) : Int) < k := by omega
 have h2 : (at_ : Int) ≤ 9000000000 := by omega
 go_wp2
 go_ret
 refine ⟨rfl, Sp.ex (.slice A l.length c) (Sp.star ?_)⟩
 have := H.set 1 (.int .i64 ((at_ : Int) + k))
 unfold RrB
 rw [Int.natCast_add]
 exact this
theorem skip_short (g : Nat) (l : List UInt8) (at_ k : Nat) {w0 w : World} {L : List Pr} (H : Sp w0 (Rr g l at_ :: L) w) (ha : at_ ≤ 8 * l.length) (hs : 8 * l.length < at_ + k) (hk : k ≤ 57) (hl : l.length ≤ 1000000000) :
  Calls Tryd.prog 148 #[.pointer (some ⟨g, 0, none⟩), .int .i64 (k : Int)] w fun e w' => e = .returned (.int .i64 4) ∧ Keep w w' := by
 obtain ⟨_, _, _, _, _, _, c2⟩ := rr_open H
 go_enter Tryd.func148, Tryd.ntmps148
 go_wp2_with fail
 refine (rasks_ok g k _ c2 (by omega) (by omega)).mono ?_
 rintro e w2 ⟨rfl, rfl⟩
 go_wp2_with fail
 refine (left_ok g l at_ H (by omega) hl).mono ?_
 rintro e w2 ⟨rfl, hK⟩
 have h1 : ((8 * l.length - at_ : Nat) : Int) < k := by omega
 go_wp2
 go_ret
 exact ⟨rfl, hK⟩
end Go.Proofs.YtiogaejfcenooaaDoor

namespace Go.Proofs.YtiogaejfcenooaaDoor
open Go.RowKit
theorem p256 (j : Nat) : (256 : Nat) ^ j = 2 ^ (8 * j) := by rw [show (256 : Nat) = 2 ^ 8 by decide, ← Nat.pow_mul]
theorem peek_step (R j b : Nat) (hj : j ≤ 7) (hb : b = R / 256 ^ j % 256) :
  bits .or .u64 ((R : Int) % 256 ^ j) (IntKind.u64.wrap ((b : Int) * 2 ^ (8 * j))) = ((R % 256 ^ (j + 1) : Nat) : Int) := by
 have hb2 : b < 256 := by rw [hb]; exact Nat.mod_lt _ (by decide)
 have e0 : ((R : Int) % 256 ^ j) = ((R % 256 ^ j : Nat) : Int) := by simp
 have hx : R % 256 ^ j < 2 ^ (8 * j) := by rw [← p256]; exact Nat.mod_lt _ (Nat.pow_pos (by decide))
 have h64 : (2 : Nat) ^ (8 * j) ≤ 72057594037927936 := Nat.pow_le_pow_right (n := 2) (by decide) (show 8 * j ≤ 56 by omega)
 have hy : b * 2 ^ (8 * j) < 18446744073709551616 := by
  have := Nat.mul_le_mul (show b ≤ 255 by omega) h64
  omega
 have e1 : IntKind.u64.wrap ((b : Int) * 2 ^ (8 * j)) = ((b * 2 ^ (8 * j) : Nat) : Int) := by
  rw [show ((b : Int) * 2 ^ (8 * j)) = ((b * 2 ^ (8 * j) : Nat) : Int) by simp, IntKind.wrap_u64]
  generalize b * 2 ^ (8 * j) = y at hy
  omega
 rw [e0, e1, u64_or_nat _ _ (by omega) hy, Nat.mul_comm b, Nat.or_comm, ← Nat.two_pow_add_eq_or_of_lt hx, PBits.mod_next, ← hb, p256, Nat.add_comm]
theorem u64_mask (x k : Nat) (hx : x < 18446744073709551616) (hk : k ≤ 63) : bits .and .u64 (x : Int) (IntKind.u64.wrap (IntKind.u64.wrap (2 ^ k) - 1)) = ((x % 2 ^ k : Nat) : Int) := by
 have h1 : (2 : Nat) ^ k ≤ 9223372036854775808 := Nat.pow_le_pow_right (n := 2) (by decide) hk
 have h0 : 0 < (2 : Nat) ^ k := Nat.two_pow_pos k
 have e1 : ((2 : Int) ^ k) = ((2 ^ k : Nat) : Int) := by simp
 have e2 : IntKind.u64.wrap (IntKind.u64.wrap (2 ^ k) - 1) = ((2 ^ k - 1 : Nat) : Int) := by
  rw [e1, IntKind.wrap_u64, IntKind.wrap_u64]
  generalize (2 : Nat) ^ k = y at h1 h0
  omega
 rw [e2, u64_and_nat _ _ hx (by omega), Nat.and_two_pow_sub_one_eq_mod]
theorem peek_end (R j r k : Nat) (hj : j ≤ 8) (hk : k ≤ 57) :
  bits .and .u64 ((R : Int) % 256 ^ j / 2 ^ r) (IntKind.u64.wrap (IntKind.u64.wrap (2 ^ k) - 1)) = ((R % 256 ^ j / 2 ^ r % 2 ^ k : Nat) : Int) := by
 have e0 : ((R : Int) % 256 ^ j / 2 ^ r) = ((R % 256 ^ j / 2 ^ r : Nat) : Int) := by simp
 have h1 : R % 256 ^ j < 256 ^ j := Nat.mod_lt _ (Nat.pow_pos (by decide))
 have h2 : (256 : Nat) ^ j ≤ 18446744073709551616 := Nat.pow_le_pow_right (n := 256) (by decide) hj
 have h3 : R % 256 ^ j / 2 ^ r ≤ R % 256 ^ j := Nat.div_le_self _ _
 rw [e0, u64_mask _ _ (by omega) (by omega)]
set_option maxRecDepth 100000 in
set_option maxHeartbeats 1000000 in
theorem peek_ok (g : Nat) (l : List UInt8) (at_ : Nat) (m : Int) (k : Nat) {w0 w : World} {L : List Pr} (H : Sp w0 (Rr g l at_ :: L) w) (ha : at_ ≤ 8 * l.length) (hl : l.length ≤ 1000000000) (hk : (k : Int) = min (min (max m 0) 57) ((8 * l.length - at_ : Nat) : Int)) :
  Calls Tryd.prog 147 #[.pointer (some ⟨g, 0, none⟩), .int .i64 m] w fun e w' => e = .returned (.tuple #[.int .u64 (PBits.peek l at_ k : Nat), .int .i64 (k : Int)]) ∧ Keep w w' := by
 obtain ⟨_, _, _, _, _, _, c2⟩ := rr_open H
 have hk57 : k ≤ 57 := by omega
 have f1 : ∀ W : World, (Builtin.max_ #[3, 3] 3 #[.int .i64 m, .int .i64 0]).run Tryd.prog W = .ok (.int .i64 (max m 0)) W := fun W => by
  simp [Builtin.max_, Builtin.max2]
  split <;> omega
 have f2 : ∀ W : World, (Builtin.min_ #[3, 3, 3] 3 #[.int .i64 (max m 0), .int .i64 57, .int .i64 ((8 * l.length - at_ : Nat) : Int)]).run Tryd.prog W = .ok (.int .i64 (k : Int)) W := fun W => by
  rw [hk]
  simp [Builtin.min_, Builtin.min2]
  split <;> split <;> omega
 have HK := Lib.hid hk
 clear hk
 go_enter Tryd.func147, Tryd.ntmps147
 go_wp2_with fail
 refine (rnone_any g _ c2).mono ?_
 rintro e w2 ⟨rfl, rfl⟩
 go_wp2_with fail
 refine (left_ok g l at_ H ha hl).mono ?_
 rintro e w2 ⟨rfl, hKp⟩
 replace H := hKp.sep H
 clear c2
 go_wp2_with fail
 clear f1 f2
 obtain ⟨A, c, H, hB, c0, c1, c2⟩ := rr_open H
 obtain ⟨q, hq0⟩ : ∃ q, q = at_ / 8 := ⟨_, rfl⟩
 have hq : (at_ : Int) / 8 = (q : Int) := by omega
 have hql : q ≤ l.length := by omega
 obtain ⟨R, hR⟩ : ∃ R, R = PBits.le l / 256 ^ q := ⟨_, rfl⟩
 have HQ := Lib.hid hq0
 have HR := Lib.hid hR
 have HB := Lib.hid hB
 clear hq0 hR hB
 obtain ⟨_, _, eA, _, _, hcm⟩ := id HB.out
 unfold maxLen at hcm
 clear eA
 go_loop [6, 7] (fun n i => ∃ j : Nat, j ≤ 8 ∧ 8 * j ≤ k + 14 ∧ i = .int .i64 (j : Int) ∧ n = .int .u64 ((R % 256 ^ j : Nat) : Int)) (fun _ i => 8 - (intOf i).toNat)
 case atStart => exact ⟨0, by omega, by omega, rfl, by simp [Nat.mod_one]⟩
 case round =>
  obtain ⟨j, hj1, hj2, rfl, rfl⟩ := hrel
  by_cases hlt : 8 * j < k + 7
  ·have hlt' : (8 : Int) * j < k + 7 := by omega
   by_cases hin : q + j < l.length
   ·have hin' : (q : Int) + j < l.length := by omega
    have hin0 : (0 : Int) ≤ (q : Int) + j := by omega
    obtain ⟨_, _, eA, hr, _, _⟩ := id HB.out
    injection eA with eA _ eC
    subst eA eC
    obtain ⟨ad, rfl, hc⟩ := hr.at8 hin
    clear hr
    obtain ⟨b, hb⟩ : ∃ b, l[q + j].toNat = b := ⟨_, rfl⟩
    rw [hb] at hc
    have hb2 : b < 256 := by rw [← hb]; exact (l[q + j]).toNat_lt
    have HBB := Lib.hid hb
    clear hb
    have hst := Lib.hid (peek_step R j b (by omega) (by rw [HR.out, Nat.div_div_eq_div_mul, ← Nat.pow_add, PBits.le_byte, List.getD_eq_getElem?_getD, List.getElem?_eq_getElem hin]; exact HBB.out.symm))
    go_wp2
    go_round
    case rel => exact ⟨j + 1, by omega, by omega, by go_num, by rw [← hst.out]⟩
    case measure => simp [intOf]; omega
   ·have hin' : ¬ (q : Int) + j < l.length := by omega
    have hst : Hid (R % 256 ^ j = R % 256 ^ (j + 1)) := by
     have h1 := PBits.le_lt (l.drop q)
     rw [PBits.le_drop, ← HR.out] at h1
     have h2 : R < 256 ^ j := Nat.lt_of_lt_of_le h1 (Nat.pow_le_pow_right (by decide) (by simp; omega))
     have h3 : R < 256 ^ (j + 1) := Nat.lt_of_lt_of_le h2 (Nat.pow_le_pow_right (by decide) (by omega))
     show _ = _
     rw [Nat.mod_eq_of_lt h2, Nat.mod_eq_of_lt h3]
    go_wp2
    go_round
    case rel => exact ⟨j + 1, by omega, by omega, by go_num, by rw [← hst.out]⟩
    case measure => simp [intOf]; omega
  ·have hlt' : ¬ (8 : Int) * j < k + 7 := by omega
   obtain ⟨r, hr⟩ : ∃ r, at_ % 8 = r := ⟨_, rfl⟩
   have hr' : (at_ : Int) % 8 = (r : Int) := by omega
   have hr8 : r < 8 := by omega
   have HX := Lib.hid hr
   clear hr
   go_wp2
   go_quiet (fail)
   go_wp2
   go_ret2
   have e := peek_end R j r k hj1 hk57
   have e2 := PBits.peek_of l at_ k j (by omega)
   rw [← HQ.out, ← HR.out, HX.out] at e2
   rw [e2] at e
   exact ⟨congrArg (fun x => Ending.returned (.tuple #[.int .u64 x, .int .i64 (k : Int)])) e, hKp.trans (Keep.drewN _ _)⟩
theorem get_ok (g : Nat) (l : List UInt8) (at_ k : Nat) {w0 w : World} {L : List Pr} (H : Sp w0 (Rr g l at_ :: L) w) (ha : at_ + k ≤ 8 * l.length) (hk : k ≤ 57) (hl : l.length ≤ 1000000000) :
  Calls Tryd.prog 106 #[.pointer (some ⟨g, 0, none⟩), .int .i64 (k : Int)] w fun e w' => e = .returned (.tuple #[.int .u64 (PBits.peek l at_ k : Nat), .int .i64 0]) ∧ Sp w0 (Rr g l (at_ + k) :: L) w' := by
 obtain ⟨_, _, _, _, _, _, c2⟩ := rr_open H
 go_enter Tryd.func106, Tryd.ntmps106
 go_wp2_with fail
 refine (rnone_any g _ c2).mono ?_
 rintro e w2 ⟨rfl, rfl⟩
 clear c2
 go_wp2_with fail
 refine (peek_ok g l at_ k k H (by omega) hl (by omega)).mono ?_
 rintro e w2 ⟨rfl, hK⟩
 replace H := hK.sep H
 clear hK
 go_wp2_with fail
 refine (skip_ok g l at_ k H ha hk hl).mono ?_
 rintro e w2 ⟨rfl, H⟩
 go_wp2
 go_ret2
 exact ⟨rfl, H⟩
theorem get_short (g : Nat) (l : List UInt8) (at_ k : Nat) {w0 w : World} {L : List Pr} (H : Sp w0 (Rr g l at_ :: L) w) (ha : at_ ≤ 8 * l.length) (hs : 8 * l.length < at_ + k) (hk : k ≤ 57) (hl : l.length ≤ 1000000000) :
  Calls Tryd.prog 106 #[.pointer (some ⟨g, 0, none⟩), .int .i64 (k : Int)] w fun e w' => e = .returned (.tuple #[.int .u64 0, .int .i64 4]) ∧ Keep w w' := by
 obtain ⟨_, _, _, _, _, _, c2⟩ := rr_open H
 go_enter Tryd.func106, Tryd.ntmps106
 go_wp2_with fail
 refine (rnone_any g _ c2).mono ?_
 rintro e w2 ⟨rfl, rfl⟩
 clear c2
 go_wp2_with fail
 refine (peek_ok g l at_ k (8 * l.length - at_) H (by omega) hl (by omega)).mono ?_
 rintro e w2 ⟨rfl, hK⟩
 replace H := hK.sep H
 go_wp2_with fail
 refine (skip_short g l at_ k H ha hs hk hl).mono ?_
 rintro e w2 ⟨rfl, hK2⟩
 go_wp2
 go_ret2
 exact ⟨rfl, hK.trans hK2⟩
end Go.Proofs.YtiogaejfcenooaaDoor

namespace Go.Proofs.YtiogaejfcenooaaDoor
open Go.RowKit
set_option maxRecDepth 100000 in
theorem ralign_ok (g : Nat) (l : List UInt8) (at_ : Nat) {w0 w : World} {L : List Pr} (H : Sp w0 (Rr g l at_ :: L) w) (ha : at_ ≤ 8 * l.length) (hl : l.length ≤ 1000000000) :
  Calls Tryd.prog 108 #[.pointer (some ⟨g, 0, none⟩)] w fun e w' => e = .returned (.int .i64 0) ∧ Sp w0 (Rr g l ((at_ + 7) / 8 * 8) :: L) w' := by
 obtain ⟨A, c, H, _, c0, c1, c2⟩ := rr_open H
 have z1 : w.frozen? ⟨g, 1, none⟩ = false := H.frozen 0 rfl 1
 have h1 : (at_ : Int) ≤ 9000000000 := by omega
 have e1 : bits .and .i64 (-(at_ : Int)) 7 = (((8 - at_ % 8) % 8 : Nat) : Int) := by rw [i64_and7]; omega
 obtain ⟨d, hd⟩ : ∃ d, (8 - at_ % 8) % 8 = d := ⟨_, rfl⟩
 rw [hd] at e1
 have hd8 : d < 8 := by omega
 have HD := Lib.hid hd
 clear hd
 go_enter Tryd.func108, Tryd.ntmps108
 go_wp2_with fail
 refine (rnone_any g _ c2).mono ?_
 rintro e w2 ⟨rfl, rfl⟩
 go_wp2
 go_still_tail 13, (by kernel_rfl)
 change wpList _ _ _ _ _ w.drew
 go_wp2
 go_ret
 refine ⟨rfl, Sp.ex (.slice A l.length c) (Sp.star ?_)⟩
 have e2 : (((at_ + 7) / 8 * 8 : Nat) : Int) = (at_ : Int) + d := by have := HD.out; omega
 unfold RrB
 rw [e2, e1]
 exact (H.set 1 (.int .i64 ((at_ : Int) + d))).drew
set_option maxRecDepth 100000 in
theorem rbytes_ok (g : Nat) (l : List UInt8) (q k : Nat) {w0 w : World} {L : List Pr} (H : Sp w0 (Rr g l (8 * q) :: L) w) (ha : q + k ≤ l.length) (hl : l.length ≤ 1000000000) :
  Calls Tryd.prog 111 #[.pointer (some ⟨g, 0, none⟩), .int .i64 (k : Int)] w (Ret fun v w' => ∃ u, v = .tuple #[u, .int .i64 0] ∧ Sp w0 (Row 5 1 u k (cells8 ((l.drop q).take k)) :: Rr g l (8 * (q + k)) :: L) w') := by
 obtain ⟨_, _, _, _, _, c1, c2⟩ := rr_open H
 rw [Int.natCast_mul] at c1
 have hq2 : (q : Int) ≤ 1000000000 := by omega
 have hk2 : (k : Int) ≤ 1000000000 := by omega
 have t0 : ((8 : Int) * q % 8 == 0) = true := by rw [beq_iff_eq]; omega
 go_enter Tryd.func111, Tryd.ntmps111
 go_wp2_with fail
 refine (rasks_ok g 0 _ c2 (by omega) (by omega)).mono ?_
 rintro e w2 ⟨rfl, rfl⟩
 clear t0 c1 c2
 go_wp2_with fail
 refine (left_ok g l (8 * q) H (by omega) hl).mono ?_
 rintro e w2 ⟨rfl, hK⟩
 replace H := hK.sep H
 clear hK
 obtain ⟨A, c, H, hB, c0, c1, c2⟩ := rr_open H
 have z1 : w2.frozen? ⟨g, 1, none⟩ = false := H.frozen 0 rfl 1
 rw [Int.natCast_mul] at c1
 have hcm : c ≤ maxLen := by obtain ⟨_, _, e, _, _, h⟩ := hB; injection e with _ _ e; omega
 have hcl : l.length ≤ c := by obtain ⟨_, _, e, _, h, _⟩ := hB; injection e with _ _ e; omega
 unfold maxLen at hcm
 have t1 : ¬ ((8 * l.length - 8 * q : Nat) : Int) / 8 < k := by omega
 have t2 : (8 : Int) * q / 8 = q := by omega
 have t3 : (q : Int) + k ≤ c := by omega
 have t4 : (0 : Int) ≤ (q : Int) + k := by omega
 have e8 : ((8 * (q + k) : Nat) : Int) = 8 * (q : Int) + 8 * k := by omega
 have H2 : Sp w0 (RrB g (.slice A l.length c) (8 * (q + k)) :: Row 5 1 (.slice A l.length c) l.length (cells8 l) :: L) (w2.setCell ⟨g, 1, none⟩ (.int .i64 (8 * (q : Int) + 8 * k))) := by
  have := H.set 1 (.int .i64 (8 * (q : Int) + 8 * k))
  unfold RrB
  rw [e8]
  exact this
 clear e8
 have hB2 : Byt (w2.setCell ⟨g, 1, none⟩ (.int .i64 (8 * (q : Int) + 8 * k))) (.slice A l.length c) l := H2.row_byt 1 rfl
 by_cases hcq : c = q
 ·subst hcq
  obtain rfl : k = 0 := by omega
  go_wp2_with fail
  refine (clone_ok (l := []) H2 ⟨_, _, rfl, Rd.nil, Nat.zero_le _, by simp [maxLen]⟩ (by simp)).mono ?_
  rintro e w3 ⟨u, rfl, H3⟩
  go_wp2
  go_ret2
  exact ⟨_, rfl, _, rfl, Sp.swap (Sp.ex (.slice A l.length c) (Sp.star (by simpa using H3.pick 3 [1, 2, 0])))⟩
 ·have hs := (hB2.drop q (by omega)).take k (by simp; omega)
  go_wp2_with fail
  refine (clone_ok H2 hs (by simp; omega)).mono ?_
  rintro e w3 ⟨u, rfl, H3⟩
  go_wp2
  go_ret2
  refine ⟨_, rfl, _, rfl, Sp.swap (Sp.ex (.slice A l.length c) (Sp.star ?_))⟩
  have e9 : ((l.drop q).take k).length = k := by simp; omega
  rw [e9] at H3
  exact H3.pick 3 [1, 2, 0]
end Go.Proofs.YtiogaejfcenooaaDoor

