/- A pack of texts: the rest. -/
import Derived.Test.YtiogaejfcenooaaDoorPk01
import Derived.Test.YtiogaejfcenooaaDoorPk02
import Derived.Test.YtiogaejfcenooaaDoorPk03
import Derived.Test.YtiogaejfcenooaaDoorPk04
import Derived.Test.YtiogaejfcenooaaDoorPk05
import Derived.Test.YtiogaejfcenooaaDoorPk06
import Derived.Test.YtiogaejfcenooaaDoorPk07
import Derived.Test.YtiogaejfcenooaaDoorPk08
import Derived.Test.YtiogaejfcenooaaDoorPk09
import Derived.Test.YtiogaejfcenooaaDoorPk10
import Derived.Test.YtiogaejfcenooaaDoorPk11
import Derived.Test.YtiogaejfcenooaaDoorPk12
import Derived.Test.YtiogaejfcenooaaDoorPk13
import Derived.Test.YtiogaejfcenooaaDoorPk14
import Derived.Test.YtiogaejfcenooaaDoorPk15
import Derived.Test.YtiogaejfcenooaaDoorPk16
import Derived.Test.YtiogaejfcenooaaDoorPk17
import Derived.Test.YtiogaejfcenooaaDoorPk18
import Derived.Test.YtiogaejfcenooaaDoorPk19
import Derived.Test.YtiogaejfcenooaaDoorPk20
import Derived.Test.YtiogaejfcenooaaDoorPk21
import Derived.Test.YtiogaejfcenooaaDoorPk22
import Derived.Test.YtiogaejfcenooaaDoorPk23
import Derived.Test.YtiogaejfcenooaaDoorPk24
import Derived.Test.YtiogaejfcenooaaDoorPk25
import Derived.Test.YtiogaejfcenooaaDoorPk26
import Derived.Test.YtiogaejfcenooaaDoorPk27
import Derived.Test.YtiogaejfcenooaaDoorPk28
import Derived.Test.YtiogaejfcenooaaDoorPk29
import Derived.Test.YtiogaejfcenooaaDoorPk30
import Derived.Test.YtiogaejfcenooaaDoorPk31
import Derived.Test.YtiogaejfcenooaaDoorPk32
import Derived.Test.YtiogaejfcenooaaDoorPk33
namespace Go.Proofs.YtiogaejfcenooaaDoor
open Go.RowKit

theorem Sp.start (w : World) : Sp w [Same w] w := ⟨rfl, rfl, rfl, fun _ => 0, fun i A h => by
 match i with
 | 0 =>
  obtain rfl : Same w = A := by simpa using h
  intro b hb; exact rs_pos rfl
 | i + 1 => simp at h⟩
end Go.Proofs.YtiogaejfcenooaaDoor

namespace Go.Proofs.YtiogaejfcenooaaDoor.PBits
theorem le_bytesOf (V n : Nat) : le (bytesOf V n) = V % 256 ^ n := by
 induction n generalizing V with
 | zero => simp [bytesOf, le, Nat.mod_one]
 | succ n ih =>
  have h := Nat.mod_mul (x := V) (a := 256) (b := 256 ^ n)
  have hb : (UInt8.ofNat (V % 256)).toNat = V % 256 := by rw [UInt8.toNat_ofNat']; omega
  have e : (256 : Nat) ^ (n + 1) = 256 * 256 ^ n := by rw [Nat.pow_succ, Nat.mul_comm]
  simp only [bytesOf, le, ih, hb, e, h]
end Go.Proofs.YtiogaejfcenooaaDoor.PBits

namespace Go.Proofs.YtiogaejfcenooaaDoor
set_option linter.unusedVariables false
namespace PH
theorem idx_get (m : List Nat) (n k r : Nat) (hk : k ≤ m.length) (h : r < (idx m n k).length) : ∃ i, i < k ∧ (idx m n k).getD r 0 = i ∧ m.getD i 0 = n ∧ (m.take i).count n = r := by
 induction k generalizing r with
 | zero => simp [idx] at h
 | succ k ih =>
  rw [idx_succ] at h ⊢
  have hlen : ∀ q, q ≤ m.length → (idx m n q).length = (m.take q).count n := by
   intro q
   induction q with
   | zero => intro _; simp [idx]
   | succ q ihq =>
    intro hq
    have h1 := ihq (by omega)
    have hg : m.getD q 0 = m[q]'(by omega) := by rw [List.getD_eq_getElem?_getD, List.getElem?_eq_getElem (by omega)]; rfl
    rw [idx_succ, List.take_succ_eq_append_getElem (by omega), List.count_append, hg]
    by_cases e : m[q]'(by omega) = n
    ·rw [if_pos e, List.length_append, h1, e]; simp
    ·rw [if_neg e, h1]; simp [e]
  by_cases e : m.getD k 0 = n
  ·rw [if_pos e] at h ⊢
   rw [List.length_append, List.length_singleton] at h
   rcases Nat.lt_or_ge r (idx m n k).length with hr | hr
   ·obtain ⟨i, h1, h2, h3, h4⟩ := ih r (by omega) hr
    refine ⟨i, by omega, ?_, h3, h4⟩
    rw [List.getD_eq_getElem?_getD, List.getElem?_append_left hr, ← List.getD_eq_getElem?_getD]; exact h2
   ·have hr2 : r = (idx m n k).length := by omega
    refine ⟨k, by omega, ?_, e, by rw [hr2, hlen k (by omega)]⟩
    rw [List.getD_eq_getElem?_getD, List.getElem?_append_right hr, hr2, Nat.sub_self]; rfl
  ·rw [if_neg e] at h ⊢
   obtain ⟨i, h1, h2, h3, h4⟩ := ih r (by omega) h
   exact ⟨i, by omega, h2, h3, h4⟩
theorem rank_inj (m : List Nat) (i j n : Nat) (hi : i < m.length) (hj : j < m.length) (hin : m.getD i 0 = n) (hjn : m.getD j 0 = n) (h : (m.take i).count n = (m.take j).count n) : i = j := by
 have key : ∀ i j, i < j → j ≤ m.length → m.getD i 0 = n → (m.take i).count n < (m.take j).count n := by
  intro i j hij hj hin
  have h1 := rank_lt (m.take j) i n (by rw [List.length_take]; omega) (by rw [List.getD_eq_getElem?_getD, List.getElem?_take_of_lt hij, ← List.getD_eq_getElem?_getD]; exact hin)
  rwa [List.take_take, Nat.min_eq_left (by omega)] at h1
 rcases Nat.lt_trichotomy i j with h1 | h1 | h1
 ·have := key i j h1 (by omega) hin; omega
 ·exact h1
 ·have := key j i h1 (by omega) hjn; omega
theorem rowsB_take (m : List Nat) (n k : Nat) (h : n ≤ k) : ∃ t, rowsB m k = rowsB m n ++ t := by
 obtain ⟨d, rfl⟩ : ∃ d, k = n + d := ⟨k - n, by omega⟩
 clear h
 induction d with
 | zero => exact ⟨[], by simp⟩
 | succ d ih =>
  obtain ⟨t, ht⟩ := ih
  exact ⟨t ++ idx m (n + d + 1) m.length, by rw [← Nat.add_assoc, rowsB, ht, List.append_assoc]⟩
theorem code_sym (m : List Nat) (n c : Nat) (hn : n < 15) (h1 : fst m (n + 1) ≤ c) (h2 : c < fst m (n + 1) + tal m (n + 1)) :
  ∃ i, i < m.length ∧ m.getD i 0 = n + 1 ∧ codeAt m i = c ∧ (rows m).getD ((rowsB m n).length + (c - fst m (n + 1))) 0 = i := by
 have hl := rowsB_tal m n
 rw [rowsB, List.length_append] at hl
 obtain ⟨i, hi, hg, hm, hc⟩ := idx_get m (n + 1) m.length (c - fst m (n + 1)) (Nat.le_refl _) (by omega)
 refine ⟨i, hi, hm, by rw [codeAt_of m i (n + 1) hm (by omega), hc]; omega, ?_⟩
 obtain ⟨t, ht⟩ := rowsB_take m (n + 1) 15 (by omega)
 unfold rows
 rw [ht, rowsB, List.append_assoc, List.getD_eq_getElem?_getD, List.getElem?_append_right (by omega), show (rowsB m n).length + (c - fst m (n + 1)) - (rowsB m n).length = c - fst m (n + 1) by omega, List.getElem?_append_left (by omega), ← List.getD_eq_getElem?_getD]
 exact hg
theorem code_inj (m : List Nat) (i j : Nat) (hi : i < m.length) (hj : j < m.length) (h0 : m.getD i 0 ≠ 0) (hl : m.getD i 0 = m.getD j 0) (hc : codeAt m i = codeAt m j) : i = j := by
 rw [codeAt_of m i _ rfl h0, codeAt_of m j _ hl.symm h0] at hc
 exact rank_inj m i j _ hi hj rfl hl.symm (by omega)
instance (m : List Nat) (R i : Nat) : Decidable (hit m R i) := inferInstanceAs (Decidable (_ ∧ _))
end PH
end Go.Proofs.YtiogaejfcenooaaDoor

namespace Go.Proofs.YtiogaejfcenooaaDoor
open Go.RowKit
namespace PBits
theorem bitsOf_num (l : List Bool) : bitsOf (num l) l.length = l := by
 induction l with
 | nil => rfl
 | cons b l ih =>
  have h1 : ((b.toNat + 2 * num l) % 2 == 1) = b := by
   cases b <;> simp <;> omega
  have h2 : (b.toNat + 2 * num l) / 2 = num l := by
   have : b.toNat ≤ 1 := by cases b <;> decide
   omega
  simp only [num, List.length_cons, bitsOf, h1, h2, ih]
theorem num_false (m : Nat) : num (List.replicate m false) = 0 := by
 induction m with
 | zero => rfl
 | succ m ih => simp [List.replicate_succ, num, ih]
theorem num_inj (a b : List Bool) (hl : a.length = b.length) (h : num a = num b) : a = b := by
 rw [← bitsOf_num a, ← bitsOf_num b, h, hl]
end PBits
end Go.Proofs.YtiogaejfcenooaaDoor

namespace Go.Proofs.YtiogaejfcenooaaDoor
set_option linter.unusedVariables false
set_option linter.unusedSimpArgs false
namespace PH
theorem bitsC_numb (n c k : Nat) (hc : c < 2 ^ n) (hk : k ≤ n) : numb ((bitsC n c).take k) = c / 2 ^ (n - k) := by
 induction k with
 | zero => rw [List.take_zero, Nat.sub_zero, Nat.div_eq_of_lt hc]; rfl
 | succ k ih =>
  have h1 : (bitsC n c).take (k + 1) = (bitsC n c).take k ++ [c.testBit (n - 1 - k)] := by
   rw [List.take_succ_eq_append_getElem (by rw [bitsC_len]; omega)]
   simp [bitsC]
  rw [h1, numb_snoc, ih (by omega), show n - (k + 1) = n - 1 - k by omega, show n - k = (n - 1 - k) + 1 by omega, Nat.pow_succ, ← Nat.div_div_eq_div_mul]
  have hb : bitV (c.testBit (n - 1 - k)) = c / 2 ^ (n - 1 - k) % 2 := by
   rw [Nat.testBit_eq_decide_div_mod_eq]
   unfold bitV
   by_cases q : c / 2 ^ (n - 1 - k) % 2 = 1
   ·simp [q]
   ·simp [q]; omega
  rw [hb]; omega
theorem next_code (m : List Nat) (i p mo : Nat) (rest : List Bool) (hi : i < m.length) (hp : m.getD i 0 = p + 1) (hmo : p + 1 ≤ mo) (h15 : mo ≤ 15) (hs : sum m ≤ 32768) : nextFrom m (bitsC (p + 1) (codeAt m i) ++ rest) mo 0 = (p + 1, 0, i) := by
 obtain ⟨c, hc⟩ : ∃ c, codeAt m i = c := ⟨_, rfl⟩
 have h1 := codeAt_lt m i (p + 1) hi hp (by omega)
 have h2 := code_lt m i p hi hp (by omega) hs
 rw [hc] at h1 h2 ⊢
 have hn : ∀ q, q ≤ p → numb ((bitsC (p + 1) c ++ rest).take (q + 1)) = c / 2 ^ (p - q) := fun q hq => by
  rw [List.take_append_of_le_length (by rw [bitsC_len]; omega), bitsC_numb _ _ _ h2 (by omega), show p + 1 - (q + 1) = p - q by omega]
 have hl : ∀ q, q ≤ p → ¬ (bitsC (p + 1) c ++ rest).length ≤ q := fun q hq => by rw [List.length_append, bitsC_len]; omega
 obtain ⟨j, hj, hjm, hjc, hjr⟩ := code_sym m p c (by omega) h1.1 h1.2
 have hji : j = i := code_inj m j i hj hi (by rw [hjm]; omega) (by rw [hjm, hp]) (by rw [hjc, hc])
 subst hji
 have key : ∀ k q, k + q = mo → q ≤ p → nextFrom m (bitsC (p + 1) c ++ rest) k q = (p + 1, 0, j) := by
  intro k
  induction k with
  | zero => intro q h3 h4; omega
  | succ k ih =>
   intro q h3 h4
   rw [nextFrom, if_neg (hl q h4), hn q h4]
   by_cases e : q = p
   ·subst e
    rw [Nat.sub_self, Nat.pow_zero, Nat.div_one, if_pos h1.2, hjr]
   ·have : ¬ c / 2 ^ (p - q) < fst m (q + 1) + tal m (q + 1) := by
     rw [Nat.not_lt, Nat.le_div_iff_mul_le (Nat.two_pow_pos _)]
     have g1 := share_next m (q + 1) (by omega) (by omega)
     have g2 := fst_share15 m (p + 1) (by omega) (by omega)
     have g3 := share_mono m (q + 1 + 1) (p + 1) (by omega)
     have g4 : (fst m (q + 1) + tal m (q + 1)) * 2 ^ (p - q) * 2 ^ (15 - (p + 1)) ≤ fst m (p + 1) * 2 ^ (15 - (p + 1)) := by
      rw [Nat.mul_assoc, ← Nat.pow_add, show p - q + (15 - (p + 1)) = 15 - (q + 1) by omega, g1, g2]
      exact g3
     have := Nat.le_of_mul_le_mul_right g4 (Nat.two_pow_pos _)
     omega
    rw [if_neg this]
    exact ih (q + 1) (by omega) (by omega)
 exact key mo 0 rfl (Nat.zero_le _)
end PH
end Go.Proofs.YtiogaejfcenooaaDoor

namespace Go.Proofs.YtiogaejfcenooaaDoor
set_option linter.unusedVariables false
set_option linter.unusedSimpArgs false
namespace PI
theorem sign_at {B : List Bool} {m : List Nat} {a s : Nat} (h : At B a (codeW m s)) (hs : Has m s) (hm : PH.sum m ≤ 32768) : sign B m a = .ok (a + (codeW m s).length, s) := by
 obtain ⟨h1, h2, h3⟩ := hs
 obtain ⟨p, hp⟩ : ∃ p, m.getD s 0 = p + 1 := ⟨m.getD s 0 - 1, by omega⟩
 have e := h.drop
 unfold codeW at e
 rw [hp] at e
 have e2 := PH.next_code m s p (mostN m) (B.drop (a + (PH.bitsC (p + 1) (PH.codeAt m s)).length)) h1 hp (by omega) (mostN_le m) hm
 unfold sign
 rw [e, e2, if_pos rfl]
 unfold codeW
 rw [PH.bitsC_len, hp]
theorem length_at {B : List Bool} {a n : Nat} (h : At B a (PBits.bitsOf (longS n).2.2 (longS n).2.1)) (h1 : 3 ≤ n) (h2 : n ≤ 258) : length B (longS n).1 a = .ok (a + (longS n).2.1, n) := by
 have g := longS_lt n h1 h2
 unfold length
 by_cases e : n = 258
 ·subst e; rfl
 ·have e1 : (longS n).1 = findT lengthsT n 27 := by unfold longS; rw [if_neg e]
  have e2 : (longS n).2 = ((lengthsT.getD (findT lengthsT n 27) (0, 0)).2, n - (lengthsT.getD (findT lengthsT n 27) (0, 0)).1) := by unfold longS; rw [if_neg e]
  obtain ⟨g1, g2, g3⟩ := findT_spec lengthsT n 27 h1
  have h3 := number_at h g.2.1
  rw [if_neg (by rw [e1]; omega), e1]
  unfold count
  rw [e2] at h3 ⊢
  rw [if_pos (by show _ < 28; omega), h3]
  show Except.ok (_, _) = _
  simp only
  congr 2
  omega
theorem far_at {B : List Bool} {a n : Nat} (h : At B a (PBits.bitsOf (farS n).2.2 (farS n).2.1)) (h1 : 1 ≤ n) (h2 : n ≤ 32768) : count B awayT (farS n).1 a = .ok (a + (farS n).2.1, n) := by
 have g := farS_lt n h1 h2
 obtain ⟨g1, g2, g3⟩ := findT_spec awayT n 29 h1
 have h3 := number_at h g.2.1
 unfold count
 rw [if_pos (by show _ < 30; omega), show (awayT.getD (farS n).1 (0, 0)).2 = (farS n).2.1 from rfl, h3]
 show Except.ok (_, _) = _
 congr 2
 show (awayT.getD (findT awayT n 29) (0, 0)).1 + (n - (awayT.getD (findT awayT n 29) (0, 0)).1) = n
 omega
theorem tokO_len (out : List UInt8) (t : Tok) : out.length ≤ (tokO out t).length := by
 cases t with
 | lit c => simp [tokO]
 | cpy n b => simp [tokO, copy_len]
theorem toksO_len (out : List UInt8) (l : List Tok) : out.length ≤ (toksO out l).length := by
 induction l generalizing out with
 | nil => exact Nat.le_refl _
 | cons t l ih => exact Nat.le_trans (tokO_len out t) (ih _)
theorem step_at {B : List Bool} {most a : Nat} {m d : List Nat} {out : List UInt8} {t : Tok} (h : At B a (tokW m d t)) (ht : TokOk m d out t) (hm : PH.sum m ≤ 32768) (hd : PH.sum d ≤ 32768) (ho : (tokO out t).length ≤ most) :
  stepP B most m d a out = .ok (false, a + (tokW m d t).length, tokO out t) := by
 unfold stepP
 cases t with
 | lit c =>
  have h1 := sign_at h ht hm
  have hc : c.toNat < 256 := c.toNat_lt
  rw [h1]
  show (if c.toNat = 256 then _ else if c.toNat < 256 then _ else _) = _
  have hl : out.length + 1 ≤ most := by simpa [tokO] using ho
  rw [if_neg (by omega), if_pos hc, if_neg (by omega)]
  show Except.ok (false, _, out ++ [UInt8.ofNat c.toNat]) = _
  rw [UInt8.ofNat_toNat]
  rfl
 | cpy n back =>
  obtain ⟨t1, t2, t3, t4, t5, t6, t7⟩ := ht
  have hw : tokW m d (.cpy n back) = codeW m (257 + (longS n).1) ++ PBits.bitsOf (longS n).2.2 (longS n).2.1 ++ (codeW d (farS back).1 ++ PBits.bitsOf (farS back).2.2 (farS back).2.1) := rfl
  rw [hw] at h ⊢
  have g1 := sign_at h.left.left t6 hm
  have g2 := length_at h.left.right t1 t2
  have g3 := h.right
  rw [List.length_append, PBits.bitsOf_length, ← Nat.add_assoc] at g3
  have g4 := sign_at g3.left t7 hd
  have g5 := far_at g3.right t3 t4
  rw [g1]
  show (if 257 + (longS n).1 = 256 then _ else if 257 + (longS n).1 < 256 then _ else (length B (257 + (longS n).1 - 257) (a + (codeW m (257 + (longS n).1)).length)).bind _) = _
  rw [if_neg (by omega), if_neg (by omega), Nat.add_sub_cancel_left, g2]
  show (sign B d (a + (codeW m (257 + (longS n).1)).length + (longS n).2.1)).bind _ = _
  rw [g4]
  show (count B awayT (farS back).1 (a + (codeW m (257 + (longS n).1)).length + (longS n).2.1 + (codeW d (farS back).1).length)).bind _ = _
  rw [g5]
  have hl : out.length + n ≤ most := by rw [show tokO out (.cpy n back) = copy back n out from rfl, copy_len] at ho; exact ho
  show (if out.length < back then _ else if most - out.length < n then _ else Except.ok (false, _, copy back n out)) = _
  rw [if_neg (by omega), if_neg (by omega)]
  simp only [List.length_append, PBits.bitsOf_length, tokO]
  congr 3
  omega
theorem pressed_at {B : List Bool} {most : Nat} {m d : List Nat} (hm : PH.sum m ≤ 32768) (hd : PH.sum d ≤ 32768) : ∀ (l : List Tok) (f a : Nat) (out : List UInt8), At B a (toksW m d l) → ToksOk m d out l → (toksO out l).length ≤ most → l.length < f →
  pressed B most m d f a out = .ok (a + (toksW m d l).length, toksO out l) := by
 intro l
 induction l with
 | nil =>
  intro f a out h ht ho hf
  cases f with
  | zero => simp at hf
  | succ f =>
   have h' : At B a (codeW m 256) := by simpa [toksW] using h
   have h1 := sign_at h' ht hm
   rw [pressed]
   unfold stepP
   rw [h1]
   show Except.ok _ = _
   simp [toksW, toksO]
 | cons t l ih =>
  intro f a out h ht ho hf
  cases f with
  | zero => simp at hf
  | succ f =>
   have e : toksW m d (t :: l) = tokW m d t ++ toksW m d l := by simp [toksW]
   rw [e] at h ⊢
   have ho' : (toksO (tokO out t) l).length ≤ most := ho
   have h1 := step_at (most := most) h.left ht.1 hm hd (Nat.le_trans (toksO_len _ _) ho')
   rw [pressed, h1]
   show pressed B most m d f (a + (tokW m d t).length) (tokO out t) = _
   rw [ih f _ _ h.right ht.2 ho' (by simp at hf; omega), List.length_append, Nat.add_assoc]
   rfl
def TellsOk (m : List Nat) : List Nat → List (Nat × Nat) → Prop
 | _, [] => True
 | acc, t :: l => (Has m t.1 ∧ t.2 < 2 ^ tellB t.1 ∧ (t.1 = 16 → acc ≠ [])) ∧ TellsOk m (tellO acc t) l
theorem fill_at {many a v k : Nat} {acc : List Nat} (h : acc.length + k ≤ many) : fill many acc v k a = .ok (a, acc ++ List.replicate k v) := by
 unfold fill
 rw [if_neg (by omega)]
theorem stepL_at {B : List Bool} {m : List Nat} {many a : Nat} {acc : List Nat} {t : Nat × Nat} (h : At B a (tellW m t)) (hm : PH.sum m ≤ 32768) (ht : Has m t.1 ∧ t.2 < 2 ^ tellB t.1 ∧ (t.1 = 16 → acc ≠ [])) (hl : (tellO acc t).length ≤ many) :
  stepL B m many a acc = .ok (a + (tellW m t).length, tellO acc t) := by
 obtain ⟨t1, t2, t3⟩ := ht
 have g1 := sign_at h.left t1 hm
 have g2 := number_at h.right t2
 have e : (tellW m t).length = (codeW m t.1).length + tellB t.1 := by unfold tellW sayW; rw [List.length_append, PBits.bitsOf_length]
 rw [e, ← Nat.add_assoc]
 unfold stepL
 rw [g1]
 show (if t.1 = 16 then _ else if t.1 = 17 then _ else if t.1 = 18 then _ else fill many acc t.1 1 (a + (codeW m t.1).length)) = _
 unfold tellO at hl ⊢
 unfold tellB at g2 ⊢
 by_cases h16 : t.1 = 16
 ·simp only [if_pos h16] at g2 hl ⊢
  have hne : acc.length ≠ 0 := by simpa using t3 h16
  rw [if_neg hne, g2]
  exact fill_at (by simpa using hl)
 ·simp only [if_neg h16] at g2 hl ⊢
  by_cases h17 : t.1 = 17
  ·simp only [if_pos h17] at g2 hl ⊢
   rw [g2]
   exact fill_at (by simpa using hl)
  ·simp only [if_neg h17] at g2 hl ⊢
   by_cases h18 : t.1 = 18
   ·simp only [if_pos h18] at g2 hl ⊢
    rw [g2]
    exact fill_at (by simpa using hl)
   ·simp only [if_neg h18] at hl ⊢
    exact fill_at (by simpa using hl)
theorem lens_at {B : List Bool} {m : List Nat} {many : Nat} (hm : PH.sum m ≤ 32768) : ∀ (l : List (Nat × Nat)) (f a : Nat) (acc : List Nat), At B a (tellsW m l) → TellsOk m acc l → (tellsO acc l).length = many → l.length < f →
  lens B m many f a acc = .ok (a + (tellsW m l).length, tellsO acc l) := by
 intro l
 induction l with
 | nil =>
  intro f a acc h ht hl hf
  cases f with
  | zero => simp at hf
  | succ f =>
   have hl' : acc.length = many := hl
   rw [lens, if_neg (by omega)]
   rfl
 | cons t l ih =>
  intro f a acc h ht hl hf
  cases f with
  | zero => simp at hf
  | succ f =>
   have e : tellsW m (t :: l) = tellW m t ++ tellsW m l := by simp [tellsW]
   have hl' : (tellsO (tellO acc t) l).length = many := hl
   have h1 := tellO_len acc t
   have h2 := tellsO_len (tellO acc t) l
   rw [e] at h ⊢
   rw [lens, if_pos (by omega), stepL_at h.left hm ht.1 (by omega)]
   show lens B m many f (a + (tellW m t).length) (tellO acc t) = _
   rw [ih f _ _ h.right ht.2 hl' (by simp at hf; omega), List.length_append, Nat.add_assoc]
   rfl
def layF (first : List Nat) (f : List Nat) (c : List Nat) : List Nat := c.foldl (fun f s => f.set s (first.getD s 0)) f
theorem firsts_at {B : List Bool} (first : List Nat) (h8 : ∀ x ∈ first, x < 8) : ∀ (c : List Nat) (a : Nat) (f : List Nat), At B a (firstsW first c) → firsts B c a f = .ok (a + (firstsW first c).length, layF first f c) := by
 intro c
 induction c with
 | nil => intro a f h; rfl
 | cons s c ih =>
  intro a f h
  have e : firstsW first (s :: c) = PBits.bitsOf (first.getD s 0) 3 ++ firstsW first c := by simp [firstsW]
  rw [e] at h ⊢
  have hv : first.getD s 0 < 2 ^ 3 := by
   rw [List.getD_eq_getElem?_getD]
   cases hg : first[s]? with
   | none => simp
   | some x => exact h8 x (List.mem_of_getElem? hg)
  have h2 := h.right
  rw [PBits.bitsOf_length] at h2
  rw [firsts, number_at h.left hv]
  show firsts B c (a + 3) (f.set s (first.getD s 0)) = _
  rw [ih _ _ h2, List.length_append, PBits.bitsOf_length, Nat.add_assoc]
  rfl
theorem layF_len (first : List Nat) : ∀ (c f : List Nat), (layF first f c).length = f.length := by
 intro c
 induction c with
 | nil => intro f; rfl
 | cons s c ih => intro f; show (layF first (f.set s _) c).length = _; rw [ih, List.length_set]
theorem layF_get (first : List Nat) (i : Nat) : ∀ (c f : List Nat), i < f.length → (layF first f c).getD i 0 = if i ∈ c then first.getD i 0 else f.getD i 0 := by
 intro c
 induction c with
 | nil => intro f _; simp [layF]
 | cons s c ih =>
  intro f hi
  show (layF first (f.set s _) c).getD i 0 = _
  rw [ih _ (by simpa using hi)]
  by_cases h1 : i ∈ c
  ·rw [if_pos h1, if_pos (List.mem_cons_of_mem _ h1)]
  ·rw [if_neg h1]
   by_cases h2 : i = s
   ·subst h2
    rw [if_pos (List.mem_cons_self ..)]
    simp [List.getD_eq_getElem?_getD, hi]
   ·rw [if_neg (by simp [h1, h2])]
    simp [List.getD_eq_getElem?_getD, List.getElem?_set, Ne.symm h2]
theorem layF_all (first : List Nat) (n : Nat) (hl : first.length = 19) (hz : ∀ i, i < 19 → i ∉ orderT.take n → first.getD i 0 = 0) : layF first (List.replicate 19 0) (orderT.take n) = first := by
 apply List.ext_getElem
 ·rw [layF_len, List.length_replicate, hl]
 ·intro i h1 h2
  have h3 : i < 19 := by omega
  have e := layF_get first i (orderT.take n) (List.replicate 19 0) (by simpa using h3)
  have e1 : (layF first (List.replicate 19 0) (orderT.take n)).getD i 0 = (layF first (List.replicate 19 0) (orderT.take n))[i] := by rw [List.getD_eq_getElem?_getD, List.getElem?_eq_getElem h1]; rfl
  have e2 : first.getD i 0 = first[i] := by rw [List.getD_eq_getElem?_getD, List.getElem?_eq_getElem h2]; rfl
  rw [← e1, ← e2, e]
  split
  ·rfl
  ·rename_i h5
   rw [hz i h3 h5]
   rw [List.getD_eq_getElem?_getD, List.getElem?_replicate, if_pos h3]; rfl
set_option maxRecDepth 100000 in
theorem dynamic_at {B : List Bool} {a c l d : Nat} {first L D : List Nat} {rows : List (Nat × Nat)} (h : At B a (headW first c l d rows)) (hl1 : 257 ≤ l) (hl2 : l ≤ 286) (hd1 : 1 ≤ d) (hd2 : d ≤ 30) (hc1 : 4 ≤ c) (hc2 : c ≤ 19)
  (h8 : ∀ x ∈ first, x < 8) (hfl : first.length = 19) (hz : ∀ i, i < 19 → i ∉ orderT.take c → first.getD i 0 = 0) (hb : book first = true) (ht : TellsOk first [] rows) (hr : tellsO [] rows = L ++ D) (hL : L.length = l) (hD : D.length = d)
  (h256 : L.getD 256 0 ≠ 0) (hbL : book L = true) (hbD : book D = true) : dynamic B a = .ok (a + (headW first c l d rows).length, L, D) := by
 unfold headW at h ⊢
 have n1 := number_at h.left (show l - 257 < 2 ^ 5 by omega)
 have h2 := h.right
 rw [PBits.bitsOf_length] at h2
 have n2 := number_at h2.left (show d - 1 < 2 ^ 5 by omega)
 have h3 := h2.right
 rw [PBits.bitsOf_length] at h3
 have n3 := number_at h3.left (show c - 4 < 2 ^ 4 by omega)
 have h4 := h3.right
 rw [PBits.bitsOf_length] at h4
 have n4 := firsts_at first h8 _ _ (List.replicate 19 0) h4.left
 rw [layF_all first c hfl hz] at n4
 have hlen : (L ++ D).length = l + d := by rw [List.length_append, hL, hD]
 have hrl := tellsO_len [] rows
 rw [hr, hlen] at hrl
 have n5 := lens_at (book_sum hb) (many := l + d) rows (l + d + 1) _ [] h4.right ht (by rw [hr, hlen]) (by simp at hrl; omega)
 rw [hr] at n5
 unfold dynamic
 rw [n1]
 show (number B (a + 5) 5).bind _ = _
 rw [n2]
 show (number B (a + 5 + 5) 4).bind _ = _
 rw [n3]
 show (if 286 < l - 257 + 257 ∨ 30 < d - 1 + 1 then _ else (firsts B (orderT.take (c - 4 + 4)) (a + 5 + 5 + 4) (List.replicate 19 0)).bind _) = _
 rw [if_neg (by omega), show c - 4 + 4 = c by omega, n4]
 show (if book first = true then (lens B first (l - 257 + 257 + (d - 1 + 1)) (l - 257 + 257 + (d - 1 + 1) + 1) (a + 5 + 5 + 4 + (firstsW first (orderT.take c)).length) []).bind _ else _) = _
 rw [if_pos hb, show l - 257 + 257 = l by omega, show d - 1 + 1 = d by omega, n5]
 have e1 : (L ++ D).take l = L := by rw [← hL, List.take_left]
 have e2 : (L ++ D).drop l = D := by rw [← hL, List.drop_left]
 have e3 : (L ++ D).getD 256 0 = L.getD 256 0 := by
  rw [List.getD_eq_getElem?_getD, List.getD_eq_getElem?_getD, List.getElem?_append_left (by omega)]
 show (if (L ++ D).getD 256 0 = 0 then _ else if book ((L ++ D).take l) = true then if book ((L ++ D).drop l) = true then Except.ok (_, (L ++ D).take l, (L ++ D).drop l) else _ else _) = _
 rw [e1, e2, e3, if_neg h256, if_pos hbL, if_pos hbD]
 simp only [List.length_append, PBits.bitsOf_length]
 congr 2
 omega
/-! Blocks. -/
theorem fixed_has (s : Nat) (h : s < 288) : Has fixedL s := by
 have : ∀ s, s < 288 → (s < fixedL.length ∧ 1 ≤ fixedL.getD s 0 ∧ fixedL.getD s 0 ≤ mostN fixedL) := by decide +kernel
 exact this s h
theorem fixed_hasD (s : Nat) (h : s < 32) : Has fixedD s := by
 have : ∀ s, s < 32 → (s < fixedD.length ∧ 1 ≤ fixedD.getD s 0 ∧ fixedD.getD s 0 ≤ mostN fixedD) := by decide +kernel
 exact this s h
theorem fixed_at {B : List Bool} {most a : Nat} {out : List UInt8} {l : List Tok} (h : At B a (toksW fixedL fixedD l)) (ht : ToksOk fixedL fixedD out l) (ho : (toksO out l).length ≤ most) (hl : l.length ≤ B.length) :
  body B most 1 a out = .ok (a + (toksW fixedL fixedD l).length, toksO out l) := by
 unfold body
 rw [if_neg (by decide), if_pos rfl]
 exact pressed_at fixed_sum fixed_sumD l _ a out h ht ho (by omega)
theorem dyn_at {B : List Bool} {most a c l d : Nat} {first L D : List Nat} {rows : List (Nat × Nat)} {out : List UInt8} {ts : List Tok} (h : At B a (headW first c l d rows ++ toksW L D ts)) (hd : dynamic B a = .ok (a + (headW first c l d rows).length, L, D))
  (hL : book L = true) (hD : book D = true) (ht : ToksOk L D out ts) (ho : (toksO out ts).length ≤ most) (hl : ts.length ≤ B.length) :
  body B most 2 a out = .ok (a + (headW first c l d rows ++ toksW L D ts).length, toksO out ts) := by
 unfold body
 rw [if_neg (by decide), if_neg (by decide), if_pos rfl, hd]
 show pressed B most L D (B.length + 1) (a + (headW first c l d rows).length) out = _
 rw [pressed_at (book_sum hL) (book_sum hD) ts _ _ out h.right ht ho (by omega), List.length_append, Nat.add_assoc]
theorem stored_at {B : List Bool} {most a : Nat} {out l : List UInt8} (h : At B ((a + 7) / 8 * 8) (storedW l)) (hl : l.length ≤ 65535) (ho : (out ++ l).length ≤ most) :
  body B most 0 a out = .ok ((a + 7) / 8 * 8 + (storedW l).length, out ++ l) := by
 unfold storedW at h ⊢
 have n1 := number_at h.left (show l.length < 2 ^ 16 by omega)
 have h2 := h.right
 rw [PBits.bitsOf_length] at h2
 have n2 := number_at h2.left (show 65535 - l.length < 2 ^ 16 by omega)
 have h3 := h2.right
 rw [PBits.bitsOf_length] at h3
 have h4 := h3.le
 rw [PBits.ofB_length] at h4
 unfold body
 rw [if_pos rfl]
 unfold stored
 rw [n1]
 show (number B ((a + 7) / 8 * 8 + 16) 16).bind _ = _
 rw [n2]
 rw [List.length_append] at ho
 show (if 65535 - l.length ≠ 65535 - l.length then _ else if (B.length - ((a + 7) / 8 * 8 + 16 + 16)) / 8 < l.length then _ else if most - out.length < l.length then _ else Except.ok ((a + 7) / 8 * 8 + 16 + 16 + 8 * l.length, out ++ bytesAt B ((a + 7) / 8 * 8 + 16 + 16) l.length)) = _
 rw [if_neg (by simp), if_neg (by omega), if_neg (by omega), bytes_at l h3]
 simp only [List.length_append, PBits.bitsOf_length, PBits.ofB_length]
 congr 2
 omega
theorem block_at {B : List Bool} {most a kind a' : Nat} {last : Bool} {out out' : List UInt8} (h : At B a ([last] ++ PBits.bitsOf kind 2)) (hk : kind < 4) (hb : body B most kind (a + 3) out = .ok (a', out')) :
  block B most a out = .ok (last, kind, a', out') := by
 have e : ([last] : List Bool) = PBits.bitsOf last.toNat 1 := by cases last <;> rfl
 rw [e] at h
 have n1 := number_at h.left (show last.toNat < 2 ^ 1 by cases last <;> decide)
 have h2 := h.right
 rw [PBits.bitsOf_length] at h2
 have n2 := number_at h2 (show kind < 2 ^ 2 by omega)
 unfold block
 rw [n1]
 show (number B (a + 1) 2).bind _ = _
 rw [n2]
 show (body B most kind (a + 1 + 2) out).bind _ = _
 rw [show a + 1 + 2 = a + 3 by omega, hb]
 show Except.ok (last.toNat == 1, kind, a', out') = _
 cases last <;> rfl
theorem blocks_at {B : List Bool} {most n : Nat} (A K : Nat → Nat) (O : Nat → List UInt8) (h : ∀ i, i < n → block B most (A i) (O i) = .ok (decide (i + 1 = n), K i, A (i + 1), O (i + 1))) :
  ∀ (k i f : Nat) (bl : List Blk), i + k = n → 0 < k → k ≤ f → blocks B most f (A i) (O i) bl = .ok (A n, O n, bl ++ (List.range k).map fun j => ⟨K (i + j), decide (i + j + 1 = n), (O (i + j)).length, (O (i + j + 1)).length⟩) := by
 intro k
 induction k with
 | zero => intro i f bl h1 h2; omega
 | succ k ih =>
  intro i f bl h1 h2 h3
  cases f with
  | zero => omega
  | succ f =>
   rw [blocks, h i (by omega)]
   show (if decide (i + 1 = n) = true then _ else blocks B most f (A (i + 1)) (O (i + 1)) (bl ++ [⟨K i, decide (i + 1 = n), (O i).length, (O (i + 1)).length⟩])) = _
   rw [List.range_succ_eq_map, List.map_cons, List.map_map]
   by_cases e : i + 1 = n
   ·rw [if_pos (by simpa using e)]
    obtain rfl : k = 0 := by omega
    subst e
    simp
   ·rw [if_neg (by simpa using e), ih (i + 1) f _ (by omega) (by omega) (by omega)]
    congr 3
    rw [List.append_assoc, List.singleton_append]
    congr 2
    refine List.map_congr_left fun j _ => ?_
    show _ = Blk.mk (K (i + (j + 1))) _ _ _
    rw [show i + 1 + j = i + (j + 1) by omega]
end PI
end Go.Proofs.YtiogaejfcenooaaDoor

namespace Go.Proofs.YtiogaejfcenooaaDoor
set_option linter.unusedVariables false
set_option linter.unusedSimpArgs false
namespace PI
theorem syms_end (l : List Tok) : 256 ∈ symsOf l := by
 induction l with
 | nil => simp [symsOf]
 | cons t l ih => cases t <;> simp [symsOf, ih]
theorem rle_ok {m : List Nat} : ∀ (f : Nat) (l acc : List Nat), (∀ x ∈ l, x ≤ 15) → (∀ t ∈ rle f l, Has m t.1) → TellsOk m acc (rle f l) := by
 intro f
 induction f with
 | zero => intro l acc _ _; exact trivial
 | succ f ih =>
  intro l acc h15 hm
  cases l with
  | nil => exact trivial
  | cons x r =>
   have hx := h15 x (List.mem_cons_self ..)
   have hd15 : ∀ k, ∀ y ∈ (x :: r).drop k, y ≤ 15 := fun k y hy => h15 y (List.mem_of_mem_drop hy)
   rw [rle] at hm ⊢
   split
   ·rename_i hc
    rw [if_pos hc] at hm
    refine ⟨⟨hm _ (List.mem_cons_self ..), ?_, fun h => by simp at h⟩, ih _ _ (hd15 _) fun t ht => hm t (List.mem_cons_of_mem _ ht)⟩
    show min (runL x r + 1) 138 - 11 < 2 ^ 7
    omega
   ·rename_i hc1
    rw [if_neg hc1] at hm
    split
    ·rename_i hc
     rw [if_pos hc] at hm
     refine ⟨⟨hm _ (List.mem_cons_self ..), ?_, fun h => by simp at h⟩, ih _ _ (hd15 _) fun t ht => hm t (List.mem_cons_of_mem _ ht)⟩
     show runL x r + 1 - 3 < 2 ^ 3
     have : ¬ (11 ≤ runL x r + 1) := fun h => hc1 ⟨hc.1, h⟩
     omega
    ·rename_i hc2
     rw [if_neg hc2] at hm
     have hxl : (0 : Nat) < 2 ^ tellB x := by rw [tellB_small x hx]; decide
     split
     ·rename_i hc
      rw [if_pos hc] at hm
      refine ⟨⟨hm _ (List.mem_cons_self ..), hxl, fun h => by have : x = 16 := h; omega⟩, ⟨hm _ (List.mem_cons_of_mem _ (List.mem_cons_self ..)), ?_, fun _ => ?_⟩, ih _ _ (hd15 _) fun t ht => hm t (List.mem_cons_of_mem _ (List.mem_cons_of_mem _ ht))⟩
      ·show min (runL x r + 1) 7 - 4 < 2 ^ 2
       omega
      ·rw [tellO_lit _ _ _ hx]; simp
     ·rename_i hc3
      rw [if_neg hc3] at hm
      exact ⟨⟨hm _ (List.mem_cons_self ..), hxl, fun h => by have : x = 16 := h; omega⟩, ih _ _ (fun y hy => h15 y (List.mem_cons_of_mem _ hy)) fun t ht => hm t (List.mem_cons_of_mem _ ht)⟩
theorem order_all : ∀ i, i < 19 → i ∈ orderT.take 19 := by decide
theorem heads_gen {B : List Bool} {a : Nat} (LA LB : List Nat) (hA : book LA = true) (hA1 : LA.length = 286) (hA2 : ∀ x ∈ LA, x ≤ 15) (hA3 : LA.getD 256 0 ≠ 0) (hB : book LB = true) (hB1 : LB.length = 30) (hB2 : ∀ x ∈ LB, x ≤ 15)
  (h : At B a (headsW LA LB)) : dynamic B a = .ok (a + (headsW LA LB).length, LA, LB) := by
 have h15 : ∀ x ∈ LA ++ LB, x ≤ 15 := fun x hx => by
  rcases List.mem_append.1 hx with hx | hx
  ·exact hA2 x hx
  ·exact hB2 x hx
 unfold headsW at h ⊢
 have hrows : ∀ t ∈ rowsOf LA LB, t.1 < 19 := rle_small _ _ h15
 have hro : tellsO [] (rowsOf LA LB) = LA ++ LB := rle_out _ (LA ++ LB) [] (Nat.le_refl _) h15
 have hok : ∀ m : List Nat, (∀ t ∈ rowsOf LA LB, Has m t.1) → TellsOk m [] (rowsOf LA LB) := fun m hm => rle_ok _ _ _ h15 hm
 generalize rowsOf LA LB = rows at h hrows hro hok ⊢
 obtain ⟨c1, c2, c3, c4, c5⟩ := lens_fits 19 7 (rows.map Prod.fst) (by decide) (by decide) (by decide) (by decide)
 have e : firstOf rows = PL.lens (cnts 19 (rows.map Prod.fst)) 7 := rfl
 rw [← e] at c1 c2 c3 c4
 generalize firstOf rows = first at h c1 c2 c3 c4 ⊢
 exact dynamic_at h (by omega) (by omega) (by omega) (by omega) (by omega) (by omega) (fun x hx => by have := c3 x hx; omega) c2 (fun i hi hn => absurd (order_all i hi) hn) c1 (hok _ fun t ht => c4 t.1 (List.mem_map_of_mem ht) (hrows t ht)) hro hA1 hB1 hA3 hA hB
theorem heads_read {B : List Bool} {a : Nat} (ts : List Tok) (h : At B a (headsW (lensA ts) (lensB ts))) : dynamic B a = .ok (a + (headsW (lensA ts) (lensB ts)).length, lensA ts, lensB ts) := by
 obtain ⟨a1, a2, a3, a4, a5⟩ := lens_fits 286 15 (symsOf ts) (by decide) (by decide) (by decide) (by decide)
 obtain ⟨b1, b2, b3, b4, b5⟩ := lens_fits 30 15 (farsOf ts) (by decide) (by decide) (by decide) (by decide)
 have a6 := (a4 256 (syms_end ts) (by decide)).2.1
 have e1 : lensA ts = PL.lens (cnts 286 (symsOf ts)) 15 := rfl
 have e2 : lensB ts = PL.lens (cnts 30 (farsOf ts)) 15 := rfl
 rw [← e1] at a1 a2 a3 a6
 rw [← e2] at b1 b2 b3
 exact heads_gen _ _ a1 a2 a3 (by omega) b1 b2 b3 h
theorem tok_one {m d : List Nat} {out : List UInt8} {t : Tok} (h : TokOk m d out t) : 1 ≤ (tokW m d t).length := by
 cases t with
 | lit c =>
  have h' : Has m c.toNat := h
  show 1 ≤ (codeW m c.toNat).length
  rw [codeW_len]
  exact h'.2.1
 | cpy n b =>
  obtain ⟨_, _, _, _, _, h6, _⟩ := h
  show 1 ≤ (sayW m _ _ _ ++ sayW d _ _ _).length
  unfold sayW
  rw [List.length_append, List.length_append, codeW_len]
  have := h6.2.1
  omega
theorem toks_len {m d : List Nat} : ∀ (ts : List Tok) (out : List UInt8), ToksOk m d out ts → ts.length ≤ (toksW m d ts).length := by
 intro ts
 induction ts with
 | nil => intro out _; exact Nat.zero_le _
 | cons t l ih =>
  intro out h
  have h1 := tok_one h.1
  have h2 := ih _ h.2
  have e : toksW m d (t :: l) = tokW m d t ++ toksW m d l := by simp [toksW]
  rw [e, List.length_append, List.length_cons]
  omega
theorem part_read {B : List Bool} {most a : Nat} {last : Bool} {out : List UInt8} (x : WPart) (h : At B a (partW x last a out)) (ho : (partO x out).length ≤ most) :
  block B most a out = .ok (last, x.kind % 3, a + (partW x last a out).length, partO x out) := by
 unfold partW at h ⊢
 have h1 := h.right
 rw [List.length_append, PBits.bitsOf_length, List.length_singleton, show a + (1 + 2) = a + 3 by omega] at h1
 have hk : x.kind % 3 < 3 := Nat.mod_lt _ (by decide)
 have key : body B most (x.kind % 3) (a + 3) out = .ok (a + ([last] ++ PBits.bitsOf (x.kind % 3) 2 ++ bodyW x (a + 3) out).length, partO x out) := by
  have e3 : a + ([last] ++ PBits.bitsOf (x.kind % 3) 2 ++ bodyW x (a + 3) out).length = a + 3 + (bodyW x (a + 3) out).length := by
   rw [List.length_append, List.length_append, PBits.bitsOf_length, List.length_singleton]; omega
  rw [e3]
  unfold bodyW at h1 ⊢
  unfold partO at ho ⊢
  by_cases h0 : x.kind % 3 = 0
  ·rw [if_pos h0] at h1 ho ⊢
   rw [if_pos h0, h0]
   have h2 := h1.right
   rw [List.length_replicate, show a + 3 + ((a + 3 + 7) / 8 * 8 - (a + 3)) = (a + 3 + 7) / 8 * 8 by omega] at h2
   rw [stored_at h2 (by rw [List.length_take]; omega) ho, List.length_append, List.length_replicate]
   congr 2
   omega
  ·rw [if_neg h0] at h1 ho ⊢
   rw [if_neg h0]
   have hg := good_toks x out
   by_cases hk1 : x.kind % 3 = 1
   ·rw [if_pos hk1] at h1 ⊢
    rw [hk1]
    have hok := hg.has (m := fixedL) (d := fixedD) _ _ (fun s _ hs => fixed_has s (by omega)) (fun s _ hs => fixed_hasD s (by omega))
    have := toks_len _ _ hok
    have := h1.le
    exact fixed_at h1 hok ho (by omega)
   ·rw [if_neg hk1] at h1 ⊢
    have hk2 : x.kind % 3 = 2 := by omega
    rw [hk2]
    obtain ⟨a1, a2, a3, a4, a5⟩ := lens_fits 286 15 (symsOf (toks x out)) (by decide) (by decide) (by decide) (by decide)
    obtain ⟨b1, b2, b3, b4, b5⟩ := lens_fits 30 15 (farsOf (toks x out)) (by decide) (by decide) (by decide) (by decide)
    have hok := hg.has (m := lensA (toks x out)) (d := lensB (toks x out)) _ _ a4 b4
    have h5 := toks_len _ _ hok
    have h6 := h1.le
    rw [List.length_append] at h6
    exact dyn_at h1 (heads_read _ h1.left) a1 b1 hok ho (by omega)
 exact block_at h.left (by omega) key
theorem partO_len (x : WPart) (out : List UInt8) : out.length ≤ (partO x out).length := by
 unfold partO
 split
 ·simp
 ·exact toksO_len _ _
theorem stW_more (l : List WPart) (i : Nat) : ∀ k, ∃ r, (stW l (i + k)).1 = (stW l i).1 ++ r ∧ (stW l i).2.length ≤ (stW l (i + k)).2.length := by
 intro k
 induction k with
 | zero => exact ⟨[], by simp, Nat.le_refl _⟩
 | succ k ih =>
  obtain ⟨r, h1, h2⟩ := ih
  refine ⟨r ++ partW (l.getD (i + k) ⟨0, [], []⟩) (decide (i + k + 1 = l.length)) (stW l (i + k)).1.length (stW l (i + k)).2, ?_, Nat.le_trans h2 (partO_len _ _)⟩
  rw [show i + (k + 1) = (i + k) + 1 by omega, stW]
  show (stW l (i + k)).1 ++ _ = _
  rw [← List.append_assoc, ← h1]
def blksW (l : List WPart) : List Blk := (List.range l.length).map fun j => ⟨(l.getD j ⟨0, [], []⟩).kind % 3, decide (j + 1 = l.length), (stW l j).2.length, (stW l (j + 1)).2.length⟩
theorem parts_read {B : List Bool} {most : Nat} (l : List WPart) (hl : 0 < l.length) (h : At B 0 (stW l l.length).1) (ho : (stW l l.length).2.length ≤ most) (hf : l.length ≤ B.length + 1) :
  all B most = .ok ((stW l l.length).1.length, (stW l l.length).2, blksW l) := by
 have hb := blocks_at (B := B) (most := most) (n := l.length) (fun i => (stW l i).1.length) (fun i => (l.getD i ⟨0, [], []⟩).kind % 3) (fun i => (stW l i).2) (fun i hi => by
  obtain ⟨r, h1, h2⟩ := stW_more l (i + 1) (l.length - (i + 1))
  rw [show i + 1 + (l.length - (i + 1)) = l.length by omega] at h1 h2
  rw [h1] at h
  have h3 := h.left
  rw [stW] at h3
  have h4 := h3.right
  rw [Nat.zero_add] at h4
  have h5 := part_read (most := most) _ h4 (by have e : (stW l (i + 1)).2 = partO (l.getD i ⟨0, [], []⟩) (stW l i).2 := rfl; rw [← e]; omega)
  show block B most (stW l i).1.length (stW l i).2 = _
  rw [h5]
  show Except.ok (_, _, _, _) = Except.ok (_, _, (stW l (i + 1)).1.length, (stW l (i + 1)).2)
  rw [stW]
  simp only [List.length_append]) l.length 0 (B.length + 1) [] (by omega) hl hf
 unfold all
 rw [show blocks B most (B.length + 1) 0 [] [] = blocks B most (B.length + 1) ((fun i => (stW l i).1.length) 0) ((fun i => (stW l i).2) 0) [] from rfl, hb]
 simp [blksW]
theorem ofB_pack (l : List Bool) : PBits.ofB (packB l) = l ++ List.replicate ((l.length + 7) / 8 * 8 - l.length) false := by
 apply PBits.num_inj
 ·rw [PBits.ofB_length, List.length_append, List.length_replicate]
  unfold packB
  rw [PBits.bytesOf_length]
  omega
 ·rw [PBits.num_ofB, PBits.num_append, PBits.num_false]
  unfold packB
  rw [PBits.le_bytesOf, Nat.mul_zero, Nat.add_zero]
  refine Nat.mod_eq_of_lt (Nat.lt_of_lt_of_le (PBits.num_lt l) ?_)
  rw [show (256 : Nat) = 2 ^ 8 by decide, ← Nat.pow_mul]
  exact Nat.pow_le_pow_right (by decide) (by omega)
theorem partsW_len (l : List WPart) : 0 < (partsW l).length ∧ (partsW l).length ≤ 5 := by
 unfold partsW
 split
 ·exact ⟨by decide, by decide⟩
 ·rw [List.length_take]; omega
theorem bitsW_len (l : List WPart) : 3 * (partsW l).length ≤ (bitsW l).length := by
 unfold bitsW
 generalize hn : (partsW l).length = n
 have : ∀ i, 3 * i ≤ (stW (partsW l) i).1.length := by
  intro i
  induction i with
  | zero => exact Nat.zero_le _
  | succ i ih =>
   rw [stW]
   simp only [List.length_append, partW, PBits.bitsOf_length, List.length_singleton]
   omega
 exact this n
theorem written_read (l : List WPart) (most : Nat) (h : (outW l).length ≤ most) : all (PBits.ofB (packB (bitsW l))) most = .ok ((bitsW l).length, outW l, blksW (partsW l)) := by
 obtain ⟨h1, h2⟩ := partsW_len l
 have h3 := bitsW_len l
 refine parts_read (partsW l) h1 ?_ h ?_
 ·rw [ofB_pack]
  have := At.mid [] (bitsW l) (List.replicate (((bitsW l).length + 7) / 8 * 8 - (bitsW l).length) false)
  rw [List.nil_append] at this
  exact this
 ·rw [PBits.ofB_length, packB_len]
  omega
end PI
end Go.Proofs.YtiogaejfcenooaaDoor

namespace Go.Proofs.YtiogaejfcenooaaDoor
set_option linter.unusedVariables false
set_option linter.unusedSimpArgs false
namespace PI
theorem ofB_take (l : List UInt8) (k : Nat) : PBits.ofB (l.take k) = (PBits.ofB l).take (8 * k) := by
 by_cases h : k ≤ l.length
 ·have e := PI.PBits.ofB_append (l.take k) (l.drop k)
  rw [List.take_append_drop] at e
  rw [e, List.take_left' (by rw [PBits.ofB_length, List.length_take, Nat.min_eq_left h])]
 ·rw [List.take_of_length_le (by omega), List.take_of_length_le (by rw [PBits.ofB_length]; omega)]
/-! The laws' answers. -/
theorem written_cap (l : List WPart) (most : Nat) (h : most < (outW l).length) : all (PBits.ofB (packB (bitsW l))) most = .error 22 :=
 Fine.all.cap _ (outW l).length (Nat.zero_le _) (Nat.zero_le _) _ (written_read l _ (Nat.le_refl _)) most (Nat.zero_le _) h
theorem written_behind (l : List WPart) (r : List UInt8) (most : Nat) (h : (outW l).length ≤ most) : all (PBits.ofB (packB (bitsW l) ++ r)) most = .ok ((bitsW l).length, outW l, blksW (partsW l)) := by
 have hb : (bitsW l).length ≤ (PBits.ofB (packB (bitsW l))).length := by rw [PBits.ofB_length, packB_len]; omega
 refine Fine.all.ext _ (outW l).length (Nat.zero_le _) (Nat.zero_le _) _ (written_read l _ (Nat.le_refl _)) _ most ?_ ?_ h
 ·show List.take (bitsW l).length _ = _
  rw [PI.PBits.ofB_append, List.take_append_of_le_length hb]
 ·show (bitsW l).length ≤ _
  rw [PI.PBits.ofB_append, List.length_append]; omega
theorem written_short (l : List WPart) (most : Nat) (h : (outW l).length ≤ most) : all (PBits.ofB ((packB (bitsW l)).take ((packB (bitsW l)).length - 1))) most = .error 4 := by
 have h1 := bitsW_len l
 have h2 := (partsW_len l).1
 rw [ofB_take]
 refine Fine.all.short _ most (Nat.zero_le _) (Nat.zero_le _) _ (written_read l most h) _ (Nat.zero_le _) ?_
 show _ < (bitsW l).length
 rw [packB_len]; omega
theorem all_again {l : List UInt8} {most : Nat} {r : Nat × List UInt8 × List Blk} (h : all (PBits.ofB l) most = .ok r) : all (PBits.ofB (l.take ((r.1 + 7) / 8))) r.2.1.length = .ok r := by
 have h1 := (all_pos h).1
 rw [PBits.ofB_length] at h1
 rw [ofB_take]
 refine Fine.all.ext _ most (Nat.zero_le _) (Nat.zero_le _) _ h _ _ ?_ ?_ (Nat.le_refl _)
 ·show List.take r.1 _ = _
  rw [List.take_take, Nat.min_eq_left (by omega)]
 ·show r.1 ≤ _
  rw [List.length_take, PBits.ofB_length]; omega
theorem blksW_len (l : List WPart) : (blksW l).length = l.length := by simp [blksW]
theorem blksW_get (l : List WPart) (j : Nat) (h : j < l.length) : (blksW l)[j]? = some ⟨(l.getD j ⟨0, [], []⟩).kind % 3, decide (j + 1 = l.length), (stW l j).2.length, (stW l (j + 1)).2.length⟩ := by
 unfold blksW
 rw [List.getElem?_map, List.getElem?_range h]
 rfl
theorem stW_le (l : List WPart) (j : Nat) : (stW l j).2.length ≤ (stW l (j + 1)).2.length := partO_len _ _
end PI
end Go.Proofs.YtiogaejfcenooaaDoor

namespace Go.Proofs.YtiogaejfcenooaaDoor
set_option linter.unusedVariables false
set_option linter.unusedSimpArgs false
open Go.RowKit
set_option maxRecDepth 100000 in
set_option maxHeartbeats 4000000 in
theorem xblocks_ok (v : Value) (l : List UInt8) (most : Nat) (TL TA : Option Addr) (cl ca : Nat) {w0 w : World} {L : List Pr} (H : Sp w0 L w) (hb : Ent L fun w => Byt w v l) (hl : l.length ≤ 100000000) (hm : most ≤ 1000000000) (hT : Ent L (Tabs TL TA cl ca)) :
  Calls Tryd.prog 14 #[v, .int .i64 (most : Int)] w (BEnd w0 L (PI.all (PBits.ofB l) most)) := by
 have HX := Lib.hid (xexpand_ok v l most TL TA cl ca H hb hl hm hT)
 clear hT hb
 go_enter Tryd.func14, Tryd.ntmps14
 go_wp2_with fail
 refine HX.out.mono ?_
 intro e9 w1 h9
 unfold XEnd at h9
 cases hr : PI.all (PBits.ofB l) most with
 | error c =>
  rw [hr] at h9
  obtain ⟨rfl, H1⟩ := h9
  have hc := PI.all_err hr
  have k1 : ((c : Int) != 0) = true := by simp; omega
  have k1' : ¬ (c : Int) = 0 := by omega
  have HE := Lib.hid hr
  clear hr HX hc
  go_wp2_with fail
  go_ret2
  exact BEnd.no HE.out H1
 | ok r =>
  rw [hr] at h9
  obtain ⟨gx, rfl, H1⟩ := h9
  obtain ⟨gr, vo, vb, H2⟩ := xd_open H1
  have d1 : w1.cell? ⟨gx, 3, none⟩ = some vb := H2.cell 1 rfl 3
  have HE := Lib.hid hr
  clear hr HX H1
  go_wp2_with fail
  go_ret2
  exact BEnd.yes HE.out (H2.pick 4 [3])
end Go.Proofs.YtiogaejfcenooaaDoor

