/- A pack of texts: InfR InfSg InfHd InfS InfA InfB. -/
import Derived.Recover
import Derived.WalkLawsBesides
import Derived.Test.YtiogaejfcenooaaDoorPk04
import Derived.Test.YtiogaejfcenooaaDoorPk13
import Derived.Test.YtiogaejfcenooaaDoorPk14
import Derived.Test.YtiogaejfcenooaaDoorPk18
import Derived.Test.YtiogaejfcenooaaDoorPk19
namespace Go.Proofs.YtiogaejfcenooaaDoor
set_option linter.unusedVariables false
set_option linter.unusedSimpArgs false
open Go.RowKit
theorem u32_conv (q : Nat) : IntKind.u32.wrap (q : Int) = ((q % 4294967296 : Nat) : Int) := by rw [IntKind.wrap_u32']; omega
set_option maxRecDepth 100000 in
set_option maxHeartbeats 2000000 in
theorem pnum_ok (gp n many : Nat) (l : List Bool) {w0 w : World} {L : List Pr} (H : Sp w0 (Pen gp l :: L) w) (hm : many ≤ 57) (hl : l.length + many ≤ 100000000) :
  Calls Tryd.prog 22 #[.pointer (some ⟨gp, 0, none⟩), .int .i64 (n : Int), .int .i64 (many : Int)] w fun e w' => e = .returned (.tuple #[]) ∧ Sp w0 (Pen gp (l ++ PBits.bitsOf n many) :: L) w' := by
 go_enter Tryd.func22, Tryd.ntmps22
 go_wp2_with fail
 go_loopw [6] (fun iv wr => ∃ i : Nat, iv = .int .i64 (i : Int) ∧ i ≤ many ∧ Sp w0 (Pen gp (l ++ PBits.bitsOf n i) :: L) wr) (fun iv _ => many - (intOf iv).toNat)
 case atStart => exact ⟨0, rfl, Nat.zero_le _, by show Sp w0 (Pen gp (l ++ []) :: L) _; rw [List.append_nil]; exact H⟩
 case round =>
  obtain ⟨i, rfl, hi, H1⟩ := hrel
  clear H
  by_cases hlt : i < many
  ·have k1 : (i : Int) < (many : Int) := by omega
   obtain ⟨q, hq⟩ : ∃ q, n / 2 ^ i = q := ⟨_, rfl⟩
   have y1 : (n : Int) / 2 ^ i = (q : Int) := by rw [← hq]; simp
   have hw := u32_conv q
   obtain ⟨m, hm9⟩ : ∃ m, q % 4294967296 = m := ⟨_, rfl⟩
   rw [hm9] at hw
   have hml : m < 4294967296 := by omega
   have hc := pbit_ok gp m _ H1 hml (by rw [List.length_append, PBits.bitsOf_length]; omega)
   have e1 : (m % 2 == 1) = (n / 2 ^ i % 2 == 1) := by rw [hq, show m % 2 = q % 2 by omega]
   rw [e1, List.append_assoc, ← PI.bitsOf_snoc] at hc
   have HC := Lib.hid hc
   clear hc e1 hq hm9 H1
   go_wp2_with fail
   refine HC.out.mono ?_
   rintro _ w2 ⟨rfl, H2⟩
   clear HC
   go_wp2
   go_roundw
   case rel => exact ⟨i + 1, by go_num, by omega, H2⟩
   case measure => first | (simp [intOf]; omega) | simp [intOf]
  ·have k1 : ¬ (i : Int) < (many : Int) := by omega
   obtain rfl : i = many := by omega
   go_wp2_with fail
   go_end0
   exact ⟨rfl, H1⟩
set_option maxRecDepth 100000 in
set_option maxHeartbeats 2000000 in
theorem pcode_ok (gp c n : Nat) (l : List Bool) {w0 w : World} {L : List Pr} (H : Sp w0 (Pen gp l :: L) w) (hc : c < 4294967296) (hn : n ≤ 31) (hl : l.length + n ≤ 100000000) :
  Calls Tryd.prog 43 #[.pointer (some ⟨gp, 0, none⟩), .int .u32 (c : Int), .int .i64 (n : Int)] w fun e w' => e = .returned (.tuple #[]) ∧ Sp w0 (Pen gp (l ++ PH.bitsC n c) :: L) w' := by
 go_enter Tryd.func43, Tryd.ntmps43
 go_wp2_with fail
 go_loopw [6] (fun iv wr => ∃ j : Nat, iv = .int .i64 ((n : Int) - 1 - (j : Int)) ∧ j ≤ n ∧ Sp w0 (Pen gp (l ++ (PH.bitsC n c).take j) :: L) wr) (fun iv _ => (intOf iv + 1).toNat)
 case atStart => exact ⟨0, by go_num, Nat.zero_le _, by show Sp w0 (Pen gp (l ++ []) :: L) _; rw [List.append_nil]; exact H⟩
 case round =>
  obtain ⟨j, rfl, hj, H1⟩ := hrel
  clear H
  by_cases hlt : j < n
  ·obtain ⟨k, hk⟩ : ∃ k, n - 1 - j = k := ⟨_, rfl⟩
   have y0 : (n : Int) - 1 - (j : Int) = (k : Int) := by omega
   rw [y0]
   obtain ⟨q, hq⟩ : ∃ q, c / 2 ^ k = q := ⟨_, rfl⟩
   have y1 : (c : Int) / 2 ^ k = (q : Int) := by rw [← hq]; simp
   have hql : q < 4294967296 := by rw [← hq]; exact Nat.lt_of_le_of_lt (Nat.div_le_self _ _) hc
   have h9 := pbit_ok gp q _ H1 hql (by rw [List.length_append, List.length_take, PH.bitsC_len]; omega)
   have e1 : (q % 2 == 1) = (c / 2 ^ (n - 1 - j) % 2 == 1) := by rw [hk, hq]
   rw [e1, List.append_assoc, ← PI.bitsC_snoc n c j hlt] at h9
   have HC := Lib.hid h9
   have hk2 : k ≤ 30 := by omega
   clear h9 e1 hq H1
   have HK := Lib.hid hk
   clear hk y0
   go_wp2_with fail
   refine HC.out.mono ?_
   rintro _ w2 ⟨rfl, H2⟩
   clear HC
   go_wp2
   go_roundw
   case rel => exact ⟨j + 1, by have := HK.out; go_num, by omega, H2⟩
   case measure => first | (simp [intOf]; omega) | simp [intOf]
  ·obtain rfl : j = n := by omega
   have y0 : (j : Int) - 1 - (j : Int) = -1 := by omega
   rw [y0]
   have e : (PH.bitsC j c).take j = PH.bitsC j c := List.take_of_length_le (by rw [PH.bitsC_len]; exact Nat.le_refl _)
   rw [e] at H1
   go_wp2_with fail
   go_end0
   exact ⟨rfl, H1⟩
end Go.Proofs.YtiogaejfcenooaaDoor

namespace Go.Proofs.YtiogaejfcenooaaDoor
set_option linter.unusedVariables false
set_option linter.unusedSimpArgs false
namespace PI
abbrev Sg := Nat × Nat × Nat
def sgsT : Tok → List Sg
 | .lit c => [(c.toNat, 0, 0)]
 | .cpy n b => [(257 + (longS n).1, (longS n).2.2, (longS n).2.1), ((farS b).1, (farS b).2.2, (farS b).2.1)]
def sgs (l : List Tok) : List Sg := l.flatMap sgsT ++ [(256, 0, 0)]
def farNx (f : Bool) (s : Nat) : Bool := !f && decide (256 < s)
def farAt (l : List Sg) : Nat → Bool
 | 0 => false
 | k + 1 => farNx (farAt l k) (l.getD k (0, 0, 0)).1
def sgW (m d : List Nat) (x : Sg) (far : Bool) : List Bool := sayW (if far then d else m) x.1 x.2.1 x.2.2
def sgsW (m d : List Nat) (l : List Sg) : Nat → List Bool
 | 0 => []
 | k + 1 => sgsW m d l k ++ sgW m d (l.getD k (0, 0, 0)) (farAt l k)
def sgsL (m d : List Nat) : Bool → List Sg → List Bool
 | _, [] => []
 | f, x :: r => sgW m d x f ++ sgsL m d (farNx f x.1) r
theorem getD_cons_drop {α : Type} {l : List α} {k : Nat} (z : α) (h : k < l.length) : l.drop k = l.getD k z :: l.drop (k + 1) := by
 rw [List.drop_eq_getElem_cons h, List.getD_eq_getElem?_getD, List.getElem?_eq_getElem h]; rfl
theorem sgsW_L (m d : List Nat) (l : List Sg) : ∀ k, k ≤ l.length → sgsW m d l k ++ sgsL m d (farAt l k) (l.drop k) = sgsL m d false l := by
 intro k
 induction k with
 | zero => intro _; rfl
 | succ k ih =>
  intro hk
  rw [← ih (by omega), getD_cons_drop (0, 0, 0) (show k < l.length by omega)]
  show (sgsW m d l k ++ _) ++ _ = _ ++ (_ ++ _)
  rw [List.append_assoc]
  rfl
theorem sgsL_tok (m d : List Nat) {t : Tok} {r : List Sg} : sgsL m d false (sgsT t ++ r) = tokW m d t ++ sgsL m d false r := by
 cases t with
 | lit c =>
  have hc := c.toNat_lt
  show sayW m c.toNat 0 0 ++ sgsL m d (farNx false c.toNat) r = _
  have e : farNx false c.toNat = false := by
   show (true && decide (256 < c.toNat)) = false
   simp; omega
  rw [e]
  show (codeW m c.toNat ++ []) ++ _ = _
  rw [List.append_nil]; rfl
 | cpy n b =>
  show sayW m (257 + (longS n).1) _ _ ++ (sgsL m d (farNx false (257 + (longS n).1)) (((farS b).1, (farS b).2.2, (farS b).2.1) :: r)) = _
  have e : farNx false (257 + (longS n).1) = true := by
   show (true && decide (256 < 257 + (longS n).1)) = true
   simp; omega
  rw [e]
  show _ ++ (sayW d _ _ _ ++ sgsL m d (farNx true (farS b).1) r) = _
  have e2 : farNx true (farS b).1 = false := rfl
  rw [e2, ← List.append_assoc]; rfl
theorem sgsL_toks (m d : List Nat) (l : List Tok) : sgsL m d false (sgs l) = toksW m d l := by
 unfold sgs toksW
 induction l with
 | nil =>
  show sayW m 256 0 0 ++ [] = [] ++ codeW m 256
  show (codeW m 256 ++ []) ++ [] = _
  simp
 | cons t l ih => rw [List.flatMap_cons, List.flatMap_cons, List.append_assoc, sgsL_tok, ih, List.append_assoc]
theorem sgsW_toks (m d : List Nat) (l : List Tok) : sgsW m d (sgs l) (sgs l).length = toksW m d l := by
 rw [← sgsL_toks, ← sgsW_L m d (sgs l) (sgs l).length (Nat.le_refl _), List.drop_length]
 show _ = _ ++ []
 rw [List.append_nil]
/-! What is counted. -/
def symK (l : List Sg) : Nat → List Nat
 | 0 => []
 | k + 1 => symK l k ++ if farAt l k then [] else [(l.getD k (0, 0, 0)).1]
def farK (l : List Sg) : Nat → List Nat
 | 0 => []
 | k + 1 => farK l k ++ if farAt l k then [(l.getD k (0, 0, 0)).1] else []
def symL : Bool → List Sg → List Nat
 | _, [] => []
 | f, x :: r => (if f then [] else [x.1]) ++ symL (farNx f x.1) r
def farL : Bool → List Sg → List Nat
 | _, [] => []
 | f, x :: r => (if f then [x.1] else []) ++ farL (farNx f x.1) r
theorem symK_L (l : List Sg) : ∀ k, k ≤ l.length → symK l k ++ symL (farAt l k) (l.drop k) = symL false l ∧ farK l k ++ farL (farAt l k) (l.drop k) = farL false l := by
 intro k
 induction k with
 | zero => intro _; exact ⟨rfl, rfl⟩
 | succ k ih =>
  intro hk
  obtain ⟨h1, h2⟩ := ih (by omega)
  rw [← h1, ← h2, getD_cons_drop (0, 0, 0) (show k < l.length by omega)]
  refine ⟨?_, ?_⟩
  ·show (symK l k ++ _) ++ _ = _ ++ (_ ++ _)
   rw [List.append_assoc]; rfl
  ·show (farK l k ++ _) ++ _ = _ ++ (_ ++ _)
   rw [List.append_assoc]; rfl
theorem symL_tok {t : Tok} {r : List Sg} : symL false (sgsT t ++ r) = (match t with | .lit c => [c.toNat] | .cpy n _ => [257 + (longS n).1]) ++ symL false r ∧ farL false (sgsT t ++ r) = (match t with | .lit c => [] | .cpy _ b => [(farS b).1]) ++ farL false r := by
 cases t with
 | lit c =>
  have hc := c.toNat_lt
  have e : farNx false c.toNat = false := by
   show (true && decide (256 < c.toNat)) = false
   simp; omega
  refine ⟨?_, ?_⟩
  ·show [c.toNat] ++ symL (farNx false c.toNat) r = _
   rw [e]
  ·show [] ++ farL (farNx false c.toNat) r = _
   rw [e]
 | cpy n b =>
  have e : farNx false (257 + (longS n).1) = true := by
   show (true && decide (256 < 257 + (longS n).1)) = true
   simp; omega
  have e2 : farNx true (farS b).1 = false := rfl
  refine ⟨?_, ?_⟩
  ·show [257 + (longS n).1] ++ symL (farNx false (257 + (longS n).1)) (_ :: r) = _
   rw [e]
   show _ ++ ([] ++ symL (farNx true (farS b).1) r) = _
   rw [e2]; rfl
  ·show [] ++ farL (farNx false (257 + (longS n).1)) (_ :: r) = _
   rw [e]
   show _ ++ ([(farS b).1] ++ farL (farNx true (farS b).1) r) = _
   rw [e2]; rfl
theorem symL_toks (l : List Tok) : symL false (sgs l) = symsOf l ∧ farL false (sgs l) = farsOf l := by
 unfold sgs
 induction l with
 | nil => exact ⟨rfl, rfl⟩
 | cons t l ih =>
  rw [List.flatMap_cons, List.append_assoc, symL_tok.1, symL_tok.2, ih.1, ih.2]
  cases t <;> exact ⟨rfl, rfl⟩
theorem symK_toks (l : List Tok) : symK (sgs l) (sgs l).length = symsOf l ∧ farK (sgs l) (sgs l).length = farsOf l := by
 obtain ⟨h1, h2⟩ := symK_L (sgs l) (sgs l).length (Nat.le_refl _)
 rw [List.drop_length] at h1 h2
 obtain ⟨h3, h4⟩ := symL_toks l
 rw [← h3, ← h4, ← h1, ← h2]
 exact ⟨(List.append_nil _).symm, (List.append_nil _).symm⟩
theorem cnts_snoc (n s : Nat) (l : List Nat) (h : s < n) : cnts n (l ++ [s]) = (cnts n l).set s ((cnts n l).getD s 0 + 1) := by
 rw [cnts_get n s l h]
 refine List.ext_getElem (by simp [cnts]) fun i h1 h2 => ?_
 rw [List.getElem_set]
 simp only [cnts, List.getElem_map, List.getElem_range, List.count_append]
 by_cases e : s = i
 ·subst e
  simp
 ·rw [if_neg e, List.count_singleton, beq_eq_false_iff_ne.2 e]; simp
def SgOk (l : List Sg) : Prop := ∀ k, k < l.length → ((farAt l k = false → (l.getD k (0, 0, 0)).1 < 286) ∧ (farAt l k = true → (l.getD k (0, 0, 0)).1 < 30)) ∧ (l.getD k (0, 0, 0)).2.2 ≤ 13 ∧ (l.getD k (0, 0, 0)).2.1 < 32768
def sgOkL : Bool → List Sg → Prop
 | _, [] => True
 | f, x :: r => (((f = false → x.1 < 286) ∧ (f = true → x.1 < 30)) ∧ x.2.2 ≤ 13 ∧ x.2.1 < 32768) ∧ sgOkL (farNx f x.1) r
theorem sgOk_drop {l : List Sg} : ∀ k, k ≤ l.length → sgOkL false l → sgOkL (farAt l k) (l.drop k) := by
 intro k
 induction k with
 | zero => intro _ h; exact h
 | succ k ih =>
  intro hk h
  have := ih (by omega) h
  rw [getD_cons_drop (0, 0, 0) (show k < l.length by omega)] at this
  exact this.2
theorem sgOk_of {l : List Sg} (h : sgOkL false l) : SgOk l := fun k hk => by
 have := sgOk_drop k (by omega) h
 rw [getD_cons_drop (0, 0, 0) hk] at this
 exact this.1
theorem sgOk_toks : ∀ (l : List Tok) (out : List UInt8), Good out l → SgOk (sgs l) := by
 intro l out h
 refine sgOk_of ?_
 unfold sgs
 induction l generalizing out with
 | nil => exact ⟨⟨⟨fun _ => by show 256 < 286; decide, fun h => by cases h⟩, by show 0 ≤ 13; decide, by show 0 < 32768; decide⟩, trivial⟩
 | cons t l ih =>
  rw [List.flatMap_cons, List.append_assoc]
  cases t with
  | lit c =>
   have hc := c.toNat_lt
   have e : farNx false c.toNat = false := by
    show (true && decide (256 < c.toNat)) = false
    simp; omega
   refine ⟨⟨⟨fun _ => by show c.toNat < 286; omega, fun h => by cases h⟩, by show 0 ≤ 13; decide, by show 0 < 32768; decide⟩, ?_⟩
   show sgOkL (farNx false c.toNat) _
   rw [e]
   exact ih _ h
  | cpy n b =>
   obtain ⟨⟨h1, h2, h3, h4, h5⟩, h6⟩ := h
   have e : farNx false (257 + (longS n).1) = true := by
    show (true && decide (256 < 257 + (longS n).1)) = true
    simp; omega
   obtain ⟨a1, a2, a3⟩ := longS_lt n h1 h2
   obtain ⟨b1, b2, b3⟩ := farS_lt b h3 h4
   have p1 : 2 ^ (longS n).2.1 ≤ 2 ^ 5 := Nat.pow_le_pow_right (by decide) a3
   have p2 : 2 ^ (farS b).2.1 ≤ 2 ^ 13 := Nat.pow_le_pow_right (by decide) b3
   refine ⟨⟨⟨fun _ => by show 257 + (longS n).1 < 286; omega, fun h => by cases h⟩, by show (longS n).2.1 ≤ 13; omega, by show (longS n).2.2 < 32768; omega⟩, ?_⟩
   show sgOkL (farNx false (257 + (longS n).1)) (((farS b).1, (farS b).2.2, (farS b).2.1) :: _)
   rw [e]
   refine ⟨⟨⟨fun h => (by cases h), fun _ => by show (farS b).1 < 30; omega⟩, by show (farS b).2.1 ≤ 13; omega, by show (farS b).2.2 < 32768; omega⟩, ?_⟩
   have e2 : farNx true (farS b).1 = false := rfl
   show sgOkL (farNx true (farS b).1) _
   rw [e2]
   exact ih _ h6
theorem sgs_len (l : List Tok) : (sgs l).length ≤ 2 * l.length + 1 := by
 unfold sgs
 rw [List.length_append]
 induction l with
 | nil => exact Nat.le_refl _
 | cons t l ih =>
  rw [List.flatMap_cons, List.length_append, List.length_cons]
  have : (sgsT t).length ≤ 2 := by cases t <;> simp [sgsT]
  simp at ih ⊢
  omega
end PI
end Go.Proofs.YtiogaejfcenooaaDoor

namespace Go.Proofs.YtiogaejfcenooaaDoor
set_option linter.unusedVariables false
set_option linter.unusedSimpArgs false
namespace PI
theorem runL_eq (x : Nat) : ∀ (l : List Nat) (m : Nat), m ≤ l.length → (∀ j, j < m → l.getD j 0 = x) → (m < l.length → l.getD m 0 ≠ x) → runL x l = m := by
 intro l
 induction l with
 | nil => intro m h _ _; simp at h; rw [h]; rfl
 | cons y l ih =>
  intro m h1 h2 h3
  cases m with
  | zero =>
   have := h3 (by simp)
   unfold runL
   rw [if_neg (by simpa using this)]
  | succ m =>
   have h0 := h2 0 (by omega)
   unfold runL
   rw [if_pos (by simpa using h0), ih m (by simpa using h1) (fun j hj => by simpa using h2 (j + 1) (by omega)) (fun hj => by simpa using h3 (by simpa using hj))]
theorem runL_at {l : List Nat} {i k : Nat} (hi : i < l.length) (hik : i < k) (hk : k ≤ l.length) (h : ∀ j, i ≤ j → j < k → l.getD j 0 = l.getD i 0) (hs : k < l.length → l.getD k 0 ≠ l.getD i 0) : runL (l.getD i 0) (l.drop (i + 1)) + 1 = k - i := by
 have e : runL (l.getD i 0) (l.drop i) = k - i := by
  refine runL_eq _ _ _ (by rw [List.length_drop]; omega) (fun j hj => ?_) (fun hj => ?_)
  ·rw [List.getD_eq_getElem?_getD, List.getElem?_drop, ← List.getD_eq_getElem?_getD]
   exact h (i + j) (by omega) (by omega)
  ·rw [List.getD_eq_getElem?_getD, List.getElem?_drop, ← List.getD_eq_getElem?_getD, show i + (k - i) = k by omega]
   exact hs (by rw [List.length_drop] at hj; omega)
 rw [← e, getD_cons_drop 0 hi, runL, if_pos rfl]
theorem rle_at {l : List Nat} {i f : Nat} (hi : i < l.length) : rle (f + 1) (l.drop i) =
  if l.getD i 0 = 0 ∧ 11 ≤ runL (l.getD i 0) (l.drop (i + 1)) + 1 then (18, min (runL (l.getD i 0) (l.drop (i + 1)) + 1) 138 - 11) :: rle f (l.drop (i + min (runL (l.getD i 0) (l.drop (i + 1)) + 1) 138))
  else if l.getD i 0 = 0 ∧ 3 ≤ runL (l.getD i 0) (l.drop (i + 1)) + 1 then (17, runL (l.getD i 0) (l.drop (i + 1)) + 1 - 3) :: rle f (l.drop (i + (runL (l.getD i 0) (l.drop (i + 1)) + 1)))
  else if 4 ≤ runL (l.getD i 0) (l.drop (i + 1)) + 1 then (l.getD i 0, 0) :: (16, min (runL (l.getD i 0) (l.drop (i + 1)) + 1) 7 - 4) :: rle f (l.drop (i + min (runL (l.getD i 0) (l.drop (i + 1)) + 1) 7))
  else (l.getD i 0, 0) :: rle f (l.drop (i + 1)) := by
 have e := getD_cons_drop 0 hi
 have ed : ∀ m, l.drop (i + m) = (l.getD i 0 :: l.drop (i + 1)).drop m := fun m => by rw [← e, List.drop_drop]
 have e1 : ∀ m, (l.getD i 0 :: l.drop (i + 1)).drop (m + 1) = (l.drop (i + 1)).drop m := fun m => rfl
 rw [ed (min _ 138), ed (min _ 7), ed (runL _ _ + 1)]
 rw [show rle (f + 1) (l.drop i) = rle (f + 1) (l.getD i 0 :: l.drop (i + 1)) by rw [e]]
 rfl
def sgR (t : Nat × Nat) : Sg := (t.1, t.2, tellB t.1)
theorem tellB_le (s : Nat) : tellB s ≤ 7 := by unfold tellB; split <;> (try split) <;> (try split) <;> omega
theorem rle_val : ∀ (f : Nat) (l : List Nat), ∀ t ∈ rle f l, t.2 < 128 := by
 intro f
 induction f with
 | zero => intro l t ht; cases ht
 | succ f ih =>
  intro l t ht
  cases l with
  | nil => cases ht
  | cons x r =>
   rw [rle] at ht
   split at ht
   ·rcases List.mem_cons.1 ht with rfl | ht
    ·show min (runL x r + 1) 138 - 11 < 128; omega
    ·exact ih _ t ht
   split at ht
   ·rename_i hc1 hc
    rcases List.mem_cons.1 ht with rfl | ht
    ·show runL x r + 1 - 3 < 128
     have : ¬ (11 ≤ runL x r + 1) := fun h => hc1 ⟨hc.1, h⟩
     omega
    ·exact ih _ t ht
   split at ht
   ·rcases List.mem_cons.1 ht with rfl | ht
    ·show 0 < 128; omega
    ·rcases List.mem_cons.1 ht with rfl | ht
     ·show min (runL x r + 1) 7 - 4 < 128; omega
     ·exact ih _ t ht
   ·rcases List.mem_cons.1 ht with rfl | ht
    ·show 0 < 128; omega
    ·exact ih _ t ht
end PI
end Go.Proofs.YtiogaejfcenooaaDoor

namespace Go.Proofs.YtiogaejfcenooaaDoor
set_option linter.unusedVariables false
set_option linter.unusedSimpArgs false
open Go.RowKit
def sgC (x : PI.Sg) : List Value := [.int .i64 (x.1 : Int), .int .i64 (x.2.1 : Int), .int .i64 (x.2.2 : Int)]
def sgV (x : PI.Sg) : Value := .agg (sgC x).toArray
theorem sgC_one (x : PI.Sg) : ∀ v ∈ sgC x, v.oneCell' = true := by
 intro v hv
 rcases List.mem_cons.1 hv with rfl | hv
 ·rfl
 rcases List.mem_cons.1 hv with rfl | hv
 ·rfl
 ·rw [List.mem_singleton.1 hv]; rfl
def cellsS (l : List PI.Sg) : List Value := l.flatMap sgC
namespace PI
theorem lengthsT_get : ∀ k, k < 28 → (lengthsT.getD k (0, 0)).2 = k / 4 - 1 ∧ (lengthsT.getD k (0, 0)).2 ≤ 5 ∧ (lengthsT.getD k (0, 0)).1 ≤ 227 := by decide
theorem awayT_get : ∀ k, k < 30 → (awayT.getD k (0, 0)).2 = k / 2 - 1 ∧ (awayT.getD k (0, 0)).2 ≤ 13 ∧ (awayT.getD k (0, 0)).1 ≤ 24577 := by decide
end PI
set_option maxRecDepth 100000 in
set_option maxHeartbeats 4000000 in
theorem plong_ok (n : Nat) {w0 w : World} {L : List Pr} (H : Sp w0 L w) (h1 : 3 ≤ n) (h2 : n ≤ 258) :
  Calls Tryd.prog 39 #[.int .i64 (n : Int)] w fun e w' => e = .returned (sgV ((257 + (PI.longS n).1, (PI.longS n).2.2, (PI.longS n).2.1) : PI.Sg)) ∧ Sp w0 L w' := by
 have H1 := H.newBk [.int .i64 0, .int .i64 0, .int .i64 0] 102
 obtain ⟨g, hg⟩ : ∃ g, w.heap.size = g := ⟨_, rfl⟩
 rw [hg] at H1
 have hend : ∀ (w9 : World) (x : PI.Sg), Sp w0 (Bk g 102 (sgC x) :: L) w9 → ∀ A : Act, A.tmps[2]?.getD undef = .pointer (some ⟨g, 0, none⟩) → True := fun _ _ _ _ _ => trivial
 clear hend
 go_enter Tryd.func39, Tryd.ntmps39
 by_cases h258 : n = 258
 ·subst h258
  have H9 := H.newBk (sgC ((285, 0, 0) : PI.Sg)) 102
  rw [hg] at H9
  clear H1 H
  go_wp2_with fail
  change bodyPost _ _ _ _ _ (w.alloc (.cells (sgC ((285, 0, 0) : PI.Sg)).toArray 102))
  generalize w.alloc _ = w9 at H9 ⊢
  have hld := run_loadCells_list (P := Tryd.prog) w9 ⟨g, 0, none⟩ (sgC ((285, 0, 0) : PI.Sg)) (fun j v hj => by rw [addr0, H9.cell 0 rfl]; exact hj)
  rw [show (sgC ((285, 0, 0) : PI.Sg)).length = 3 from rfl] at hld
  refine bodyPost_ret (v := sgV ((285, 0, 0) : PI.Sg)) (by simp [results, Tryd.results39, Tryd.isAgg102, Tryd.sizeOf102, hld, Result.andThen, sgV, asAddr, loadVar]) rfl ?_
  exact ⟨rfl, H9.tail⟩
 have hn258 : n < 258 := by omega
 have g258 : ¬ (n : Int) = 258 := by omega
 have g258' : ((n : Int) == 258) = false := by rw [beq_eq_false_iff_ne]; exact g258
 obtain ⟨F, hF⟩ : ∃ F, PI.findT PI.lengthsT n 27 = F := ⟨_, rfl⟩
 have HF := Lib.hid hF
 clear H hF
 go_wp2_with fail
 generalize w.alloc _ = w1 at H1 ⊢
 go_loopw [3, 4] (fun fv sv wr => ∃ k : Nat, k ≤ F ∧ k < 28 ∧ fv = .int .i64 (((PI.lengthsT.getD k (0, 0)).1 : Nat) : Int) ∧ sv = .int .i64 ((k + 257 : Nat) : Int) ∧ Sp w0 (Bk g 102 [.int .i64 0, .int .i64 0, .int .i64 0] :: L) wr) (fun _ sv _ => 285 - (intOf sv).toNat)
 case atStart => exact ⟨0, Nat.zero_le _, by omega, rfl, rfl, H1⟩
 case round =>
  obtain ⟨k, hkF, hkK, rfl, rfl, H2⟩ := hrel
  clear H1
  obtain ⟨hm0, hm5, hfl⟩ := PI.lengthsT_get k hkK
  have hs1 := PI.stop_yes PI.lengths_steps n 27 k rfl (by show 3 ≤ n; exact h1) (by rw [HF.out]; exact hkF)
  have hs2 := PI.stop_no PI.lengths_steps n 27 k rfl (by show 3 ≤ n; exact h1) (by show n < _ ; simp [PI.lengthsT]; omega) (by rw [HF.out]; exact hkF)
  obtain ⟨fr, hfr⟩ : ∃ fr, (PI.lengthsT.getD k (0, 0)).1 = fr := ⟨_, rfl⟩
  obtain ⟨mo, hmo⟩ : ∃ mo, (PI.lengthsT.getD k (0, 0)).2 = mo := ⟨_, rfl⟩
  rw [hfr] at hs1 hs2 hfl ⊢
  rw [hmo] at hs1 hs2 hm0 hm5
  obtain ⟨pw, hpw⟩ : ∃ pw : Nat, 2 ^ mo = pw := ⟨_, rfl⟩
  rw [hpw] at hs1 hs2
  have hpl : pw ≤ 2 ^ 13 := by rw [← hpw]; exact Nat.pow_le_pow_right (by decide) (by omega)
  have HPW : Hid ((2 : Int) ^ mo = (pw : Int)) := by rw [← hpw]; exact Lib.hid (by simp)
  obtain ⟨k4, hk4⟩ : ∃ k4, k / 4 = k4 := ⟨_, rfl⟩
  rw [hk4] at hm0
  obtain ⟨sy, hsy⟩ : ∃ sy, k + 257 = sy := ⟨_, rfl⟩
  rw [hsy]
  have y1 : (sy : Int) - 257 = (k : Int) := by omega
  have y2 : (k : Int) / 4 = (k4 : Int) := by omega
  have y3 : max (0 : Int) ((k4 : Int) - 1) = (mo : Int) := by omega
  have HS1 := Lib.hid hs1
  have HS2 := Lib.hid hs2
  have HFR := Lib.hid hfr
  have HMO := Lib.hid hmo
  have HSY := Lib.hid hsy
  have ypw := HPW.out
  clear hs1 hs2 hfr hmo hpw hsy hm0 hk4
  obtain ⟨fp, hfp⟩ : ∃ fp, fr + pw = fp := ⟨_, rfl⟩
  have y4 : (fr : Int) + (pw : Int) = (fp : Int) := by omega
  have HFP := Lib.hid hfp
  clear hfp
  by_cases hlt : n < fp
  ·have k1 : (n : Int) < (fp : Int) := by omega
   have hkk : k = F := by rw [← HF.out]; exact HS1.out (by have := HFP.out; omega)
   have hfn : fr ≤ n := by
    have hsp := PI.findT_spec PI.lengthsT n 27 (by show 3 ≤ n; exact h1)
    rw [HF.out, ← hkk, HFR.out] at hsp
    exact hsp.2.1
   obtain ⟨d, hd⟩ : ∃ d, n - fr = d := ⟨_, rfl⟩
   have y5 : (n : Int) - (fr : Int) = (d : Int) := by omega
   have HD := Lib.hid hd
   have HH2 := Lib.hid H2
   have HKK := Lib.hid hkk
   clear hd H2 hkk
   go_wp2_with (refine wpList_store_whole rfl 102 _ _ rfl g 102 _ (sgC ((sy, d, mo) : PI.Sg)) rfl rfl HH2.out rfl Tryd.sizeOf102 (sgC_one _) ?_)
   intro w9 H9
   go_wp2_with fail
   have hld := run_loadCells_list (P := Tryd.prog) w9 ⟨g, 0, none⟩ (sgC ((sy, d, mo) : PI.Sg)) (fun j v hj => by rw [addr0, H9.cell 0 rfl]; exact hj)
   rw [show (sgC ((sy, d, mo) : PI.Sg)).length = 3 from rfl] at hld
   refine bodyPost_ret (v := sgV ((sy, d, mo) : PI.Sg)) (by simp [results, Tryd.results39, Tryd.isAgg102, Tryd.sizeOf102, hld, Result.andThen, sgV, asAddr, loadVar]) rfl ?_
   refine ⟨?_, H9.tail⟩
   have e : ((sy, d, mo) : PI.Sg) = ((257 + (PI.longS n).1, (PI.longS n).2.2, (PI.longS n).2.1) : PI.Sg) := by
    simp only [PI.longS, if_neg (show ¬ n = 258 by omega)]
    rw [HF.out, ← HKK.out, HFR.out, HMO.out, HD.out]
    rw [Nat.add_comm 257 k, HSY.out]
   rw [e]
  ·have k1 : ¬ (n : Int) < (fp : Int) := by omega
   obtain ⟨hk1, hnx⟩ := HS2.out (by have := HFP.out; omega)
   rw [HF.out] at hk1
   have hFK : F ≤ 27 := by
    have hsp := PI.findT_spec PI.lengthsT n 27 (by show 3 ≤ n; exact h1)
    rw [HF.out] at hsp
    exact hsp.1
   have hnx2 : (PI.lengthsT.getD (k + 1) (0, 0)).1 = fp := by rw [hnx, HFP.out]
   have HNX := Lib.hid hnx2
   clear hnx hnx2
   go_wp2_with fail
   go_roundw
   case rel => exact ⟨k + 1, hk1, by omega, by rw [HNX.out], by have := HSY.out; go_num, H2⟩
   case measure => have := HSY.out; first | (simp [intOf]; omega) | simp [intOf]
set_option maxRecDepth 100000 in
set_option maxHeartbeats 4000000 in
theorem pfar_ok (n : Nat) {w0 w : World} {L : List Pr} (H : Sp w0 L w) (h1 : 1 ≤ n) (h2 : n ≤ 32768) :
  Calls Tryd.prog 40 #[.int .i64 (n : Int)] w fun e w' => e = .returned (sgV (((PI.farS n).1, (PI.farS n).2.2, (PI.farS n).2.1) : PI.Sg)) ∧ Sp w0 L w' := by
 have H1 := H.newBk [.int .i64 0, .int .i64 0, .int .i64 0] 102
 obtain ⟨g, hg⟩ : ∃ g, w.heap.size = g := ⟨_, rfl⟩
 rw [hg] at H1
 have hend : ∀ (w9 : World) (x : PI.Sg), Sp w0 (Bk g 102 (sgC x) :: L) w9 → ∀ A : Act, A.tmps[2]?.getD undef = .pointer (some ⟨g, 0, none⟩) → True := fun _ _ _ _ _ => trivial
 clear hend
 go_enter Tryd.func40, Tryd.ntmps40
 have hn258 : True := by trivial
 obtain ⟨F, hF⟩ : ∃ F, PI.findT PI.awayT n 29 = F := ⟨_, rfl⟩
 have HF := Lib.hid hF
 clear H hF
 go_wp2_with fail
 generalize w.alloc _ = w1 at H1 ⊢
 go_loopw [3, 4] (fun fv sv wr => ∃ k : Nat, k ≤ F ∧ k < 30 ∧ fv = .int .i64 (((PI.awayT.getD k (0, 0)).1 : Nat) : Int) ∧ sv = .int .i64 ((k + 0 : Nat) : Int) ∧ Sp w0 (Bk g 102 [.int .i64 0, .int .i64 0, .int .i64 0] :: L) wr) (fun _ sv _ => 30 - (intOf sv).toNat)
 case atStart => exact ⟨0, Nat.zero_le _, by omega, rfl, rfl, H1⟩
 case round =>
  obtain ⟨k, hkF, hkK, rfl, rfl, H2⟩ := hrel
  clear H1
  obtain ⟨hm0, hm5, hfl⟩ := PI.awayT_get k hkK
  have hs1 := PI.stop_yes PI.away_steps n 29 k rfl (by show 1 ≤ n; exact h1) (by rw [HF.out]; exact hkF)
  have hs2 := PI.stop_no PI.away_steps n 29 k rfl (by show 1 ≤ n; exact h1) (by show n < _ ; simp [PI.awayT]; omega) (by rw [HF.out]; exact hkF)
  obtain ⟨fr, hfr⟩ : ∃ fr, (PI.awayT.getD k (0, 0)).1 = fr := ⟨_, rfl⟩
  obtain ⟨mo, hmo⟩ : ∃ mo, (PI.awayT.getD k (0, 0)).2 = mo := ⟨_, rfl⟩
  rw [hfr] at hs1 hs2 hfl ⊢
  rw [hmo] at hs1 hs2 hm0 hm5
  obtain ⟨pw, hpw⟩ : ∃ pw : Nat, 2 ^ mo = pw := ⟨_, rfl⟩
  rw [hpw] at hs1 hs2
  have hpl : pw ≤ 2 ^ 13 := by rw [← hpw]; exact Nat.pow_le_pow_right (by decide) (by omega)
  have HPW : Hid ((2 : Int) ^ mo = (pw : Int)) := by rw [← hpw]; exact Lib.hid (by simp)
  obtain ⟨k4, hk4⟩ : ∃ k4, k / 2 = k4 := ⟨_, rfl⟩
  rw [hk4] at hm0
  obtain ⟨sy, hsy⟩ : ∃ sy, k + 0 = sy := ⟨_, rfl⟩
  rw [hsy]
  have y1 : True := by trivial
  have y2 : (sy : Int) / 2 = (k4 : Int) := by omega
  have y3 : max (0 : Int) ((k4 : Int) - 1) = (mo : Int) := by omega
  have HS1 := Lib.hid hs1
  have HS2 := Lib.hid hs2
  have HFR := Lib.hid hfr
  have HMO := Lib.hid hmo
  have HSY := Lib.hid hsy
  have ypw := HPW.out
  clear hs1 hs2 hfr hmo hpw hsy hm0 hk4
  obtain ⟨fp, hfp⟩ : ∃ fp, fr + pw = fp := ⟨_, rfl⟩
  have y4 : (fr : Int) + (pw : Int) = (fp : Int) := by omega
  have HFP := Lib.hid hfp
  clear hfp
  by_cases hlt : n < fp
  ·have k1 : (n : Int) < (fp : Int) := by omega
   have hkk : k = F := by rw [← HF.out]; exact HS1.out (by have := HFP.out; omega)
   have hfn : fr ≤ n := by
    have hsp := PI.findT_spec PI.awayT n 29 (by show 1 ≤ n; exact h1)
    rw [HF.out, ← hkk, HFR.out] at hsp
    exact hsp.2.1
   obtain ⟨d, hd⟩ : ∃ d, n - fr = d := ⟨_, rfl⟩
   have y5 : (n : Int) - (fr : Int) = (d : Int) := by omega
   have HD := Lib.hid hd
   have HH2 := Lib.hid H2
   have HKK := Lib.hid hkk
   clear hd H2 hkk
   go_wp2_with (refine wpList_store_whole rfl 102 _ _ rfl g 102 _ (sgC ((sy, d, mo) : PI.Sg)) rfl rfl HH2.out rfl Tryd.sizeOf102 (sgC_one _) ?_)
   intro w9 H9
   go_wp2_with fail
   have hld := run_loadCells_list (P := Tryd.prog) w9 ⟨g, 0, none⟩ (sgC ((sy, d, mo) : PI.Sg)) (fun j v hj => by rw [addr0, H9.cell 0 rfl]; exact hj)
   rw [show (sgC ((sy, d, mo) : PI.Sg)).length = 3 from rfl] at hld
   refine bodyPost_ret (v := sgV ((sy, d, mo) : PI.Sg)) (by simp [results, Tryd.results40, Tryd.isAgg102, Tryd.sizeOf102, hld, Result.andThen, sgV, asAddr, loadVar]) rfl ?_
   refine ⟨?_, H9.tail⟩
   have e : ((sy, d, mo) : PI.Sg) = (((PI.farS n).1, (PI.farS n).2.2, (PI.farS n).2.1) : PI.Sg) := by
    simp only [PI.farS]
    rw [HF.out, ← HKK.out, HFR.out, HMO.out, HD.out]
    have := HSY.out; simp at this; rw [this]
   rw [e]
  ·have k1 : ¬ (n : Int) < (fp : Int) := by omega
   obtain ⟨hk1, hnx⟩ := HS2.out (by have := HFP.out; omega)
   rw [HF.out] at hk1
   have hFK : F ≤ 29 := by
    have hsp := PI.findT_spec PI.awayT n 29 (by show 1 ≤ n; exact h1)
    rw [HF.out] at hsp
    exact hsp.1
   have hnx2 : (PI.awayT.getD (k + 1) (0, 0)).1 = fp := by rw [hnx, HFP.out]
   have HNX := Lib.hid hnx2
   clear hnx hnx2
   go_wp2_with fail
   go_roundw
   case rel => exact ⟨k + 1, hk1, by omega, by rw [HNX.out], by have := HSY.out; go_num, H2⟩
   case measure => have := HSY.out; first | (simp [intOf]; omega) | simp [intOf]
end Go.Proofs.YtiogaejfcenooaaDoor

namespace Go.Proofs.YtiogaejfcenooaaDoor
set_option linter.unusedVariables false
set_option linter.unusedSimpArgs false
open Go.RowKit
def pan (e : Nat) : List PanicEntry := [{ v := .iface 27 (.int .i64 (e : Int)), recovered := false }]
def XpB (gx gr : Nat) (vo : Value) (most : Nat) (vb : Value) : Pr := Bk gx 80 [.pointer (some ⟨gr, 0, none⟩), vo, .int .i64 (most : Int), vb]
namespace PI
theorem numAt_peek (l : List UInt8) (a k : Nat) (h : a + k ≤ 8 * l.length) : numAt (PBits.ofB l) a k = PBits.peek l a k := by
 unfold numAt PBits.peek
 rw [PBits.num_mid _ _ _ (by rw [PBits.ofB_length]; exact h), PBits.num_ofB]
theorem numAt_small (B : List Bool) (a k K : Nat) (h : k ≤ K) : numAt B a k < 2 ^ K := Nat.lt_of_lt_of_le (numAt_lt B a k) (Nat.pow_le_pow_right (by omega) h)
end PI
theorem fail_ok (w : World) : Calls Tryd.prog 107 #[.int .i64 0] w fun e w' => e = .returned (.tuple #[]) ∧ w = w' := by
 go_enter Tryd.func107, Tryd.ntmps107
 go_wp2
 go_end0
 exact ⟨rfl, rfl⟩
theorem fail_no (c : Nat) (hc : c ≠ 0) (w : World) : Calls Tryd.prog 107 #[.int .i64 (c : Int)] w fun e w' => e = .panicked (pan c) ∧ w = w' := by
 have h : ¬ (c : Int) = 0 := by omega
 have h2 : ((c : Int) != 0) = true := by simpa using hc
 go_enter Tryd.func107, Tryd.ntmps107
 go_wp2
 exact ⟨rfl, rfl, rfl⟩
end Go.Proofs.YtiogaejfcenooaaDoor

namespace Go.Proofs.YtiogaejfcenooaaDoor
set_option linter.unusedVariables false
set_option linter.unusedSimpArgs false
open Go.RowKit
set_option maxRecDepth 100000 in
theorem xnum_ok (gx gr : Nat) (l : List UInt8) (most at_ k : Nat) (vo vb : Value) {w0 w : World} {L : List Pr} (H : Sp w0 (Rr gr l at_ :: XpB gx gr vo most vb :: L) w) (ha : at_ ≤ 8 * l.length) (hk : k ≤ 57) (hl : l.length ≤ 100000000) :
  Calls Tryd.prog 70 #[.pointer (some ⟨gx, 0, none⟩), .int .i64 (k : Int)] w fun e w' =>
   match PI.number (PBits.ofB l) at_ k with
   | .error c => e = .panicked (pan c) ∧ Sp w0 L w'
   | .ok r => e = .returned (.int .i64 (r.2 : Int)) ∧ Sp w0 (Rr gr l r.1 :: XpB gx gr vo most vb :: L) w' := by
 have c0 : w.cell? ⟨gx, 0, none⟩ = some (.pointer (some ⟨gr, 0, none⟩)) := H.cell 1 rfl 0
 cases hr : PI.number (PBits.ofB l) at_ k with
 | error c =>
  obtain ⟨rfl, hlt⟩ := PI.number_err hr
  rw [PBits.ofB_length] at hlt
  show Calls _ _ _ _ fun e w' => e = .panicked (pan 4) ∧ Sp w0 L w'
  go_enter Tryd.func70, Tryd.ntmps70
  go_wp2_with fail
  refine (get_short gr l at_ k H ha hlt hk (by omega)).mono ?_
  rintro _ w1 ⟨rfl, hK⟩
  have H1 := hK.sep H
  go_wp2_with fail
  refine (fail_no 4 (by decide) w1).mono ?_
  rintro _ w2 ⟨rfl, rfl⟩
  go_wp2
  exact ⟨rfl, rfl, H1.tail2⟩
 | ok r =>
  obtain ⟨rfl, hle⟩ := PI.number_ok hr
  rw [PBits.ofB_length] at hle
  show Calls _ _ _ _ fun e w' => e = .returned (.int .i64 (PI.numAt (PBits.ofB l) at_ k : Nat)) ∧ Sp w0 (Rr gr l (at_ + k) :: XpB gx gr vo most vb :: L) w'
  rw [PI.numAt_peek l at_ k hle]
  have hlt := PI.numAt_small (PBits.ofB l) at_ k 57 hk
  rw [PI.numAt_peek l at_ k hle] at hlt
  obtain ⟨v, hv⟩ : ∃ v, PBits.peek l at_ k = v := ⟨_, rfl⟩
  rw [hv] at hlt ⊢
  have HV := Lib.hid hv
  clear hv hr
  go_enter Tryd.func70, Tryd.ntmps70
  go_wp2_with fail
  refine (get_ok gr l at_ k H hle hk (by omega)).mono ?_
  rintro _ w1 ⟨rfl, H1⟩
  rw [HV.out]
  go_wp2_with fail
  refine (fail_ok w1).mono ?_
  rintro _ w2 ⟨rfl, rfl⟩
  go_wp2
  go_ret
  exact ⟨rfl, H1⟩
set_option maxRecDepth 100000 in
theorem xroom_ok (gx gr most n c many : Nat) (A : Option Addr) (vb : Value) {w0 w : World} {L : List Pr} (H : Sp w0 (XpB gx gr (.slice A n c) most vb :: L) w) (hn : n ≤ most) (hm : most ≤ 4611686018427387904) (hk : many ≤ 4611686018427387904) :
  Calls Tryd.prog 110 #[.pointer (some ⟨gx, 0, none⟩), .int .i64 (many : Int)] w fun e w' => (e = if most - n < many then .panicked (pan 22) else .returned (.tuple #[])) ∧ Keep w w' := by
 have c1 : w.cell? ⟨gx, 1, none⟩ = some (.slice A n c) := H.cell 0 rfl 1
 have c2 : w.cell? ⟨gx, 2, none⟩ = some (.int .i64 (most : Int)) := H.cell 0 rfl 2
 clear H
 by_cases h : most - n < many
 ·rw [if_pos h]
  have h2 : (many : Int) > (most : Int) - (n : Int) := by omega
  have n1 : decide (most - n < many) = true := by simpa using h
  go_enter Tryd.func110, Tryd.ntmps110
  go_wp2
  go_quiet (fail)
  go_wp2
  exact ⟨rfl, rfl, Keep.drewN _ _⟩
 ·rw [if_neg h]
  have h2 : ¬ (many : Int) > (most : Int) - (n : Int) := by omega
  have n1 : decide (most - n < many) = false := by simpa using h
  go_enter Tryd.func110, Tryd.ntmps110
  go_wp2
  go_quiet (fail)
  go_wp2
  go_end0
  exact ⟨rfl, Keep.drewN _ _⟩
def FeedX (gv gx gr : Nat) (l : List UInt8) (vo vb : Value) (most at_ : Nat) : Pr := Star (Rr gr l at_) (Star (XpB gx gr vo most vb) (Bk gv 75 [.pointer (some ⟨gx, 0, none⟩)]))
theorem feedX_open {w0 w : World} {L : List Pr} {gv gx gr : Nat} {l : List UInt8} {vo vb : Value} {most at_ : Nat} (H : Sp w0 (FeedX gv gx gr l vo vb most at_ :: L) w) :
  Sp w0 (Rr gr l at_ :: XpB gx gr vo most vb :: Bk gv 75 [.pointer (some ⟨gx, 0, none⟩)] :: L) w := by
 have H1 := H.unstar.swap.unstar
 exact H1.pick 3 [2, 0, 1]
theorem feedX_shut {w0 w : World} {L : List Pr} {gv gx gr : Nat} {l : List UInt8} {vo vb : Value} {most at_ : Nat} (H : Sp w0 (Rr gr l at_ :: XpB gx gr vo most vb :: Bk gv 75 [.pointer (some ⟨gx, 0, none⟩)] :: L) w) :
  Sp w0 (FeedX gv gx gr l vo vb most at_ :: L) w := (Sp.star (H.pick 3 [1, 2, 0])).swap.star
theorem PI.bit_num {B : List Bool} {a : Nat} {b : Bool} (h : B[a]? = some b) : PI.number B a 1 = .ok (a + 1, bitV b) := by
 obtain ⟨h1, h2⟩ := List.getElem?_eq_some_iff.1 h
 unfold PI.number PI.numAt
 rw [if_pos (by omega)]
 congr 2
 rw [List.drop_eq_getElem_cons h1, h2]
 cases b <;> simp [PBits.num, bitV]
set_option maxRecDepth 100000 in
theorem xbit_on (gv gx gr : Nat) (l : List UInt8) (vo vb : Value) (most at_ : Nat) (b : Bool) {w0 w : World} {L : List Pr} (H : Sp w0 (FeedX gv gx gr l vo vb most at_ :: L) w) (hl : l.length ≤ 100000000) (h : (PBits.ofB l)[at_]? = some b) :
  Calls Tryd.prog 150 #[.pointer (some ⟨gv, 0, none⟩)] w fun e w' => e = .returned (.tuple #[.int .u32 (bitV b : Int), .int .i64 0]) ∧ Sp w0 (FeedX gv gx gr l vo vb most (at_ + 1) :: L) w' := by
 have H1 := feedX_open H
 have c0 : w.cell? ⟨gv, 0, none⟩ = some (.pointer (some ⟨gx, 0, none⟩)) := H1.cell 2 rfl 0
 have c1 : w.cell? ⟨gx, 0, none⟩ = some (.pointer (some ⟨gr, 0, none⟩)) := H1.cell 1 rfl 0
 have hr := PI.bit_num h
 obtain ⟨e1, hle⟩ := PI.number_ok hr
 rw [PBits.ofB_length] at hle
 have e2 : PBits.peek l at_ 1 = bitV b := by
  rw [← PI.numAt_peek l at_ 1 hle]
  exact (congrArg Prod.snd e1).symm
 have E2 := Lib.hid e2
 have hb : bitV b ≤ 1 := by unfold bitV; split <;> omega
 clear e1 e2 hr h H
 go_enter Tryd.func150, Tryd.ntmps150
 go_wp2_with fail
 refine (get_ok gr l at_ 1 H1 hle (by omega) (by omega)).mono ?_
 rintro _ w1 ⟨rfl, H2⟩
 rw [E2.out]
 go_wp2_with fail
 go_ret2
 exact ⟨rfl, feedX_shut H2⟩
set_option maxRecDepth 100000 in
theorem xbit_end (gv gx gr : Nat) (l : List UInt8) (vo vb : Value) (most at_ : Nat) {w0 w : World} {L : List Pr} (H : Sp w0 (FeedX gv gx gr l vo vb most at_ :: L) w) (hl : l.length ≤ 100000000) (h : at_ = 8 * l.length) :
  Calls Tryd.prog 150 #[.pointer (some ⟨gv, 0, none⟩)] w fun e w' => e = .returned (.tuple #[.int .u32 0, .int .i64 4]) ∧ Sp w0 (FeedX gv gx gr l vo vb most at_ :: L) w' := by
 have H1 := feedX_open H
 have c0 : w.cell? ⟨gv, 0, none⟩ = some (.pointer (some ⟨gx, 0, none⟩)) := H1.cell 2 rfl 0
 have c1 : w.cell? ⟨gx, 0, none⟩ = some (.pointer (some ⟨gr, 0, none⟩)) := H1.cell 1 rfl 0
 clear H
 go_enter Tryd.func150, Tryd.ntmps150
 go_wp2_with fail
 refine (get_short gr l at_ 1 H1 (by omega) (by omega) (by omega) (by omega)).mono ?_
 rintro _ w1 ⟨rfl, hK⟩
 have H2 := hK.sep H1
 go_wp2_with fail
 go_ret2
 exact ⟨rfl, feedX_shut H2⟩
end Go.Proofs.YtiogaejfcenooaaDoor

