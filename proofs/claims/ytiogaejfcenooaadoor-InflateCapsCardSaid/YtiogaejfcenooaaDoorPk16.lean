/- A pack of texts: InfWord InfPen InfBit. -/
import Derived.Test.YtiogaejfcenooaaDoorPk14
import Derived.Test.YtiogaejfcenooaaDoorPk15
namespace Go.Proofs.YtiogaejfcenooaaDoor
set_option linter.unusedVariables false
set_option linter.unusedSimpArgs false
namespace PI
/-- Bits that stand at a place. -/
def At (B : List Bool) (a : Nat) (w : List Bool) : Prop := a + w.length ≤ B.length ∧ (B.drop a).take w.length = w
theorem At.left {B : List Bool} {a : Nat} {u v : List Bool} (h : At B a (u ++ v)) : At B a u := by
  obtain ⟨h1, h2⟩ := h
  rw [List.length_append] at h1 h2
  refine ⟨by omega, ?_⟩
  have := congrArg (List.take u.length) h2
  rw [List.take_take, Nat.min_eq_left (by omega), List.take_left] at this
  exact this
theorem At.right {B : List Bool} {a : Nat} {u v : List Bool} (h : At B a (u ++ v)) : At B (a + u.length) v := by
  obtain ⟨h1, h2⟩ := h
  rw [List.length_append] at h1 h2
  refine ⟨by omega, ?_⟩
  have := congrArg (List.drop u.length) h2
  rw [List.drop_take, List.drop_drop, List.drop_left, show u.length + v.length - u.length = v.length by omega] at this
  exact this
theorem At.mid (p w r : List Bool) : At (p ++ w ++ r) p.length w := by
  refine ⟨by simp, ?_⟩
  rw [List.append_assoc, List.drop_left, List.take_left]
theorem At.le {B : List Bool} {a : Nat} {w : List Bool} (h : At B a w) : a + w.length ≤ B.length := h.1
theorem At.drop {B : List Bool} {a : Nat} {w : List Bool} (h : At B a w) : B.drop a = w ++ B.drop (a + w.length) := by
  have := List.take_append_drop w.length (B.drop a)
  rw [h.2, List.drop_drop] at this
  exact this.symm
theorem number_at {B : List Bool} {a n k : Nat} (h : At B a (PBits.bitsOf n k)) (hn : n < 2 ^ k) : number B a k = .ok (a + k, n) := by
  obtain ⟨h1, h2⟩ := h
  rw [PBits.bitsOf_length] at h1 h2
  unfold number numAt
  rw [if_pos h1, h2, PBits.num_bitsOf, Nat.mod_eq_of_lt hn]
/-- A symbol that a book has. -/
def Has (m : List Nat) (s : Nat) : Prop := s < m.length ∧ 1 ≤ m.getD s 0 ∧ m.getD s 0 ≤ mostN m
def codeW (m : List Nat) (s : Nat) : List Bool := PH.bitsC (m.getD s 0) (PH.codeAt m s)
theorem codeW_len (m : List Nat) (s : Nat) : (codeW m s).length = m.getD s 0 := PH.bitsC_len _ _
/-- A sign by a book, and a number behind it. -/
def sayW (m : List Nat) (s more bits : Nat) : List Bool := codeW m s ++ PBits.bitsOf more bits
/-! Tokens. -/
inductive Tok
  | lit (c : UInt8)
  | cpy (n back : Nat)
/-- The last sign of a table that begins at a number, or ahead of it. -/
def findT (t : List (Nat × Nat)) (n : Nat) : Nat → Nat
  | 0 => 0
  | k + 1 => if (t.getD (k + 1) (0, 0)).1 ≤ n then k + 1 else findT t n k
/-- The sign of a length (less 257), its bits, their number. -/
def longS (n : Nat) : Nat × Nat × Nat := if n = 258 then (28, 0, 0) else (findT lengthsT n 27, (lengthsT.getD (findT lengthsT n 27) (0, 0)).2, n - (lengthsT.getD (findT lengthsT n 27) (0, 0)).1)
def farS (n : Nat) : Nat × Nat × Nat := (findT awayT n 29, (awayT.getD (findT awayT n 29) (0, 0)).2, n - (awayT.getD (findT awayT n 29) (0, 0)).1)
theorem findT_spec (t : List (Nat × Nat)) (n : Nat) : ∀ k, (t.getD 0 (0, 0)).1 ≤ n → findT t n k ≤ k ∧ (t.getD (findT t n k) (0, 0)).1 ≤ n ∧ (findT t n k < k → n < (t.getD (findT t n k + 1) (0, 0)).1) := by
  intro k h0
  induction k with
  | zero => exact ⟨Nat.le_refl _, h0, fun h => by unfold findT at h; omega⟩
  | succ k ih =>
    unfold findT
    split
    · rename_i h; exact ⟨Nat.le_refl _, h, fun h => by omega⟩
    · rename_i h
      obtain ⟨h1, h2, h3⟩ := ih
      refine ⟨by omega, h2, fun _ => ?_⟩
      by_cases e : findT t n k < k
      · exact h3 e
      · rw [show findT t n k = k by omega]; omega
/-- A table's parts lie one behind the other. -/
def stepsT (t : List (Nat × Nat)) : Prop := ∀ k, k + 1 < t.length → (t.getD (k + 1) (0, 0)).1 = (t.getD k (0, 0)).1 + 2 ^ (t.getD k (0, 0)).2
theorem lengths_steps : stepsT lengthsT := by
  intro k hk
  have : ∀ k, k < 27 → (lengthsT.getD (k + 1) (0, 0)).1 = (lengthsT.getD k (0, 0)).1 + 2 ^ (lengthsT.getD k (0, 0)).2 := by decide +kernel
  exact this k (by simp [lengthsT] at hk; omega)
theorem away_steps : stepsT awayT := by
  intro k hk
  have : ∀ k, k < 29 → (awayT.getD (k + 1) (0, 0)).1 = (awayT.getD k (0, 0)).1 + 2 ^ (awayT.getD k (0, 0)).2 := by decide +kernel
  exact this k (by simp [awayT] at hk; omega)
theorem longS_lt (n : Nat) (h1 : 3 ≤ n) (h2 : n ≤ 258) : (longS n).1 ≤ 28 ∧ (longS n).2.2 < 2 ^ (longS n).2.1 ∧ (longS n).2.1 ≤ 5 := by
  unfold longS
  split
  · exact ⟨Nat.le_refl _, by decide, by decide⟩
  · rename_i h
    obtain ⟨g1, g2, g3⟩ := findT_spec lengthsT n 27 h1
    refine ⟨by show findT _ _ _ ≤ 28; omega, ?_, ?_⟩
    · show n - (lengthsT.getD (findT lengthsT n 27) (0, 0)).1 < 2 ^ (lengthsT.getD (findT lengthsT n 27) (0, 0)).2
      by_cases e : findT lengthsT n 27 < 27
      · have h5 := lengths_steps (findT lengthsT n 27) (by show _ < 28; omega)
        have h6 := g3 e
        omega
      · rw [show findT lengthsT n 27 = 27 by omega]
        show n - 227 < 32
        omega
    · have : ∀ k, k < 28 → (lengthsT.getD k (0, 0)).2 ≤ 5 := by decide +kernel
      exact this _ (by omega)
theorem farS_lt (n : Nat) (h1 : 1 ≤ n) (h2 : n ≤ 32768) : (farS n).1 ≤ 29 ∧ (farS n).2.2 < 2 ^ (farS n).2.1 ∧ (farS n).2.1 ≤ 13 := by
  unfold farS
  obtain ⟨g1, g2, g3⟩ := findT_spec awayT n 29 h1
  refine ⟨g1, ?_, ?_⟩
  · show n - (awayT.getD (findT awayT n 29) (0, 0)).1 < 2 ^ (awayT.getD (findT awayT n 29) (0, 0)).2
    by_cases e : findT awayT n 29 < 29
    · have h5 := away_steps (findT awayT n 29) (by show _ < 30; omega)
      have h6 := g3 e
      omega
    · rw [show findT awayT n 29 = 29 by omega]
      show n - 24577 < 8192
      omega
  · have : ∀ k, k < 30 → (awayT.getD k (0, 0)).2 ≤ 13 := by decide +kernel
    exact this _ (by omega)
def tokW (m d : List Nat) : Tok → List Bool
  | .lit c => codeW m c.toNat
  | .cpy n back => sayW m (257 + (longS n).1) (longS n).2.2 (longS n).2.1 ++ sayW d (farS back).1 (farS back).2.2 (farS back).2.1
def toksW (m d : List Nat) (l : List Tok) : List Bool := l.flatMap (tokW m d) ++ codeW m 256
/-- What tokens make, behind bytes. -/
def tokO (out : List UInt8) : Tok → List UInt8
  | .lit c => out ++ [c]
  | .cpy n back => copy back n out
def toksO (out : List UInt8) (l : List Tok) : List UInt8 := l.foldl tokO out
/-- A token that may stand behind bytes, of books that have its signs. -/
def TokOk (m d : List Nat) (out : List UInt8) : Tok → Prop
  | .lit c => Has m c.toNat
  | .cpy n back => 3 ≤ n ∧ n ≤ 258 ∧ 1 ≤ back ∧ back ≤ 32768 ∧ back ≤ out.length ∧ Has m (257 + (longS n).1) ∧ Has d (farS back).1
def ToksOk (m d : List Nat) : List UInt8 → List Tok → Prop
  | _, [] => Has m 256
  | out, t :: l => TokOk m d out t ∧ ToksOk m d (tokO out t) l
/-! The lengths, told. -/
/-- A sign of lengths, and the number behind it. -/
def tellB (s : Nat) : Nat := if s = 16 then 2 else if s = 17 then 3 else if s = 18 then 7 else 0
def tellO (acc : List Nat) (t : Nat × Nat) : List Nat :=
  if t.1 = 16 then acc ++ List.replicate (3 + t.2) (acc.getD (acc.length - 1) 0) else if t.1 = 17 then acc ++ List.replicate (3 + t.2) 0 else if t.1 = 18 then acc ++ List.replicate (11 + t.2) 0 else acc ++ List.replicate 1 t.1
def tellsO (acc : List Nat) (l : List (Nat × Nat)) : List Nat := l.foldl tellO acc
def tellW (m : List Nat) (t : Nat × Nat) : List Bool := sayW m t.1 t.2 (tellB t.1)
def tellsW (m : List Nat) (l : List (Nat × Nat)) : List Bool := l.flatMap (tellW m)
theorem tellO_len (acc : List Nat) (t : Nat × Nat) : acc.length < (tellO acc t).length := by
  unfold tellO
  split
  · simp; omega
  split
  · simp; omega
  split
  · simp; omega
  · simp
theorem tellsO_len (acc : List Nat) (l : List (Nat × Nat)) : acc.length + l.length ≤ (tellsO acc l).length := by
  induction l generalizing acc with
  | nil => exact Nat.le_refl _
  | cons t l ih =>
    have h1 := tellO_len acc t
    have h2 := ih (tellO acc t)
    show _ ≤ (tellsO (tellO acc t) l).length
    simp only [List.length_cons]
    omega
theorem PH.nat_cast (m : List Nat) : PH.nat (castI m) = m := by
  unfold PH.nat castI
  rw [List.map_map]
  exact (List.map_congr_left fun n _ => by simp).trans (List.map_id m)
theorem PH.may_cast {m : List Nat} (h : m.length ≤ 1024) (h15 : ∀ x ∈ m, x ≤ 15) : PH.may (castI m) = true := by
  unfold PH.may castI
  simp only [Bool.and_eq_true, decide_eq_true_eq, Bool.not_eq_true', List.any_eq_false]
  refine ⟨by simpa using h, fun x hx => ?_⟩
  obtain ⟨n, hn, rfl⟩ := List.mem_map.1 hx
  have := h15 n hn
  unfold PH.bad
  simp only [decide_eq_true_eq]
  omega
theorem PBits.ofB_append (a b : List UInt8) : PBits.ofB (a ++ b) = PBits.ofB a ++ PBits.ofB b := by
  induction a with
  | nil => rfl
  | cons c a ih => rw [List.cons_append, PBits.ofB, PBits.ofB, ih, List.append_assoc]
/-! The head of a dynamic block. -/
def firstsW (first : List Nat) (c : List Nat) : List Bool := c.flatMap fun s => PBits.bitsOf (first.getD s 0) 3
def headW (first : List Nat) (c l d : Nat) (rows : List (Nat × Nat)) : List Bool :=
  PBits.bitsOf (l - 257) 5 ++ (PBits.bitsOf (d - 1) 5 ++ (PBits.bitsOf (c - 4) 4 ++ (firstsW first (orderT.take c) ++ tellsW first rows)))
theorem book_sum {m : List Nat} (h : book m = true) : PH.sum m ≤ 32768 := by
  unfold book PH.okB at h
  simp only [Bool.and_eq_true] at h
  rw [PI.PH.nat_cast] at h
  exact PH.mayBook_sum m h.2
theorem fixed_sum : PH.sum fixedL ≤ 32768 := by decide +kernel
theorem fixed_sumD : PH.sum fixedD ≤ 32768 := by decide +kernel
theorem bytes_at {B : List Bool} {a : Nat} : ∀ (l : List UInt8), At B a (PBits.ofB l) → bytesAt B a l.length = l := by
  intro l h
  apply List.ext_getElem
  · rw [bytesAt_len]
  · intro i h1 h2
    have e : l = l.take i ++ (l[i] :: l.drop (i + 1)) := by
      rw [← List.drop_eq_getElem_cons h2, List.take_append_drop]
    have e1 : PBits.ofB l = PBits.ofB (l.take i) ++ (PBits.bitsOf l[i].toNat 8 ++ PBits.ofB (l.drop (i + 1))) := by
      conv => lhs; rw [e]
      rw [PI.PBits.ofB_append]
      rfl
    rw [e1] at h
    have h3 := h.right.left
    rw [PBits.ofB_length, List.length_take, Nat.min_eq_left (by omega)] at h3
    have h4 := number_at h3 (show l[i].toNat < 2 ^ 8 from l[i].toNat_lt)
    have h5 := (number_ok h4).1
    have h6 : numAt B (a + 8 * i) 8 = l[i].toNat := by
      have := congrArg Prod.snd h5
      exact this.symm
    have e5 : (bytesAt B a l.length)[i]? = some l[i] := by
      unfold bytesAt
      rw [List.getElem?_map, List.getElem?_range h2, Option.map_some, h6, UInt8.ofNat_toNat]
    rw [List.getElem?_eq_getElem h1] at e5
    exact Option.some.inj e5
def storedW (l : List UInt8) : List Bool := PBits.bitsOf l.length 16 ++ (PBits.bitsOf (65535 - l.length) 16 ++ PBits.ofB l)
end PI
end Go.Proofs.YtiogaejfcenooaaDoor

namespace Go.Proofs.YtiogaejfcenooaaDoor
set_option linter.unusedVariables false
set_option linter.unusedSimpArgs false
namespace PI
/-- Counts of symbols. -/
def cnts (n : Nat) (l : List Nat) : List Nat := (List.range n).map fun i => l.count i
theorem cnts_len (n : Nat) (l : List Nat) : (cnts n l).length = n := by simp [cnts]
theorem cnts_get (n i : Nat) (l : List Nat) (h : i < n) : (cnts n l).getD i 0 = l.count i := by simp [cnts, List.getD_eq_getElem?_getD, h]
theorem items_le (cs : List Nat) : (PL.items cs).length ≤ cs.length := PL.itemsTo_len cs cs.length
theorem lens_fits (n m : Nat) (l : List Nat) (h1 : 1 ≤ m) (h15 : m ≤ 15) (hn : n ≤ 2 ^ m) (hn2 : n ≤ 1024) :
    book (PL.lens (cnts n l) m) = true ∧ (PL.lens (cnts n l) m).length = n ∧ (∀ x ∈ PL.lens (cnts n l) m, x ≤ m) ∧ (∀ s ∈ l, s < n → Has (PL.lens (cnts n l) m) s) ∧ ∀ s, s ∉ l → (PL.lens (cnts n l) m).getD s 0 = 0 := by
  have hk : (PL.items (cnts n l)).length ≤ 2 ^ m := Nat.le_trans (items_le _) (by rw [cnts_len]; exact hn)
  obtain ⟨b1, b2, mo, b3, b4, b5, b6⟩ := PL.lens_book (cnts n l) m h1 h15 hk
  have hlen : (PL.lens (cnts n l) m).length = n := by rw [PL.lens_len, cnts_len]
  have hmem : ∀ x ∈ PL.lens (cnts n l) m, x ≤ m := fun x hx => by
    obtain ⟨i, hi, rfl⟩ := List.getElem_of_mem hx
    have := (PL.lens_in (cnts n l) m i h1 hk (by rw [cnts_len, ← hlen]; exact hi)).2.2
    rwa [List.getD_eq_getElem?_getD, List.getElem?_eq_getElem hi] at this
  refine ⟨?_, hlen, hmem, fun s hs hsn => ?_, fun s hs => ?_⟩
  · unfold book PH.okB
    rw [PI.PH.nat_cast, b1, Bool.and_true]
    exact PI.PH.may_cast (by rw [hlen]; exact hn2) (fun x hx => Nat.le_trans (hmem x hx) h15)
  · have h2 := PL.lens_in (cnts n l) m s h1 hk (by rw [cnts_len]; exact hsn)
    rw [cnts_get n s l hsn] at h2
    have h3 := b6 s (by rw [cnts_len]; exact hsn)
    have h4 := mostN_of (PL.lens (cnts n l) m)
    refine ⟨by rw [hlen]; exact hsn, h2.1 (List.count_pos_iff.2 hs), ?_⟩
    rw [b3] at h4
    omega
  · by_cases hsn : s < n
    · have h2 := PL.lens_in (cnts n l) m s h1 hk (by rw [cnts_len]; exact hsn)
      rw [cnts_get n s l hsn] at h2
      exact h2.2.1 (List.count_eq_zero.2 hs)
    · rw [List.getD_eq_getElem?_getD, List.getElem?_eq_none (by omega)]; rfl
/-- The symbols of tokens, and the distances' signs. -/
def symsOf : List Tok → List Nat
  | [] => [256]
  | .lit c :: l => c.toNat :: symsOf l
  | .cpy n _ :: l => (257 + (longS n).1) :: symsOf l
def farsOf : List Tok → List Nat
  | [] => []
  | .lit _ :: l => farsOf l
  | .cpy _ b :: l => (farS b).1 :: farsOf l
/-- Tokens that may stand behind bytes. -/
def Good : List UInt8 → List Tok → Prop
  | _, [] => True
  | out, .lit c :: l => Good (out ++ [c]) l
  | out, .cpy n b :: l => (3 ≤ n ∧ n ≤ 258 ∧ 1 ≤ b ∧ b ≤ 32768 ∧ b ≤ out.length) ∧ Good (copy b n out) l
theorem Good.has {m d : List Nat} : ∀ (l : List Tok) (out : List UInt8), Good out l → (∀ s ∈ symsOf l, s < 286 → Has m s) → (∀ s ∈ farsOf l, s < 30 → Has d s) → ToksOk m d out l := by
  intro l
  induction l with
  | nil => intro out h hm hd; exact hm 256 (by simp [symsOf]) (by decide)
  | cons t l ih =>
    intro out h hm hd
    cases t with
    | lit c =>
      have hc := c.toNat_lt
      exact ⟨hm c.toNat (by simp [symsOf]) (by omega), ih _ h (fun s hs => hm s (by simp [symsOf, hs])) (fun s hs => hd s (by simpa [farsOf] using hs))⟩
    | cpy n b =>
      obtain ⟨⟨h1, h2, h3, h4, h5⟩, h6⟩ := h
      have g1 := longS_lt n h1 h2
      have g2 := farS_lt b h3 h4
      exact ⟨⟨h1, h2, h3, h4, h5, hm _ (by simp [symsOf]) (by omega), hd _ (by simp [farsOf]) (by omega)⟩, ih _ h6 (fun s hs => hm s (by simp [symsOf, hs])) (fun s hs => hd s (by simp [farsOf, hs]))⟩
/-! A row of lengths, told as the law tells it. -/
def runL (x : Nat) : List Nat → Nat
  | [] => 0
  | y :: l => if y = x then runL x l + 1 else 0
theorem runL_le (x : Nat) (l : List Nat) : runL x l ≤ l.length := by
  induction l with
  | nil => exact Nat.le_refl _
  | cons y l ih => unfold runL; split <;> simp <;> omega
theorem runL_take (x : Nat) : ∀ (l : List Nat) (k : Nat), k ≤ runL x l → l.take k = List.replicate k x := by
  intro l
  induction l with
  | nil => intro k h; obtain rfl : k = 0 := by simpa [runL] using h
           rfl
  | cons y l ih =>
    intro k h
    cases k with
    | zero => rfl
    | succ k =>
      unfold runL at h
      split at h
      · rename_i e
        rw [List.take_succ_cons, ih k (by omega), e]; rfl
      · omega
def rle : Nat → List Nat → List (Nat × Nat)
  | 0, _ => []
  | f + 1, l => match l with
    | [] => []
    | x :: r =>
      if x = 0 ∧ 11 ≤ runL x r + 1 then (18, min (runL x r + 1) 138 - 11) :: rle f (l.drop (min (runL x r + 1) 138))
      else if x = 0 ∧ 3 ≤ runL x r + 1 then (17, runL x r + 1 - 3) :: rle f (l.drop (runL x r + 1))
      else if 4 ≤ runL x r + 1 then (x, 0) :: (16, min (runL x r + 1) 7 - 4) :: rle f (l.drop (min (runL x r + 1) 7))
      else (x, 0) :: rle f r
theorem tellB_small (x : Nat) (h : x ≤ 15) : tellB x = 0 := by
  unfold tellB
  rw [if_neg (by omega), if_neg (by omega), if_neg (by omega)]
theorem tellO_lit (acc : List Nat) (x y : Nat) (h : x ≤ 15) : tellO acc (x, y) = acc ++ [x] := by
  unfold tellO
  simp only
  rw [if_neg (by omega), if_neg (by omega), if_neg (by omega)]
  rfl
theorem rle_out : ∀ (f : Nat) (l acc : List Nat), l.length ≤ f → (∀ x ∈ l, x ≤ 15) → tellsO acc (rle f l) = acc ++ l := by
  intro f
  induction f with
  | zero => intro l acc h _; obtain rfl := List.eq_nil_of_length_eq_zero (l := l) (by omega); simp [rle, tellsO]
  | succ f ih =>
    intro l acc h h15
    cases l with
    | nil => simp [rle, tellsO]
    | cons x r =>
      have hx := h15 x (List.mem_cons_self ..)
      have hr := runL_le x r
      simp only [List.length_cons] at h
      have hd : ∀ k, 1 ≤ k → ((x :: r).drop k).length ≤ f := fun k hk => by simp; omega
      have hd15 : ∀ k, ∀ y ∈ (x :: r).drop k, y ≤ 15 := fun k y hy => h15 y (List.mem_of_mem_drop hy)
      have htk : ∀ k, k ≤ runL x r + 1 → (x :: r).take k = List.replicate k x := fun k hk => by
        cases k with
        | zero => rfl
        | succ k => rw [List.take_succ_cons, runL_take x r k (by omega)]; rfl
      have hcat : ∀ k, k ≤ runL x r + 1 → List.replicate k x ++ (x :: r).drop k = x :: r := fun k hk => by rw [← htk k hk, List.take_append_drop]
      rw [rle]
      split
      · rename_i hc
        have e : tellO acc (18, min (runL x r + 1) 138 - 11) = acc ++ List.replicate (min (runL x r + 1) 138) x := by
          unfold tellO
          rw [if_neg (by show ¬ (18 : Nat) = 16; decide), if_neg (by show ¬ (18 : Nat) = 17; decide), if_pos rfl, hc.1, show 11 + (min (runL 0 r + 1) 138 - 11) = min (runL 0 r + 1) 138 by have := hc.2; rw [hc.1] at this; omega]
        show tellsO (tellO acc _) _ = _
        rw [e, ih _ _ (hd _ (by omega)) (hd15 _), List.append_assoc, hcat _ (by omega)]
      split
      · rename_i hc
        have e : tellO acc (17, runL x r + 1 - 3) = acc ++ List.replicate (runL x r + 1) x := by
          unfold tellO
          rw [if_neg (by show ¬ (17 : Nat) = 16; decide), if_pos rfl, hc.1, show 3 + (runL 0 r + 1 - 3) = runL 0 r + 1 by have := hc.2; rw [hc.1] at this; omega]
        show tellsO (tellO acc _) _ = _
        rw [e, ih _ _ (hd _ (by omega)) (hd15 _), List.append_assoc, hcat _ (by omega)]
      split
      · rename_i hc
        have e : tellO (tellO acc (x, 0)) (16, min (runL x r + 1) 7 - 4) = acc ++ List.replicate (min (runL x r + 1) 7) x := by
          rw [tellO_lit _ _ _ hx]
          unfold tellO
          rw [if_pos rfl]
          have e1 : (acc ++ [x]).getD ((acc ++ [x]).length - 1) 0 = x := by simp [List.getD_eq_getElem?_getD]
          rw [e1, List.append_assoc, show ([x] : List Nat) = List.replicate 1 x from rfl, List.replicate_append_replicate]
          congr 2
          omega
        show tellsO (tellO (tellO acc (x, 0)) _) _ = _
        rw [e, ih _ _ (hd _ (by omega)) (hd15 _), List.append_assoc, hcat _ (by omega)]
      · show tellsO (tellO acc (x, 0)) _ = _
        rw [tellO_lit _ _ _ hx, ih _ _ (by omega) (fun y hy => h15 y (List.mem_cons_of_mem _ hy)), List.append_assoc]
        rfl
/-! Parts. -/
structure WPart where
  kind : Nat
  bytes : List UInt8
  copies : List (Nat × Nat)
def cps : List (Nat × Nat) → List UInt8 → List Tok
  | [], _ => []
  | c :: r, out => if out.length = 0 then [] else .cpy (3 + c.1 % 256) (1 + c.2 % min out.length 32768) :: cps r (copy (1 + c.2 % min out.length 32768) (3 + c.1 % 256) out)
def lits (l : List UInt8) : List Tok := l.map Tok.lit
def toks (x : WPart) (out : List UInt8) : List Tok := lits (x.bytes.take 80) ++ cps (x.copies.take 6) (out ++ x.bytes.take 80)
theorem lits_out (l : List UInt8) (out : List UInt8) : toksO out (lits l) = out ++ l := by
  induction l generalizing out with
  | nil => simp [lits, toksO]
  | cons c l ih => show toksO (out ++ [c]) (lits l) = _; rw [ih]; simp
theorem toksO_app (out : List UInt8) (a b : List Tok) : toksO out (a ++ b) = toksO (toksO out a) b := List.foldl_append ..
theorem good_lits (l : List UInt8) (r : List Tok) : ∀ out, Good (out ++ l) r → Good out (lits l ++ r) := by
  induction l with
  | nil => intro out h; simpa [lits] using h
  | cons c l ih => intro out h; exact ih (out ++ [c]) (by simpa using h)
theorem good_cps : ∀ (l : List (Nat × Nat)) (out : List UInt8), Good out (cps l out) := by
  intro l
  induction l with
  | nil => intro out; exact trivial
  | cons c l ih =>
    intro out
    unfold cps
    split
    · exact trivial
    · rename_i h
      have h1 : c.2 % min out.length 32768 < min out.length 32768 := Nat.mod_lt _ (by omega)
      exact ⟨by omega, ih _⟩
theorem good_toks (x : WPart) (out : List UInt8) : Good out (toks x out) := good_lits _ _ _ (good_cps _ _)
def lensA (ts : List Tok) : List Nat := PL.lens (cnts 286 (symsOf ts)) 15
def lensB (ts : List Tok) : List Nat := PL.lens (cnts 30 (farsOf ts)) 15
def rowsOf (a b : List Nat) : List (Nat × Nat) := rle (a ++ b).length (a ++ b)
def firstOf (rows : List (Nat × Nat)) : List Nat := PL.lens (cnts 19 (rows.map Prod.fst)) 7
def headsW (a b : List Nat) : List Bool := headW (firstOf (rowsOf a b)) 19 286 30 (rowsOf a b)
/-- What stands behind a part's three bits, which stand behind so many. -/
def bodyW (x : WPart) (n : Nat) (out : List UInt8) : List Bool :=
  if x.kind % 3 = 0 then List.replicate ((n + 7) / 8 * 8 - n) true ++ storedW (x.bytes.take 80)
  else if x.kind % 3 = 1 then toksW fixedL fixedD (toks x out)
  else headsW (lensA (toks x out)) (lensB (toks x out)) ++ toksW (lensA (toks x out)) (lensB (toks x out)) (toks x out)
def partO (x : WPart) (out : List UInt8) : List UInt8 := if x.kind % 3 = 0 then out ++ x.bytes.take 80 else toksO out (toks x out)
def partW (x : WPart) (last : Bool) (n : Nat) (out : List UInt8) : List Bool := [last] ++ PBits.bitsOf (x.kind % 3) 2 ++ bodyW x (n + 3) out
/-- Bits and bytes behind the first i parts of n. -/
def stW (l : List WPart) : Nat → List Bool × List UInt8
  | 0 => ([], [])
  | i + 1 => ((stW l i).1 ++ partW (l.getD i ⟨0, [], []⟩) (decide (i + 1 = l.length)) (stW l i).1.length (stW l i).2, partO (l.getD i ⟨0, [], []⟩) (stW l i).2)
def partsW (l : List WPart) : List WPart := if l.length = 0 then [⟨0, [], []⟩] else l.take 5
def bitsW (l : List WPart) : List Bool := (stW (partsW l) (partsW l).length).1
def outW (l : List WPart) : List UInt8 := (stW (partsW l) (partsW l).length).2
/-- Bits as bytes, noughts behind them. -/
def packB (l : List Bool) : List UInt8 := PBits.bytesOf (PBits.num l) ((l.length + 7) / 8)
theorem rle_small : ∀ (f : Nat) (l : List Nat), (∀ x ∈ l, x ≤ 15) → ∀ t ∈ rle f l, t.1 < 19 := by
  intro f
  induction f with
  | zero => intro l _ t ht; cases ht
  | succ f ih =>
    intro l hl t ht
    cases l with
    | nil => cases ht
    | cons x r =>
      have hx := hl x (List.mem_cons_self ..)
      have hd : ∀ k, ∀ y ∈ (x :: r).drop k, y ≤ 15 := fun k y hy => hl y (List.mem_of_mem_drop hy)
      rw [rle] at ht
      split at ht
      · rcases List.mem_cons.1 ht with rfl | ht
        · show 18 < 19; decide
        · exact ih _ (hd _) t ht
      split at ht
      · rcases List.mem_cons.1 ht with rfl | ht
        · show 17 < 19; decide
        · exact ih _ (hd _) t ht
      split at ht
      · rcases List.mem_cons.1 ht with rfl | ht
        · show x < 19; omega
        · rcases List.mem_cons.1 ht with rfl | ht
          · show 16 < 19; decide
          · exact ih _ (hd _) t ht
      · rcases List.mem_cons.1 ht with rfl | ht
        · show x < 19; omega
        · exact ih _ (fun y hy => hl y (List.mem_cons_of_mem _ hy)) t ht
theorem packB_len (l : List Bool) : (packB l).length = (l.length + 7) / 8 := PBits.bytesOf_length _ _
end PI
end Go.Proofs.YtiogaejfcenooaaDoor

namespace Go.Proofs.YtiogaejfcenooaaDoor
set_option linter.unusedVariables false
set_option linter.unusedSimpArgs false
namespace PI
/-- Bits as bytes, with room for one more. -/
def roomB (l : List Bool) : List UInt8 := PBits.bytesOf (PBits.num l) (l.length / 8 + 1)
/-- The last byte, whose bits are not all there. -/
def topB (l : List Bool) : Nat := PBits.num l / 256 ^ (l.length / 8)
theorem roomB_len (l : List Bool) : (roomB l).length = l.length / 8 + 1 := PBits.bytesOf_length _ _
theorem topB_lt (l : List Bool) : topB l < 2 ^ (l.length % 8) := by
  have h := PBits.num_lt l
  rw [PBits.pow_parts] at h
  exact (Nat.div_lt_iff_lt_mul (Nat.pow_pos (by decide))).2 h
theorem pow8_le (n : Nat) : 2 ^ (n % 8) ≤ 128 := by
  have h : n % 8 ≤ 7 := by omega
  exact Nat.le_trans (Nat.pow_le_pow_right (by decide) h) (by decide)
theorem room_eq (l : List Bool) : roomB l = PBits.bytesOf (PBits.num l) (l.length / 8) ++ [UInt8.ofNat (topB l)] := by
  have h1 := topB_lt l
  have h2 := pow8_le l.length
  unfold roomB
  rw [PBits.byte_next]
  show _ ++ [UInt8.ofNat (topB l % 256)] = _
  rw [Nat.mod_eq_of_lt (by omega)]
theorem room_at (l : List Bool) (h : l.length % 8 = 0) : packB l ++ [0] = roomB l := by
  have h1 := topB_lt l
  rw [h] at h1
  rw [room_eq, show topB l = 0 by omega]
  unfold packB
  rw [show (l.length + 7) / 8 = l.length / 8 by omega]
  rfl
theorem room_in (l : List Bool) (h : l.length % 8 ≠ 0) : packB l = roomB l := by
  unfold packB roomB
  rw [show (l.length + 7) / 8 = l.length / 8 + 1 by omega]
theorem room_get (l : List Bool) : (roomB l).getD (l.length / 8) 0 = UInt8.ofNat (topB l) := by
  rw [room_eq, List.getD_eq_getElem?_getD, List.getElem?_append_right (by rw [PBits.bytesOf_length]; exact Nat.le_refl _), PBits.bytesOf_length, Nat.sub_self]
  rfl
theorem set_last {α : Type} (a : List α) (x y : α) (n : Nat) (h : a.length = n) : (a ++ [x]).set n y = a ++ [y] := by
  subst h
  rw [List.set_append_right _ _ (Nat.le_refl _), Nat.sub_self]
  rfl
theorem room_set (l : List Bool) (b : Bool) : (roomB l).set (l.length / 8) (UInt8.ofNat (topB l + b.toNat * 2 ^ (l.length % 8))) = packB (l ++ [b]) := by
  have h1 := topB_lt l
  have h2 := pow8_le l.length
  have hb : b.toNat ≤ 1 := by cases b <;> decide
  have h3 : b.toNat * 2 ^ (l.length % 8) ≤ 1 * 2 ^ (l.length % 8) := Nat.mul_le_mul_right _ hb
  rw [room_eq, set_last _ _ _ _ (PBits.bytesOf_length _ _)]
  unfold packB
  rw [PBits.num_append, show PBits.num [b] = b.toNat from by simp [PBits.num], List.length_append, List.length_singleton, show (l.length + 1 + 7) / 8 = l.length / 8 + 1 by omega, PBits.byte_next, Nat.mul_comm (2 ^ l.length) b.toNat, PBits.put_bytes, PBits.put_wait]
  show _ = _ ++ [UInt8.ofNat ((topB l + b.toNat * 2 ^ (l.length % 8)) % 256)]
  generalize hg : b.toNat * 2 ^ (l.length % 8) = s at h3 ⊢
  rw [Nat.mod_eq_of_lt (by omega)]
theorem pack_one (l : List Bool) : packB (l ++ [false]) = roomB l := by
  have := room_set l false
  rw [← this, room_eq, set_last _ _ _ _ (PBits.bytesOf_length _ _)]
  simp
/-- The last bit, set behind the others. -/
theorem last_set (l : List Bool) : (packB (l ++ [false])).set (l.length / 8) (UInt8.ofNat (topB l + 2 ^ (l.length % 8))) = packB (l ++ [true]) := by
  have := room_set l true
  rw [pack_one, ← this]
  simp
theorem bitsOf_snoc (n k : Nat) : PBits.bitsOf n (k + 1) = PBits.bitsOf n k ++ [n / 2 ^ k % 2 == 1] := by
  induction k generalizing n with
  | zero => simp [PBits.bitsOf]
  | succ k ih =>
    rw [PBits.bitsOf, ih (n / 2)]
    show _ = ((n % 2 == 1) :: PBits.bitsOf (n / 2) k) ++ _
    rw [List.cons_append, Nat.div_div_eq_div_mul, show 2 * 2 ^ k = 2 ^ (k + 1) by rw [Nat.pow_succ, Nat.mul_comm]]
theorem bitsC_snoc (n c j : Nat) (h : j < n) : (PH.bitsC n c).take (j + 1) = (PH.bitsC n c).take j ++ [c / 2 ^ (n - 1 - j) % 2 == 1] := by
  rw [List.take_succ_eq_append_getElem (by rw [PH.bitsC_len]; exact h)]
  congr 1
  simp only [PH.bitsC, List.getElem_map, List.getElem_range, Nat.testBit_eq_decide_div_mod_eq]
  congr 1
theorem getD_mono {t : List (Nat × Nat)} (hs : stepsT t) : ∀ k j, j ≤ k → k < t.length → (t.getD j (0, 0)).1 ≤ (t.getD k (0, 0)).1 := by
  intro k
  induction k with
  | zero => intro j h _; rw [show j = 0 by omega]; exact Nat.le_refl _
  | succ k ih =>
    intro j h hk
    have := hs k hk
    by_cases e : j = k + 1
    · rw [e]; exact Nat.le_refl _
    · have h5 := ih j (by omega) (by omega)
      rw [this]
      exact Nat.le_trans h5 (Nat.le_add_right _ _)
/-- Where a table is gone through from its begin, it is known where to stop. -/
theorem stop_yes {t : List (Nat × Nat)} (hs : stepsT t) (n K k : Nat) (hl : t.length = K + 1) (h0 : (t.getD 0 (0, 0)).1 ≤ n) (hk : k ≤ findT t n K) (hn : n < (t.getD k (0, 0)).1 + 2 ^ (t.getD k (0, 0)).2) : k = findT t n K := by
  obtain ⟨g1, g2, g3⟩ := findT_spec t n K h0
  by_cases e : k = findT t n K
  · exact e
  · have h1 := hs k (by omega)
    have h2 := getD_mono hs (findT t n K) (k + 1) (by omega) (by omega)
    omega
theorem stop_no {t : List (Nat × Nat)} (hs : stepsT t) (n K k : Nat) (hl : t.length = K + 1) (h0 : (t.getD 0 (0, 0)).1 ≤ n) (hn2 : n < (t.getD K (0, 0)).1 + 2 ^ (t.getD K (0, 0)).2) (hk : k ≤ findT t n K) (hn : ¬ n < (t.getD k (0, 0)).1 + 2 ^ (t.getD k (0, 0)).2) : k + 1 ≤ findT t n K ∧ (t.getD (k + 1) (0, 0)).1 = (t.getD k (0, 0)).1 + 2 ^ (t.getD k (0, 0)).2 := by
  obtain ⟨g1, g2, g3⟩ := findT_spec t n K h0
  have hkK : k < K := by
    by_cases e : k = K
    · subst e; omega
    · omega
  have h1 := hs k (by omega)
  refine ⟨?_, h1⟩
  by_cases e : k = findT t n K
  · have := g3 (by omega)
    rw [← e] at this
    omega
  · omega
theorem all_pos {B : List Bool} {most : Nat} {r : Nat × List UInt8 × List Blk} (h : all B most = .ok r) : r.1 ≤ B.length ∧ r.2.1.length ≤ most :=
  let ⟨_, h2, _, h4⟩ := Fine.all.pos B most (Nat.zero_le _) (Nat.zero_le _) r h
  ⟨h2, h4⟩
end PI
theorem or_u8 : ∀ k : Nat, k < 8 → ∀ o : Nat, o < 2 ^ k → ∀ b : Nat, b < 2 → bits .or .u8 (o : Int) ((b * 2 ^ k : Nat) : Int) = ((o + b * 2 ^ k : Nat) : Int) := by decide +kernel
end Go.Proofs.YtiogaejfcenooaaDoor

