/- A pack of texts: InfPen InfBit. -/
import Derived.Test.YtiogaejfcenooaaDoorPk17
namespace Go.Proofs.YtiogaejfcenooaaDoor
set_option linter.unusedVariables false
set_option linter.unusedSimpArgs false
namespace PI
def cnts (n : Nat) (l : List Nat) : List Nat := (List.range n).map fun i => l.count i
theorem cnts_len (n : Nat) (l : List Nat) : (cnts n l).length = n := by simp [cnts]
theorem cnts_get (n i : Nat) (l : List Nat) (h : i < n) : (cnts n l).getD i 0 = l.count i := by simp [cnts, List.getD_eq_getElem?_getD, h]
theorem items_le (cs : List Nat) : (PL.items cs).length ≤ cs.length := PL.itemsTo_len cs cs.length
theorem lens_fits (n m : Nat) (l : List Nat) (h1 : 1 ≤ m) (h15 : m ≤ 15) (hn : n ≤ 2 ^ m) (hn2 : n ≤ 1024) :
  book (PL.lens (cnts n l) m) = true ∧ (PL.lens (cnts n l) m).length = n ∧ (∀ x ∈ PL.lens (cnts n l) m, x ≤ m) ∧ (∀ s ∈ l, s < n → Has (PL.lens (cnts n l) m) s) ∧ ∀ s, s ∉ l → (PL.lens (cnts n l) m).getD s 0 = 0 := by
 have hk : (PL.items (cnts n l)).length ≤ 2 ^ m := Nat.le_trans (items_le _) (by rw [cnts_len]; exact hn)
 obtain ⟨b1, b2, mo, b3, b4, b5, b6⟩ := PL.lens_book (cnts n l) m h1 h15 hk
 have hlen : (PL.lens (cnts n l) m).length = n := by rw [PL.lens_len, cnts_len]
 have hmem : ∀ x ∈ PL.lens (cnts n l) m, x ≤ m := fun x hx => by
  obtain ⟨i, hi, rfl⟩ := List.getElem_of_mem hx
  have := (PL.lens_in (cnts n l) m i h1 hk (by rw [cnts_len, ← hlen]; exact hi)).2.2
  rwa [List.getD_eq_getElem?_getD, List.getElem?_eq_getElem hi] at this
 refine ⟨?_, hlen, hmem, fun s hs hsn => ?_, fun s hs => ?_⟩
 ·unfold book PH.okB
  rw [PI.PH.nat_cast, b1, Bool.and_true]
  exact PI.PH.may_cast (by rw [hlen]; exact hn2) (fun x hx => Nat.le_trans (hmem x hx) h15)
 ·have h2 := PL.lens_in (cnts n l) m s h1 hk (by rw [cnts_len]; exact hsn)
  rw [cnts_get n s l hsn] at h2
  have h3 := b6 s (by rw [cnts_len]; exact hsn)
  have h4 := mostN_of (PL.lens (cnts n l) m)
  refine ⟨by rw [hlen]; exact hsn, h2.1 (List.count_pos_iff.2 hs), ?_⟩
  rw [b3] at h4
  omega
 ·by_cases hsn : s < n
  ·have h2 := PL.lens_in (cnts n l) m s h1 hk (by rw [cnts_len]; exact hsn)
   rw [cnts_get n s l hsn] at h2
   exact h2.2.1 (List.count_eq_zero.2 hs)
  ·rw [List.getD_eq_getElem?_getD, List.getElem?_eq_none (by omega)]; rfl
def symsOf : List Tok → List Nat
 | [] => [256]
 | .lit c :: l => c.toNat :: symsOf l
 | .cpy n _ :: l => (257 + (longS n).1) :: symsOf l
def farsOf : List Tok → List Nat
 | [] => []
 | .lit _ :: l => farsOf l
 | .cpy _ b :: l => (farS b).1 :: farsOf l
def Good : List UInt8 → List Tok → Prop
 | _, [] => True
 | out, .lit c :: l => Good (out ++ [c]) l
 | out, .cpy n b :: l => (3 ≤ n ∧ n ≤ 258 ∧ 1 ≤ b ∧ b ≤ 32768 ∧ b ≤ out.length) ∧ Good (copy b n out) l
theorem Good.has {m d : List Nat} : ∀ (l : List Tok) (out : List UInt8), Good out l → (∀ s ∈ symsOf l, s < 286 → Has m s) → (∀ s ∈ farsOf l, s < 30 → Has d s) → ToksOk m d out l := by
 intro l
 induction l with
 | nil => intro out h hm hd; exact hm 256 (by simp [symsOf]) (by decide)
 | cons t l ih =>
  intro out h hm hd
  cases t with
  | lit c =>
   have hc := c.toNat_lt
   exact ⟨hm c.toNat (by simp [symsOf]) (by omega), ih _ h (fun s hs => hm s (by simp [symsOf, hs])) (fun s hs => hd s (by simpa [farsOf] using hs))⟩
  | cpy n b =>
   obtain ⟨⟨h1, h2, h3, h4, h5⟩, h6⟩ := h
   have g1 := longS_lt n h1 h2
   have g2 := farS_lt b h3 h4
   exact ⟨⟨h1, h2, h3, h4, h5, hm _ (by simp [symsOf]) (by omega), hd _ (by simp [farsOf]) (by omega)⟩, ih _ h6 (fun s hs => hm s (by simp [symsOf, hs])) (fun s hs => hd s (by simp [farsOf, hs]))⟩
theorem syms_end (l : List Tok) : 256 ∈ symsOf l := by
 induction l with
 | nil => simp [symsOf]
 | cons t l ih => cases t <;> simp [symsOf, ih]
/-! A row of lengths, told as the law tells it. -/
def runL (x : Nat) : List Nat → Nat
 | [] => 0
 | y :: l => if y = x then runL x l + 1 else 0
theorem runL_le (x : Nat) (l : List Nat) : runL x l ≤ l.length := by
 induction l with
 | nil => exact Nat.le_refl _
 | cons y l ih => unfold runL; split <;> simp <;> omega
theorem runL_take (x : Nat) : ∀ (l : List Nat) (k : Nat), k ≤ runL x l → l.take k = List.replicate k x := by
 intro l
 induction l with
 | nil =>
  intro k h
  obtain rfl : k = 0 := by simpa [runL] using h
  rfl
 | cons y l ih =>
  intro k h
  cases k with
  | zero => rfl
  | succ k =>
   unfold runL at h
   split at h
   ·rename_i e
    rw [List.take_succ_cons, ih k (by omega), e]; rfl
   ·omega
def rle : Nat → List Nat → List (Nat × Nat)
 | 0, _ => []
 | f + 1, l => match l with
  | [] => []
  | x :: r =>
   if x = 0 ∧ 11 ≤ runL x r + 1 then (18, min (runL x r + 1) 138 - 11) :: rle f (l.drop (min (runL x r + 1) 138))
   else if x = 0 ∧ 3 ≤ runL x r + 1 then (17, runL x r + 1 - 3) :: rle f (l.drop (runL x r + 1))
   else if 4 ≤ runL x r + 1 then (x, 0) :: (16, min (runL x r + 1) 7 - 4) :: rle f (l.drop (min (runL x r + 1) 7))
   else (x, 0) :: rle f r
theorem tellB_small (x : Nat) (h : x ≤ 15) : tellB x = 0 := by
 unfold tellB
 rw [if_neg (by omega), if_neg (by omega), if_neg (by omega)]
theorem tellO_lit (acc : List Nat) (x y : Nat) (h : x ≤ 15) : tellO acc (x, y) = acc ++ [x] := by
 unfold tellO
 simp only
 rw [if_neg (by omega), if_neg (by omega), if_neg (by omega)]
 rfl
theorem rle_out : ∀ (f : Nat) (l acc : List Nat), l.length ≤ f → (∀ x ∈ l, x ≤ 15) → tellsO acc (rle f l) = acc ++ l := by
 intro f
 induction f with
 | zero => intro l acc h _; obtain rfl := List.eq_nil_of_length_eq_zero (l := l) (by omega); simp [rle, tellsO]
 | succ f ih =>
  intro l acc h h15
  cases l with
  | nil => simp [rle, tellsO]
  | cons x r =>
   have hx := h15 x (List.mem_cons_self ..)
   have hr := runL_le x r
   simp only [List.length_cons] at h
   have hd : ∀ k, 1 ≤ k → ((x :: r).drop k).length ≤ f := fun k hk => by simp; omega
   have hd15 : ∀ k, ∀ y ∈ (x :: r).drop k, y ≤ 15 := fun k y hy => h15 y (List.mem_of_mem_drop hy)
   have htk : ∀ k, k ≤ runL x r + 1 → (x :: r).take k = List.replicate k x := fun k hk => by
    cases k with
    | zero => rfl
    | succ k => rw [List.take_succ_cons, runL_take x r k (by omega)]; rfl
   have hcat : ∀ k, k ≤ runL x r + 1 → List.replicate k x ++ (x :: r).drop k = x :: r := fun k hk => by rw [← htk k hk, List.take_append_drop]
   rw [rle]
   split
   ·rename_i hc
    have e : tellO acc (18, min (runL x r + 1) 138 - 11) = acc ++ List.replicate (min (runL x r + 1) 138) x := by
     unfold tellO
     rw [if_neg (by show ¬ (18 : Nat) = 16; decide), if_neg (by show ¬ (18 : Nat) = 17; decide), if_pos rfl, hc.1, show 11 + (min (runL 0 r + 1) 138 - 11) = min (runL 0 r + 1) 138 by have := hc.2; rw [hc.1] at this; omega]
    show tellsO (tellO acc _) _ = _
    rw [e, ih _ _ (hd _ (by omega)) (hd15 _), List.append_assoc, hcat _ (by omega)]
   split
   ·rename_i hc
    have e : tellO acc (17, runL x r + 1 - 3) = acc ++ List.replicate (runL x r + 1) x := by
     unfold tellO
     rw [if_neg (by show ¬ (17 : Nat) = 16; decide), if_pos rfl, hc.1, show 3 + (runL 0 r + 1 - 3) = runL 0 r + 1 by have := hc.2; rw [hc.1] at this; omega]
    show tellsO (tellO acc _) _ = _
    rw [e, ih _ _ (hd _ (by omega)) (hd15 _), List.append_assoc, hcat _ (by omega)]
   split
   ·rename_i hc
    have e : tellO (tellO acc (x, 0)) (16, min (runL x r + 1) 7 - 4) = acc ++ List.replicate (min (runL x r + 1) 7) x := by
     rw [tellO_lit _ _ _ hx]
     unfold tellO
     rw [if_pos rfl]
     have e1 : (acc ++ [x]).getD ((acc ++ [x]).length - 1) 0 = x := by simp [List.getD_eq_getElem?_getD]
     rw [e1, List.append_assoc, show ([x] : List Nat) = List.replicate 1 x from rfl, List.replicate_append_replicate]
     congr 2
     omega
    show tellsO (tellO (tellO acc (x, 0)) _) _ = _
    rw [e, ih _ _ (hd _ (by omega)) (hd15 _), List.append_assoc, hcat _ (by omega)]
   ·show tellsO (tellO acc (x, 0)) _ = _
    rw [tellO_lit _ _ _ hx, ih _ _ (by omega) (fun y hy => h15 y (List.mem_cons_of_mem _ hy)), List.append_assoc]
    rfl
theorem rle_ok {m : List Nat} : ∀ (f : Nat) (l acc : List Nat), (∀ x ∈ l, x ≤ 15) → (∀ t ∈ rle f l, Has m t.1) → TellsOk m acc (rle f l) := by
 intro f
 induction f with
 | zero => intro l acc _ _; exact trivial
 | succ f ih =>
  intro l acc h15 hm
  cases l with
  | nil => exact trivial
  | cons x r =>
   have hx := h15 x (List.mem_cons_self ..)
   have hd15 : ∀ k, ∀ y ∈ (x :: r).drop k, y ≤ 15 := fun k y hy => h15 y (List.mem_of_mem_drop hy)
   rw [rle] at hm ⊢
   split
   ·rename_i hc
    rw [if_pos hc] at hm
    refine ⟨⟨hm _ (List.mem_cons_self ..), ?_, fun h => by simp at h⟩, ih _ _ (hd15 _) fun t ht => hm t (List.mem_cons_of_mem _ ht)⟩
    show min (runL x r + 1) 138 - 11 < 2 ^ 7
    omega
   ·rename_i hc1
    rw [if_neg hc1] at hm
    split
    ·rename_i hc
     rw [if_pos hc] at hm
     refine ⟨⟨hm _ (List.mem_cons_self ..), ?_, fun h => by simp at h⟩, ih _ _ (hd15 _) fun t ht => hm t (List.mem_cons_of_mem _ ht)⟩
     show runL x r + 1 - 3 < 2 ^ 3
     have : ¬ (11 ≤ runL x r + 1) := fun h => hc1 ⟨hc.1, h⟩
     omega
    ·rename_i hc2
     rw [if_neg hc2] at hm
     have hxl : (0 : Nat) < 2 ^ tellB x := by rw [tellB_small x hx]; decide
     split
     ·rename_i hc
      rw [if_pos hc] at hm
      refine ⟨⟨hm _ (List.mem_cons_self ..), hxl, fun h => by have : x = 16 := h; omega⟩, ⟨hm _ (List.mem_cons_of_mem _ (List.mem_cons_self ..)), ?_, fun _ => ?_⟩, ih _ _ (hd15 _) fun t ht => hm t (List.mem_cons_of_mem _ (List.mem_cons_of_mem _ ht))⟩
      ·show min (runL x r + 1) 7 - 4 < 2 ^ 2
       omega
      ·rw [tellO_lit _ _ _ hx]; simp
     ·rename_i hc3
      rw [if_neg hc3] at hm
      exact ⟨⟨hm _ (List.mem_cons_self ..), hxl, fun h => by have : x = 16 := h; omega⟩, ih _ _ (fun y hy => h15 y (List.mem_cons_of_mem _ hy)) fun t ht => hm t (List.mem_cons_of_mem _ ht)⟩
/-! Parts. -/
structure WPart where
 kind : Nat
 bytes : List UInt8
 copies : List (Nat × Nat)
def cps : List (Nat × Nat) → List UInt8 → List Tok
 | [], _ => []
 | c :: r, out => if out.length = 0 then [] else .cpy (3 + c.1 % 256) (1 + c.2 % min out.length 32768) :: cps r (copy (1 + c.2 % min out.length 32768) (3 + c.1 % 256) out)
def lits (l : List UInt8) : List Tok := l.map Tok.lit
def toks (x : WPart) (out : List UInt8) : List Tok := lits (x.bytes.take 80) ++ cps (x.copies.take 6) (out ++ x.bytes.take 80)
theorem lits_out (l : List UInt8) (out : List UInt8) : toksO out (lits l) = out ++ l := by
 induction l generalizing out with
 | nil => simp [lits, toksO]
 | cons c l ih => show toksO (out ++ [c]) (lits l) = _; rw [ih]; simp
theorem toksO_app (out : List UInt8) (a b : List Tok) : toksO out (a ++ b) = toksO (toksO out a) b := List.foldl_append ..
theorem good_lits (l : List UInt8) (r : List Tok) : ∀ out, Good (out ++ l) r → Good out (lits l ++ r) := by
 induction l with
 | nil => intro out h; simpa [lits] using h
 | cons c l ih => intro out h; exact ih (out ++ [c]) (by simpa using h)
theorem good_cps : ∀ (l : List (Nat × Nat)) (out : List UInt8), Good out (cps l out) := by
 intro l
 induction l with
 | nil => intro out; exact trivial
 | cons c l ih =>
  intro out
  unfold cps
  split
  ·exact trivial
  ·rename_i h
   have h1 : c.2 % min out.length 32768 < min out.length 32768 := Nat.mod_lt _ (by omega)
   exact ⟨by omega, ih _⟩
theorem good_toks (x : WPart) (out : List UInt8) : Good out (toks x out) := good_lits _ _ _ (good_cps _ _)
def lensA (ts : List Tok) : List Nat := PL.lens (cnts 286 (symsOf ts)) 15
def lensB (ts : List Tok) : List Nat := PL.lens (cnts 30 (farsOf ts)) 15
def rowsOf (a b : List Nat) : List (Nat × Nat) := rle (a ++ b).length (a ++ b)
def firstOf (rows : List (Nat × Nat)) : List Nat := PL.lens (cnts 19 (rows.map Prod.fst)) 7
def headsW (a b : List Nat) : List Bool := headW (firstOf (rowsOf a b)) 19 286 30 (rowsOf a b)
def bodyW (x : WPart) (n : Nat) (out : List UInt8) : List Bool :=
 if x.kind % 3 = 0 then List.replicate ((n + 7) / 8 * 8 - n) true ++ storedW (x.bytes.take 80)
 else if x.kind % 3 = 1 then toksW fixedL fixedD (toks x out)
 else headsW (lensA (toks x out)) (lensB (toks x out)) ++ toksW (lensA (toks x out)) (lensB (toks x out)) (toks x out)
def partO (x : WPart) (out : List UInt8) : List UInt8 := if x.kind % 3 = 0 then out ++ x.bytes.take 80 else toksO out (toks x out)
def partW (x : WPart) (last : Bool) (n : Nat) (out : List UInt8) : List Bool := [last] ++ PBits.bitsOf (x.kind % 3) 2 ++ bodyW x (n + 3) out
def stW (l : List WPart) : Nat → List Bool × List UInt8
 | 0 => ([], [])
 | i + 1 => ((stW l i).1 ++ partW (l.getD i ⟨0, [], []⟩) (decide (i + 1 = l.length)) (stW l i).1.length (stW l i).2, partO (l.getD i ⟨0, [], []⟩) (stW l i).2)
def partsW (l : List WPart) : List WPart := if l.length = 0 then [⟨0, [], []⟩] else l.take 5
def bitsW (l : List WPart) : List Bool := (stW (partsW l) (partsW l).length).1
def outW (l : List WPart) : List UInt8 := (stW (partsW l) (partsW l).length).2
def packB (l : List Bool) : List UInt8 := PBits.bytesOf (PBits.num l) ((l.length + 7) / 8)
theorem rle_small : ∀ (f : Nat) (l : List Nat), (∀ x ∈ l, x ≤ 15) → ∀ t ∈ rle f l, t.1 < 19 := by
 intro f
 induction f with
 | zero => intro l _ t ht; cases ht
 | succ f ih =>
  intro l hl t ht
  cases l with
  | nil => cases ht
  | cons x r =>
   have hx := hl x (List.mem_cons_self ..)
   have hd : ∀ k, ∀ y ∈ (x :: r).drop k, y ≤ 15 := fun k y hy => hl y (List.mem_of_mem_drop hy)
   rw [rle] at ht
   split at ht
   ·rcases List.mem_cons.1 ht with rfl | ht
    ·show 18 < 19; decide
    ·exact ih _ (hd _) t ht
   split at ht
   ·rcases List.mem_cons.1 ht with rfl | ht
    ·show 17 < 19; decide
    ·exact ih _ (hd _) t ht
   split at ht
   ·rcases List.mem_cons.1 ht with rfl | ht
    ·show x < 19; omega
    ·rcases List.mem_cons.1 ht with rfl | ht
     ·show 16 < 19; decide
     ·exact ih _ (hd _) t ht
   ·rcases List.mem_cons.1 ht with rfl | ht
    ·show x < 19; omega
    ·exact ih _ (fun y hy => hl y (List.mem_cons_of_mem _ hy)) t ht
theorem order_all : ∀ i, i < 19 → i ∈ orderT.take 19 := by decide
theorem heads_gen {B : List Bool} {a : Nat} (LA LB : List Nat) (hA : book LA = true) (hA1 : LA.length = 286) (hA2 : ∀ x ∈ LA, x ≤ 15) (hA3 : LA.getD 256 0 ≠ 0) (hB : book LB = true) (hB1 : LB.length = 30) (hB2 : ∀ x ∈ LB, x ≤ 15)
  (h : At B a (headsW LA LB)) : dynamic B a = .ok (a + (headsW LA LB).length, LA, LB) := by
 have h15 : ∀ x ∈ LA ++ LB, x ≤ 15 := fun x hx => by
  rcases List.mem_append.1 hx with hx | hx
  ·exact hA2 x hx
  ·exact hB2 x hx
 unfold headsW at h ⊢
 have hrows : ∀ t ∈ rowsOf LA LB, t.1 < 19 := rle_small _ _ h15
 have hro : tellsO [] (rowsOf LA LB) = LA ++ LB := rle_out _ (LA ++ LB) [] (Nat.le_refl _) h15
 have hok : ∀ m : List Nat, (∀ t ∈ rowsOf LA LB, Has m t.1) → TellsOk m [] (rowsOf LA LB) := fun m hm => rle_ok _ _ _ h15 hm
 generalize rowsOf LA LB = rows at h hrows hro hok ⊢
 obtain ⟨c1, c2, c3, c4, c5⟩ := lens_fits 19 7 (rows.map Prod.fst) (by decide) (by decide) (by decide) (by decide)
 have e : firstOf rows = PL.lens (cnts 19 (rows.map Prod.fst)) 7 := rfl
 rw [← e] at c1 c2 c3 c4
 generalize firstOf rows = first at h c1 c2 c3 c4 ⊢
 exact dynamic_at h (by omega) (by omega) (by omega) (by omega) (by omega) (by omega) (fun x hx => by have := c3 x hx; omega) c2 (fun i hi hn => absurd (order_all i hi) hn) c1 (hok _ fun t ht => c4 t.1 (List.mem_map_of_mem ht) (hrows t ht)) hro hA1 hB1 hA3 hA hB
theorem heads_read {B : List Bool} {a : Nat} (ts : List Tok) (h : At B a (headsW (lensA ts) (lensB ts))) : dynamic B a = .ok (a + (headsW (lensA ts) (lensB ts)).length, lensA ts, lensB ts) := by
 obtain ⟨a1, a2, a3, a4, a5⟩ := lens_fits 286 15 (symsOf ts) (by decide) (by decide) (by decide) (by decide)
 obtain ⟨b1, b2, b3, b4, b5⟩ := lens_fits 30 15 (farsOf ts) (by decide) (by decide) (by decide) (by decide)
 have a6 := (a4 256 (syms_end ts) (by decide)).2.1
 have e1 : lensA ts = PL.lens (cnts 286 (symsOf ts)) 15 := rfl
 have e2 : lensB ts = PL.lens (cnts 30 (farsOf ts)) 15 := rfl
 rw [← e1] at a1 a2 a3 a6
 rw [← e2] at b1 b2 b3
 exact heads_gen _ _ a1 a2 a3 (by omega) b1 b2 b3 h
theorem tok_one {m d : List Nat} {out : List UInt8} {t : Tok} (h : TokOk m d out t) : 1 ≤ (tokW m d t).length := by
 cases t with
 | lit c =>
  have h' : Has m c.toNat := h
  show 1 ≤ (codeW m c.toNat).length
  rw [codeW_len]
  exact h'.2.1
 | cpy n b =>
  obtain ⟨_, _, _, _, _, h6, _⟩ := h
  show 1 ≤ (sayW m _ _ _ ++ sayW d _ _ _).length
  unfold sayW
  rw [List.length_append, List.length_append, codeW_len]
  have := h6.2.1
  omega
theorem toks_len {m d : List Nat} : ∀ (ts : List Tok) (out : List UInt8), ToksOk m d out ts → ts.length ≤ (toksW m d ts).length := by
 intro ts
 induction ts with
 | nil => intro out _; exact Nat.zero_le _
 | cons t l ih =>
  intro out h
  have h1 := tok_one h.1
  have h2 := ih _ h.2
  have e : toksW m d (t :: l) = tokW m d t ++ toksW m d l := by simp [toksW]
  rw [e, List.length_append, List.length_cons]
  omega
theorem part_read {B : List Bool} {most a : Nat} {last : Bool} {out : List UInt8} (x : WPart) (h : At B a (partW x last a out)) (ho : (partO x out).length ≤ most) :
  block B most a out = .ok (last, x.kind % 3, a + (partW x last a out).length, partO x out) := by
 unfold partW at h ⊢
 have h1 := h.right
 rw [List.length_append, PBits.bitsOf_length, List.length_singleton, show a + (1 + 2) = a + 3 by omega] at h1
 have hk : x.kind % 3 < 3 := Nat.mod_lt _ (by decide)
 have key : body B most (x.kind % 3) (a + 3) out = .ok (a + ([last] ++ PBits.bitsOf (x.kind % 3) 2 ++ bodyW x (a + 3) out).length, partO x out) := by
  have e3 : a + ([last] ++ PBits.bitsOf (x.kind % 3) 2 ++ bodyW x (a + 3) out).length = a + 3 + (bodyW x (a + 3) out).length := by
   rw [List.length_append, List.length_append, PBits.bitsOf_length, List.length_singleton]; omega
  rw [e3]
  unfold bodyW at h1 ⊢
  unfold partO at ho ⊢
  by_cases h0 : x.kind % 3 = 0
  ·rw [if_pos h0] at h1 ho ⊢
   rw [if_pos h0, h0]
   have h2 := h1.right
   rw [List.length_replicate, show a + 3 + ((a + 3 + 7) / 8 * 8 - (a + 3)) = (a + 3 + 7) / 8 * 8 by omega] at h2
   rw [stored_at h2 (by rw [List.length_take]; omega) ho, List.length_append, List.length_replicate]
   congr 2
   omega
  ·rw [if_neg h0] at h1 ho ⊢
   rw [if_neg h0]
   have hg := good_toks x out
   by_cases hk1 : x.kind % 3 = 1
   ·rw [if_pos hk1] at h1 ⊢
    rw [hk1]
    have hok := hg.has (m := fixedL) (d := fixedD) _ _ (fun s _ hs => fixed_has s (by omega)) (fun s _ hs => fixed_hasD s (by omega))
    have := toks_len _ _ hok
    have := h1.le
    exact fixed_at h1 hok ho (by omega)
   ·rw [if_neg hk1] at h1 ⊢
    have hk2 : x.kind % 3 = 2 := by omega
    rw [hk2]
    obtain ⟨a1, a2, a3, a4, a5⟩ := lens_fits 286 15 (symsOf (toks x out)) (by decide) (by decide) (by decide) (by decide)
    obtain ⟨b1, b2, b3, b4, b5⟩ := lens_fits 30 15 (farsOf (toks x out)) (by decide) (by decide) (by decide) (by decide)
    have hok := hg.has (m := lensA (toks x out)) (d := lensB (toks x out)) _ _ a4 b4
    have h5 := toks_len _ _ hok
    have h6 := h1.le
    rw [List.length_append] at h6
    exact dyn_at h1 (heads_read _ h1.left) a1 b1 hok ho (by omega)
 exact block_at h.left (by omega) key
theorem partO_len (x : WPart) (out : List UInt8) : out.length ≤ (partO x out).length := by
 unfold partO
 split
 ·simp
 ·exact toksO_len _ _
theorem stW_more (l : List WPart) (i : Nat) : ∀ k, ∃ r, (stW l (i + k)).1 = (stW l i).1 ++ r ∧ (stW l i).2.length ≤ (stW l (i + k)).2.length := by
 intro k
 induction k with
 | zero => exact ⟨[], by simp, Nat.le_refl _⟩
 | succ k ih =>
  obtain ⟨r, h1, h2⟩ := ih
  refine ⟨r ++ partW (l.getD (i + k) ⟨0, [], []⟩) (decide (i + k + 1 = l.length)) (stW l (i + k)).1.length (stW l (i + k)).2, ?_, Nat.le_trans h2 (partO_len _ _)⟩
  rw [show i + (k + 1) = (i + k) + 1 by omega, stW]
  show (stW l (i + k)).1 ++ _ = _
  rw [← List.append_assoc, ← h1]
def blksW (l : List WPart) : List Blk := (List.range l.length).map fun j => ⟨(l.getD j ⟨0, [], []⟩).kind % 3, decide (j + 1 = l.length), (stW l j).2.length, (stW l (j + 1)).2.length⟩
theorem parts_read {B : List Bool} {most : Nat} (l : List WPart) (hl : 0 < l.length) (h : At B 0 (stW l l.length).1) (ho : (stW l l.length).2.length ≤ most) (hf : l.length ≤ B.length + 1) :
    all B most = .ok ((stW l l.length).1.length, (stW l l.length).2, blksW l) := by
  have hb := blocks_at (B := B) (most := most) (n := l.length) (fun i => (stW l i).1.length) (fun i => (l.getD i ⟨0, [], []⟩).kind % 3) (fun i => (stW l i).2) (fun i hi => by
    obtain ⟨r, h1, h2⟩ := stW_more l (i + 1) (l.length - (i + 1))
    rw [show i + 1 + (l.length - (i + 1)) = l.length by omega] at h1 h2
    rw [h1] at h
    have h3 := h.left
    rw [stW] at h3
    have h4 := h3.right
    rw [Nat.zero_add] at h4
    have h5 := part_read (most := most) _ h4 (by have e : (stW l (i + 1)).2 = partO (l.getD i ⟨0, [], []⟩) (stW l i).2 := rfl; rw [← e]; omega)
    show block B most (stW l i).1.length (stW l i).2 = _
    rw [h5]
    show Except.ok (_, _, _, _) = Except.ok (_, _, (stW l (i + 1)).1.length, (stW l (i + 1)).2)
    rw [stW]
    simp only [List.length_append]) l.length 0 (B.length + 1) [] (by omega) hl hf
  unfold all
  rw [show blocks B most (B.length + 1) 0 [] [] = blocks B most (B.length + 1) ((fun i => (stW l i).1.length) 0) ((fun i => (stW l i).2) 0) [] from rfl, hb]
  simp [blksW]
theorem ofB_pack (l : List Bool) : PBits.ofB (packB l) = l ++ List.replicate ((l.length + 7) / 8 * 8 - l.length) false := by
 apply PBits.num_inj
 ·rw [PBits.ofB_length, List.length_append, List.length_replicate]
  unfold packB
  rw [PBits.bytesOf_length]
  omega
 ·rw [PBits.num_ofB, PBits.num_append, PBits.num_false]
  unfold packB
  rw [PBits.le_bytesOf, Nat.mul_zero, Nat.add_zero]
  refine Nat.mod_eq_of_lt (Nat.lt_of_lt_of_le (PBits.num_lt l) ?_)
  rw [show (256 : Nat) = 2 ^ 8 by decide, ← Nat.pow_mul]
  exact Nat.pow_le_pow_right (by decide) (by omega)
theorem packB_len (l : List Bool) : (packB l).length = (l.length + 7) / 8 := PBits.bytesOf_length _ _
theorem partsW_len (l : List WPart) : 0 < (partsW l).length ∧ (partsW l).length ≤ 5 := by
 unfold partsW
 split
 ·exact ⟨by decide, by decide⟩
 ·rw [List.length_take]; omega
theorem bitsW_len (l : List WPart) : 3 * (partsW l).length ≤ (bitsW l).length := by
 unfold bitsW
 generalize hn : (partsW l).length = n
 have : ∀ i, 3 * i ≤ (stW (partsW l) i).1.length := by
  intro i
  induction i with
  | zero => exact Nat.zero_le _
  | succ i ih =>
   rw [stW]
   simp only [List.length_append, partW, PBits.bitsOf_length, List.length_singleton]
   omega
 exact this n
theorem written_read (l : List WPart) (most : Nat) (h : (outW l).length ≤ most) : all (PBits.ofB (packB (bitsW l))) most = .ok ((bitsW l).length, outW l, blksW (partsW l)) := by
 obtain ⟨h1, h2⟩ := partsW_len l
 have h3 := bitsW_len l
 refine parts_read (partsW l) h1 ?_ h ?_
 ·rw [ofB_pack]
  have := At.mid [] (bitsW l) (List.replicate (((bitsW l).length + 7) / 8 * 8 - (bitsW l).length) false)
  rw [List.nil_append] at this
  exact this
 ·rw [PBits.ofB_length, packB_len]
  omega
end PI
end Go.Proofs.YtiogaejfcenooaaDoor

namespace Go.Proofs.YtiogaejfcenooaaDoor
set_option linter.unusedVariables false
set_option linter.unusedSimpArgs false
namespace PI
def roomB (l : List Bool) : List UInt8 := PBits.bytesOf (PBits.num l) (l.length / 8 + 1)
def topB (l : List Bool) : Nat := PBits.num l / 256 ^ (l.length / 8)
theorem roomB_len (l : List Bool) : (roomB l).length = l.length / 8 + 1 := PBits.bytesOf_length _ _
theorem topB_lt (l : List Bool) : topB l < 2 ^ (l.length % 8) := by
 have h := PBits.num_lt l
 rw [PBits.pow_parts] at h
 exact (Nat.div_lt_iff_lt_mul (Nat.pow_pos (by decide))).2 h
theorem pow8_le (n : Nat) : 2 ^ (n % 8) ≤ 128 := by
 have h : n % 8 ≤ 7 := by omega
 exact Nat.le_trans (Nat.pow_le_pow_right (by decide) h) (by decide)
theorem room_eq (l : List Bool) : roomB l = PBits.bytesOf (PBits.num l) (l.length / 8) ++ [UInt8.ofNat (topB l)] := by
 have h1 := topB_lt l
 have h2 := pow8_le l.length
 unfold roomB
 rw [PBits.byte_next]
 show _ ++ [UInt8.ofNat (topB l % 256)] = _
 rw [Nat.mod_eq_of_lt (by omega)]
theorem room_at (l : List Bool) (h : l.length % 8 = 0) : packB l ++ [0] = roomB l := by
 have h1 := topB_lt l
 rw [h] at h1
 rw [room_eq, show topB l = 0 by omega]
 unfold packB
 rw [show (l.length + 7) / 8 = l.length / 8 by omega]
 rfl
theorem room_in (l : List Bool) (h : l.length % 8 ≠ 0) : packB l = roomB l := by
 unfold packB roomB
 rw [show (l.length + 7) / 8 = l.length / 8 + 1 by omega]
theorem room_get (l : List Bool) : (roomB l).getD (l.length / 8) 0 = UInt8.ofNat (topB l) := by
 rw [room_eq, List.getD_eq_getElem?_getD, List.getElem?_append_right (by rw [PBits.bytesOf_length]; exact Nat.le_refl _), PBits.bytesOf_length, Nat.sub_self]
 rfl
theorem set_last {α : Type} (a : List α) (x y : α) (n : Nat) (h : a.length = n) : (a ++ [x]).set n y = a ++ [y] := by
 subst h
 rw [List.set_append_right _ _ (Nat.le_refl _), Nat.sub_self]
 rfl
theorem room_set (l : List Bool) (b : Bool) : (roomB l).set (l.length / 8) (UInt8.ofNat (topB l + b.toNat * 2 ^ (l.length % 8))) = packB (l ++ [b]) := by
 have h1 := topB_lt l
 have h2 := pow8_le l.length
 have hb : b.toNat ≤ 1 := by cases b <;> decide
 have h3 : b.toNat * 2 ^ (l.length % 8) ≤ 1 * 2 ^ (l.length % 8) := Nat.mul_le_mul_right _ hb
 rw [room_eq, set_last _ _ _ _ (PBits.bytesOf_length _ _)]
 unfold packB
 rw [PBits.num_append, show PBits.num [b] = b.toNat from by simp [PBits.num], List.length_append, List.length_singleton, show (l.length + 1 + 7) / 8 = l.length / 8 + 1 by omega, PBits.byte_next, Nat.mul_comm (2 ^ l.length) b.toNat, PBits.put_bytes, PBits.put_wait]
 show _ = _ ++ [UInt8.ofNat ((topB l + b.toNat * 2 ^ (l.length % 8)) % 256)]
 generalize hg : b.toNat * 2 ^ (l.length % 8) = s at h3 ⊢
 rw [Nat.mod_eq_of_lt (by omega)]
theorem pack_one (l : List Bool) : packB (l ++ [false]) = roomB l := by
 have := room_set l false
 rw [← this, room_eq, set_last _ _ _ _ (PBits.bytesOf_length _ _)]
 simp
theorem last_set (l : List Bool) : (packB (l ++ [false])).set (l.length / 8) (UInt8.ofNat (topB l + 2 ^ (l.length % 8))) = packB (l ++ [true]) := by
 have := room_set l true
 rw [pack_one, ← this]
 simp
theorem bitsOf_snoc (n k : Nat) : PBits.bitsOf n (k + 1) = PBits.bitsOf n k ++ [n / 2 ^ k % 2 == 1] := by
 induction k generalizing n with
 | zero => simp [PBits.bitsOf]
 | succ k ih =>
  rw [PBits.bitsOf, ih (n / 2)]
  show _ = ((n % 2 == 1) :: PBits.bitsOf (n / 2) k) ++ _
  rw [List.cons_append, Nat.div_div_eq_div_mul, show 2 * 2 ^ k = 2 ^ (k + 1) by rw [Nat.pow_succ, Nat.mul_comm]]
theorem bitsC_snoc (n c j : Nat) (h : j < n) : (PH.bitsC n c).take (j + 1) = (PH.bitsC n c).take j ++ [c / 2 ^ (n - 1 - j) % 2 == 1] := by
 rw [List.take_succ_eq_append_getElem (by rw [PH.bitsC_len]; exact h)]
 congr 1
 simp only [PH.bitsC, List.getElem_map, List.getElem_range, Nat.testBit_eq_decide_div_mod_eq]
 congr 1
theorem getD_mono {t : List (Nat × Nat)} (hs : stepsT t) : ∀ k j, j ≤ k → k < t.length → (t.getD j (0, 0)).1 ≤ (t.getD k (0, 0)).1 := by
 intro k
 induction k with
 | zero => intro j h _; rw [show j = 0 by omega]; exact Nat.le_refl _
 | succ k ih =>
  intro j h hk
  have := hs k hk
  by_cases e : j = k + 1
  ·rw [e]; exact Nat.le_refl _
  ·have h5 := ih j (by omega) (by omega)
   rw [this]
   exact Nat.le_trans h5 (Nat.le_add_right _ _)
theorem stop_yes {t : List (Nat × Nat)} (hs : stepsT t) (n K k : Nat) (hl : t.length = K + 1) (h0 : (t.getD 0 (0, 0)).1 ≤ n) (hk : k ≤ findT t n K) (hn : n < (t.getD k (0, 0)).1 + 2 ^ (t.getD k (0, 0)).2) : k = findT t n K := by
 obtain ⟨g1, g2, g3⟩ := findT_spec t n K h0
 by_cases e : k = findT t n K
 ·exact e
 ·have h1 := hs k (by omega)
  have h2 := getD_mono hs (findT t n K) (k + 1) (by omega) (by omega)
  omega
theorem stop_no {t : List (Nat × Nat)} (hs : stepsT t) (n K k : Nat) (hl : t.length = K + 1) (h0 : (t.getD 0 (0, 0)).1 ≤ n) (hn2 : n < (t.getD K (0, 0)).1 + 2 ^ (t.getD K (0, 0)).2) (hk : k ≤ findT t n K) (hn : ¬ n < (t.getD k (0, 0)).1 + 2 ^ (t.getD k (0, 0)).2) : k + 1 ≤ findT t n K ∧ (t.getD (k + 1) (0, 0)).1 = (t.getD k (0, 0)).1 + 2 ^ (t.getD k (0, 0)).2 := by
 obtain ⟨g1, g2, g3⟩ := findT_spec t n K h0
 have hkK : k < K := by
  by_cases e : k = K
  ·subst e; omega
  ·omega
 have h1 := hs k (by omega)
 refine ⟨?_, h1⟩
 by_cases e : k = findT t n K
 ·have := g3 (by omega)
  rw [← e] at this
  omega
 ·omega
theorem all_pos {B : List Bool} {most : Nat} {r : Nat × List UInt8 × List Blk} (h : all B most = .ok r) : r.1 ≤ B.length ∧ r.2.1.length ≤ most :=
 let ⟨_, h2, _, h4⟩ := Fine.all.pos B most (Nat.zero_le _) (Nat.zero_le _) r h
 ⟨h2, h4⟩
end PI
theorem or_u8 : ∀ k : Nat, k < 8 → ∀ o : Nat, o < 2 ^ k → ∀ b : Nat, b < 2 → bits .or .u8 (o : Int) ((b * 2 ^ k : Nat) : Int) = ((o + b * 2 ^ k : Nat) : Int) := by decide +kernel
end Go.Proofs.YtiogaejfcenooaaDoor

