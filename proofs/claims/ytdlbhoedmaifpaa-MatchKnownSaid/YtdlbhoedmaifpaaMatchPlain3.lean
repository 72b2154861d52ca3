/- MatchPlain3: there and back; more chains; runs: plain laws. -/
import Derived.Test.YtdlbhoedmaifpaaMatchPlain2
namespace Go.Proofs.Ytdlbhoedmaifpaa
namespace PM
/-- A copy's bytes, one by one. -/
def grow (far : Nat) : Nat → List UInt8 → List UInt8
  | 0, b => b
  | n + 1, b => grow far n (b ++ [b.getD (b.length - far) 0])
def step (s : St) (b : List UInt8) : List UInt8 := if s.1 = 0 then b ++ [s.2.2] else grow s.2.1 s.1 b
def expand : List St → List UInt8 → List UInt8
  | [], b => b
  | s :: l, b => expand l (step s b)
theorem expand_append (a c : List St) (b : List UInt8) : expand (a ++ c) b = expand c (expand a b) := by
  induction a generalizing b with
  | nil => rfl
  | cons s a ih => exact ih _
theorem grow_succ (far n : Nat) (b : List UInt8) : grow far (n + 1) b = grow far n b ++ [(grow far n b).getD ((grow far n b).length - far) 0] := by
  induction n generalizing b with
  | zero => rfl
  | succ n ih => rw [grow, ih, ← grow]
theorem grow_length (far n : Nat) (b : List UInt8) : (grow far n b).length = b.length + n := by
  induction n generalizing b with
  | zero => rfl
  | succ n ih => rw [grow, ih, List.length_append]; simp; omega
def mays : List St → Nat → Prop
  | [], _ => True
  | s :: l, n => fits s n ∧ mays l (n + made s)
def size : List St → Nat
  | [] => 0
  | s :: l => made s + size l
theorem step_length (s : St) (b : List UInt8) : (step s b).length = b.length + made s := by
  unfold step made
  split
  · rename_i h; simp [h]
  · rename_i h; rw [grow_length]; omega
theorem expand_length (l : List St) (b : List UInt8) : (expand l b).length = b.length + size l := by
  induction l generalizing b with
  | nil => rfl
  | cons s l ih => rw [expand, ih, step_length, size]; omega
theorem grow_take {B : List UInt8} {q far n : Nat} (hf : 1 ≤ far) (hq : far ≤ q) (hn : q + n ≤ B.length) (hs : ∀ i, i < n → B.getD (q - far + i) 0 = B.getD (q + i) 0) : grow far n (B.take q) = B.take (q + n) := by
  induction n with
  | zero => rfl
  | succ n ih =>
    rw [grow_succ, ih (by omega) fun i hi => hs i (by omega)]
    have hl : (B.take (q + n)).length = q + n := by rw [List.length_take]; omega
    rw [hl, show q + (n + 1) = q + n + 1 by omega, List.take_succ_eq_append_getElem (by omega : q + n < B.length)]
    congr 2
    have := hs n (by omega)
    rw [List.getD_eq_getElem?_getD, List.getElem?_take_of_lt (by omega), ← List.getD_eq_getElem?_getD, show q + n - far = q - far + n by omega, this, List.getD_eq_getElem?_getD, List.getElem?_eq_getElem (by omega : q + n < B.length)]
    rfl
theorem cut_back (B : List UInt8) (d q : Nat) (hq : q ≤ B.length) : expand (cutAt B d q) (B.take q) = B := by
  refine cutAt_ind (B := B) (d := d) (fun q l => q ≤ B.length → expand l (B.take q) = B) (fun q h h2 => ?_) (fun q l h ih _ => ?_) (fun q far l h h1 h2 h3 h4 h5 ih _ => ?_) q hq
  · rw [expand, List.take_of_length_le h]
  · rw [expand]
    have : step (0, 0, B.getD q 0) (B.take q) = B.take (q + 1) := by
      unfold step
      rw [if_pos rfl, List.take_succ_eq_append_getElem h, List.getD_eq_getElem?_getD, List.getElem?_eq_getElem h]; rfl
    rw [this]; exact ih (by omega)
  · rw [expand]
    have hin := mlen_in (B := B) (p := q - far) (q := q) (by omega)
    have : step (mlen B (q - far) q, far, 0) (B.take q) = B.take (q + mlen B (q - far) q) := by
      unfold step
      rw [if_neg (by show ¬ mlen B (q - far) q = 0; omega)]
      exact grow_take h1 h3 hin fun i hi => mlen_same hi
    rw [this]; exact ih (by omega)
theorem cut_back0 (B : List UInt8) (d : Nat) : expand (Cut B d) [] = B := by
  have := cut_back B d 0 (Nat.zero_le _)
  rwa [List.take_zero] at this
theorem cut_mays (B : List UInt8) (d q : Nat) : mays (cutAt B d q) q := by
  refine cutAt_ind (B := B) (d := d) (fun q l => mays l q) (fun q h => trivial) (fun q l h ih => ⟨.inl ⟨rfl, rfl⟩, by simpa [made] using ih⟩) (fun q far l h h1 h2 h3 h4 h5 ih => ⟨.inr ⟨h4, mlen_le _ _ _, h1, h2, h3, rfl⟩, ?_⟩) q
  have : made (mlen B (q - far) q, far, 0) = mlen B (q - far) q := by unfold made; show max (mlen B (q - far) q) 1 = _; omega
  rw [this]; exact ih
theorem cut_size (B : List UInt8) (d q : Nat) : q + size (cutAt B d q) = max q B.length := by
  refine cutAt_ind (B := B) (d := d) (fun q l => q + size l = max q B.length) (fun q h => by rw [size]; omega) (fun q l h ih => by rw [size]; simp only [made]; omega) (fun q far l h h1 h2 h3 h4 h5 ih => ?_) q
  have hin := mlen_in (B := B) (p := q - far) (q := q) (by omega)
  have : made (mlen B (q - far) q, far, 0) = mlen B (q - far) q := by unfold made; show max (mlen B (q - far) q) 1 = _; omega
  rw [size, this]; omega
theorem cut_length (B : List UInt8) (d q : Nat) : (cutAt B d q).length ≤ B.length - q := by
  refine cutAt_ind (B := B) (d := d) (fun q l => l.length ≤ B.length - q) (fun q h => by simp) (fun q l h ih => by rw [List.length_cons]; omega) (fun q far l h h1 h2 h3 h4 h5 ih => ?_) q
  rw [List.length_cons]; omega
/-! More chains. -/
theorem go_more (B : List UInt8) (q : Nat) (ps : List Nat) (d : Nat) (b : Nat × Nat) : go B q ps (d + 1) b = go B q ps d b ∨ (go B q ps d b).1 < (go B q ps (d + 1) b).1 := by
  induction ps generalizing d b with
  | nil => exact .inl rfl
  | cons p ps ih =>
    cases d with
    | zero =>
      rw [go_zero]
      rw [go]
      simp only [Nat.zero_add, Nat.add_one_sub_one, go_zero]
      split
      · exact .inl rfl
      · split
        · exact .inl rfl
        · split
          · right; assumption
          · exact .inl rfl
    | succ d =>
      have e : ∀ d, go B q (p :: ps) (d + 1) b = if 32768 < q - p then b else go B q ps d (if b.1 < mlen B p q then (mlen B p q, q - p) else b) := fun d => by
        rw [go, if_neg (by omega), Nat.add_one_sub_one]
      rw [e, e]
      by_cases h : 32768 < q - p
      · rw [if_pos h, if_pos h]; exact .inl rfl
      · rw [if_neg h, if_neg h]; exact ih _ _
theorem best_more (B : List UInt8) (q d : Nat) : best B q (d + 1) = best B q d ∨ (best B q d).1 < (best B q (d + 1)).1 := by
  unfold best
  split
  · exact go_more ..
  · exact .inl rfl
theorem best_le (B : List UInt8) (q d e : Nat) (h : d ≤ e) : (best B q d).1 ≤ (best B q e).1 := by
  obtain ⟨m, rfl⟩ : ∃ m, e = d + m := ⟨e - d, by omega⟩
  clear h
  induction m with
  | zero => exact Nat.le_refl _
  | succ m ih =>
    rcases best_more B q (d + m) with h | h
    · rw [← Nat.add_assoc, h]; exact ih
    · rw [← Nat.add_assoc]; omega
theorem go_all (B : List UInt8) (q : Nat) (ps : List Nat) (d : Nat) (b : Nat × Nat) (hd : ps.length ≤ d) (hf : ∀ p ∈ ps, q - p ≤ 32768) (hs : ps.Pairwise (fun a c => q - a ≤ q - c)) (hb : ∀ p ∈ ps, b.2 ≤ q - p) :
    b.1 ≤ (go B q ps d b).1 ∧ ∀ p ∈ ps, mlen B p q ≤ (go B q ps d b).1 ∧ (mlen B p q = (go B q ps d b).1 → (go B q ps d b).2 ≤ q - p) := by
  induction ps generalizing d b with
  | nil => exact ⟨Nat.le_refl _, fun p hp => absurd hp (List.not_mem_nil)⟩
  | cons p ps ih =>
    rw [List.length_cons] at hd
    rw [go, if_neg (by omega), if_neg (by have := hf p (List.mem_cons_self ..); omega)]
    have hs2 := List.pairwise_cons.1 hs
    have key := fun b' (hb' : ∀ p ∈ ps, b'.2 ≤ q - p) => ih (d - 1) b' (by omega) (fun p' h' => hf p' (List.mem_cons_of_mem _ h')) hs2.2 hb'
    split
    · rename_i hlt
      obtain ⟨k1, k2⟩ := key (mlen B p q, q - p) hs2.1
      refine ⟨by have : mlen B p q ≤ _ := k1; omega, fun p' hp' => ?_⟩
      rcases List.mem_cons.1 hp' with rfl | hp'
      · refine ⟨k1, fun he => ?_⟩
        -- the nearest of them stays
        have : ∀ (ps : List Nat) (d : Nat) (b : Nat × Nat), (go B q ps d b).1 = b.1 → go B q ps d b = b := by
          intro ps
          induction ps with
          | nil => intro d b _; rfl
          | cons a ps ih2 =>
            intro d b
            have mono : ∀ (ps : List Nat) (d : Nat) (b : Nat × Nat), b.1 ≤ (go B q ps d b).1 := by
              intro ps
              induction ps with
              | nil => intro d b; exact Nat.le_refl _
              | cons a ps ih3 =>
                intro d b
                rw [go]
                split
                · exact Nat.le_refl _
                · split
                  · exact Nat.le_refl _
                  · split
                    · exact Nat.le_trans (Nat.le_of_lt (by assumption)) (ih3 _ _)
                    · exact ih3 _ _
            rw [go]
            split
            · intro _; rfl
            · split
              · intro _; rfl
              · split
                · rename_i hl
                  intro he
                  have : mlen B a q ≤ _ := mono ps (d - 1) (mlen B a q, q - a)
                  omega
                · exact ih2 _ _
        have h3 := this ps (d - 1) (mlen B p' q, q - p') he.symm
        rw [h3]; exact Nat.le_refl _
      · exact k2 p' hp'
    · rename_i hge
      obtain ⟨k1, k2⟩ := key b fun p' h' => hb p' (List.mem_cons_of_mem _ h')
      refine ⟨k1, fun p' hp' => ?_⟩
      rcases List.mem_cons.1 hp' with rfl | hp'
      · refine ⟨by omega, fun he => ?_⟩
        have hbe : (go B q ps (d - 1) b).1 = b.1 := by omega
        have : ∀ (ps : List Nat) (d : Nat) (b : Nat × Nat), (go B q ps d b).1 = b.1 → go B q ps d b = b := by
          intro ps
          induction ps with
          | nil => intro d b _; rfl
          | cons a ps ih2 =>
            intro d b
            have mono : ∀ (ps : List Nat) (d : Nat) (b : Nat × Nat), b.1 ≤ (go B q ps d b).1 := by
              intro ps
              induction ps with
              | nil => intro d b; exact Nat.le_refl _
              | cons a ps ih3 =>
                intro d b
                rw [go]
                split
                · exact Nat.le_refl _
                · split
                  · exact Nat.le_refl _
                  · split
                    · exact Nat.le_trans (Nat.le_of_lt (by assumption)) (ih3 _ _)
                    · exact ih3 _ _
            rw [go]
            split
            · intro _; rfl
            · split
              · intro _; rfl
              · split
                · rename_i hl
                  intro he
                  have : mlen B a q ≤ _ := mono ps (d - 1) (mlen B a q, q - a)
                  omega
                · exact ih2 _ _
        rw [this ps _ b hbe]
        exact hb p' (List.mem_cons_self ..)
      · exact k2 p' hp'
/-- The best of all places. -/
theorem best_all (B : List UInt8) (q d : Nat) (hq : q + 3 ≤ B.length) (hd : q ≤ d) (h3 : q ≤ 32768) (far : Nat) (h1 : 1 ≤ far) (h2 : far ≤ q) (hm : 3 ≤ mlen B (q - far) q) :
    mlen B (q - far) q ≤ (best B q d).1 ∧ (mlen B (q - far) q = (best B q d).1 → (best B q d).2 ≤ far) := by
  unfold best
  rw [if_pos hq]
  have hp : q - far ∈ (places B q (at3 B q)).reverse := by
    rw [List.mem_reverse, places_mem]
    exact ⟨by omega, (mlen_three hq).1 hm⟩
  have hsort : (places B q (at3 B q)).Pairwise (· < ·) := List.Pairwise.filter _ List.pairwise_lt_range
  have := (go_all B q (places B q (at3 B q)).reverse d (0, 0) (by rw [List.length_reverse]; exact Nat.le_trans (places_len _ _ _) hd) (fun p hp => by omega)
    (by rw [List.pairwise_reverse]; exact hsort.imp fun {a c} h => by omega) (fun p hp => Nat.zero_le _)).2 _ hp
  rwa [show q - (q - far) = far by omega] at this
/-! One byte, many times. -/
theorem best_rep (c : UInt8) (n q : Nat) (hq : 1 ≤ q) (h : q + 3 ≤ n) : (best (List.replicate n c) q 1) = (min (n - q) 258, 1) := by
  have hg : ∀ i, i < n → (List.replicate n c).getD i 0 = c := fun i hi => by simp [List.getD_eq_getElem?_getD, hi]
  have hp : places (List.replicate n c) q (at3 (List.replicate n c) q) = List.range q := by
    unfold places
    rw [List.filter_eq_self]
    intro i hi
    have hi : i < q := by simpa using hi
    simp only [at3, beq_iff_eq]
    rw [hg _ (by omega), hg _ (by omega), hg _ (by omega), hg _ (by omega), hg _ (by omega), hg _ (by omega)]
  obtain ⟨m, rfl⟩ : ∃ m, q = m + 1 := ⟨q - 1, by omega⟩
  unfold best
  rw [List.length_replicate, if_pos h, hp, List.range_succ, List.reverse_append, List.reverse_singleton, List.singleton_append, go, if_neg (by omega), if_neg (by omega), go_zero]
  have hm : mlen (List.replicate n c) m (m + 1) = min (n - (m + 1)) 258 := mlen_of _ _ _ _ (by omega) (fun i hi => ⟨by rw [List.length_replicate]; omega, by rw [hg _ (by omega), hg _ (by omega)]⟩) (by rw [List.length_replicate]; omega)
  rw [hm, if_pos (by show 0 < _; omega), show m + 1 - m = 1 by omega]
theorem best_short (B : List UInt8) (q d : Nat) (h : B.length < q + 3) : best B q d = (0, 0) := by
  unfold best; rw [if_neg (by omega)]
theorem best_zero (B : List UInt8) (d : Nat) : best B 0 d = (0, 0) := by
  unfold best
  split
  · rfl
  · rfl
/-- What is left of one byte, many times. -/
def RunOk (c : UInt8) : Nat → List St → Prop
  | 0, l => l = []
  | n + 1, l => ∃ s r, l = s :: r ∧ (3 ≤ n + 1 → s.2.1 = 1 ∧ s.1 = min (n + 1) 258) ∧ (n + 1 < 3 → s.1 = 0) ∧ RunOk c (n + 1 - max s.1 1) r
termination_by n => n
decreasing_by omega
theorem cut_run (c : UInt8) (n left : Nat) (h : left < n) : RunOk c left (cutAt (List.replicate n c) 1 (n - left)) := by
  have hlen : (List.replicate n c).length = n := List.length_replicate
  induction left using Nat.strongRecOn with
  | _ left ih =>
    cases left with
    | zero => rw [RunOk, cutAt_end _ _ _ (by rw [hlen]; omega)]
    | succ m =>
      rw [RunOk]
      by_cases h3 : 3 ≤ m + 1
      · have hb := best_rep c n (n - (m + 1)) (by omega) (by omega)
        rw [show n - (n - (m + 1)) = m + 1 by omega] at hb
        have hb2 : (best (List.replicate n c) (n - (m + 1) + 1) 1).1 ≤ min (m + 1) 258 := by
          by_cases h4 : 4 ≤ m + 1
          · rw [best_rep c n (n - (m + 1) + 1) (by omega) (by omega)]
            show min (n - (n - (m + 1) + 1)) 258 ≤ _
            omega
          · rw [best_short _ _ _ (by rw [hlen]; omega)]; exact Nat.zero_le _
        rw [cutAt_copy _ _ _ (by rw [hlen]; omega) (by rw [hb]; show ¬ (min (m + 1) 258 = 0 ∨ min (m + 1) 258 < _); omega), hb]
        refine ⟨_, _, rfl, fun _ => ⟨rfl, rfl⟩, fun h => by omega, ?_⟩
        show RunOk c (m + 1 - max (min (m + 1) 258) 1) (cutAt (List.replicate n c) 1 (n - (m + 1) + min (m + 1) 258))
        rw [show n - (m + 1) + min (m + 1) 258 = n - (m + 1 - max (min (m + 1) 258) 1) by omega]
        exact ih _ (by omega) (by omega)
      · have hb := best_short (List.replicate n c) (n - (m + 1)) 1 (by rw [hlen]; omega)
        rw [cutAt_lit _ _ _ (by rw [hlen]; omega) (.inl (by rw [hb]))]
        refine ⟨_, _, rfl, fun h => absurd h h3, fun _ => rfl, ?_⟩
        show RunOk c (m + 1 - max 0 1) _
        rw [show n - (m + 1) + 1 = n - (m + 1 - max 0 1) by omega]
        exact ih _ (by omega) (by omega)
theorem cut_run0 (c : UInt8) (n : Nat) : ∃ r, Cut (List.replicate (n + 1) c) 1 = (0, 0, c) :: r ∧ RunOk c n r := by
  refine ⟨cutAt (List.replicate (n + 1) c) 1 1, ?_, ?_⟩
  · rw [Cut_at, cutAt_lit _ _ _ (by rw [List.length_replicate]; omega) (.inl (by rw [best_zero]))]
    simp [List.getD_eq_getElem?_getD]
  · have := cut_run c (n + 1) n (by omega)
    rwa [show n + 1 - n = 1 by omega] at this
end PM
end Go.Proofs.Ytdlbhoedmaifpaa
