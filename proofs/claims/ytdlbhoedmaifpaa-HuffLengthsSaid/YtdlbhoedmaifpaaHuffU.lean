/- HuffU: State, Codes, New and the document's, of any lengths; what Next answers. -/
import Derived.Test.YtdlbhoedmaifpaaHuffT
import Derived.Test.YtdlbhoedmaifpaaHuffKnown
namespace Go.Proofs.Ytdlbhoedmaifpaa
set_option linter.unusedVariables false
open Go.RowKit
namespace PH
def nat (l : List Int) : List Nat := l.map Int.toNat
def stI (l : List Int) : Int := if may l = true then PH.state (nat l) else 0
def erI (l : List Int) : Int := if may l = true then 0 else 1
def ecI (l : List Int) : Int := if may l = true then (if PH.state (nat l) = 1 then 20 else 0) else 1
def okB (l : List Int) : Bool := may l && mayBook (nat l)
def enI (l : List Int) : Int := if may l = true then 20 else 1
def cn (l : List Int) : Nat := if ecI l = 0 then l.length else 0
def crow (l : List Int) : List Value := if ecI l = 0 then rowU (codeAt (nat l)) l.length else []
theorem may_split {l : List Int} (h : may l = true) : l = castI (nat l) ∧ (nat l).length ≤ 1024 ∧ ∀ n ∈ nat l, n ≤ 15 := by
  obtain ⟨m, hm, h1, h2⟩ := may_nat h
  have : nat l = m := by
    unfold nat
    rw [hm, List.map_map]
    refine (List.map_congr_left fun n _ => ?_).trans (List.map_id m)
    show ((n : Int)).toNat = n
    omega
  rw [this]
  exact ⟨hm, h1, h2⟩
theorem nat_len (l : List Int) : (nat l).length = l.length := by simp [nat]
theorem crow_len (l : List Int) : (crow l).length = cn l := by
  unfold crow cn
  split
  · simp [rowU]
  · rfl
theorem crow_get (l : List Int) (k : Nat) (h : k < cn l) : ∃ z : Nat, (crow l)[k]? = some (.int .u32 (z : Int)) := by
  unfold cn at h
  unfold crow
  split
  · rename_i h2
    rw [if_pos h2] at h
    exact ⟨_, rowU_get _ _ _ h⟩
  · rename_i h2
    rw [if_neg h2] at h; omega
theorem sum_of_not_many {m : List Nat} (h : ¬ PH.state m = 1) : sum m ≤ 32768 := by
  rcases Nat.lt_or_ge 32768 (sum m) with q | q
  · exfalso; apply h
    unfold PH.state
    rw [if_neg (by omega), if_pos q]
  · exact q
theorem nextFrom_err (m : List Nat) (l : List Bool) (k n : Nat) (hn : n ≤ l.length) (hk : n + k ≤ 15) (hk0 : n + k ≤ l.length ∨ True) :
    n ≤ (nextFrom m l k n).1 ∧ (nextFrom m l k n).1 ≤ l.length ∧ ((nextFrom m l k n).2.1 = 0 ∧ n + 1 ≤ (nextFrom m l k n).1 ∨ (nextFrom m l k n).2.1 = 4 ∨ (nextFrom m l k n).2.1 = 20) := by
  induction k generalizing n with
  | zero => exact ⟨Nat.le_refl _, hn, .inr (.inr rfl)⟩
  | succ k ih =>
    rw [nextFrom]
    by_cases h : l.length ≤ n
    · rw [if_pos h]; exact ⟨Nat.le_refl _, hn, .inr (.inl rfl)⟩
    · rw [if_neg h]
      by_cases h2 : numb (l.take (n + 1)) < fst m (n + 1) + tal m (n + 1)
      · rw [if_pos h2]
        exact ⟨by show n ≤ n + 1; omega, by show n + 1 ≤ _; omega, .inl ⟨rfl, Nat.le_refl _⟩⟩
      · rw [if_neg h2]
        obtain ⟨a, b, c⟩ := ih (n + 1) (by omega) (by omega) (.inr trivial)
        refine ⟨by omega, b, ?_⟩
        rcases c with ⟨c1, c2⟩ | c | c
        · exact .inl ⟨c1, by omega⟩
        · exact .inr (.inl c)
        · exact .inr (.inr c)
end PH
section
variable (A : Option Addr) (n c : Nat) (l : List Int) {w0 w : World} {L : List Pr}
theorem state_any (H : Sp w0 L w) (hn : n = l.length) (hb : Ent L fun w => Rd w A (cells64 l)) (hl : n ≤ 1000000) :
    Calls Try.prog 33 #[.slice A n c] w fun e w' => e = .returned (.tuple #[.int .i64 (PH.stI l), .int .i64 (PH.erI l)]) ∧ Sp w0 L w' := by
  unfold PH.stI PH.erI
  cases hm : PH.may l with
  | true =>
    obtain ⟨h1, h2, h3⟩ := PH.may_split hm
    rw [if_pos rfl, if_pos rfl]
    exact state_ok A n c (PH.nat l) H (by rw [PH.nat_len]; exact hn) (by rw [← h1]; exact hb) (by rw [hn, ← PH.nat_len]; exact h2) h3
  | false =>
    rw [if_neg (by decide), if_neg (by decide)]
    exact state_bad A n c l H hn hb (by omega) hm
theorem rstate_any (H : Sp w0 L w) (hn : n = l.length) (hb : Ent L fun w => Rd w A (cells64 l)) (hl : n ≤ 1000000) :
    Calls Try.prog 38 #[.slice A n c] w fun e w' => e = .returned (.tuple #[.int .i64 (PH.stI l), .int .i64 (PH.erI l)]) ∧ Sp w0 L w' := by
  unfold PH.stI PH.erI
  cases hm : PH.may l with
  | true =>
    obtain ⟨h1, h2, h3⟩ := PH.may_split hm
    rw [if_pos rfl, if_pos rfl]
    exact rstate_ok A n c (PH.nat l) H (by rw [PH.nat_len]; exact hn) (by rw [← h1]; exact hb) (by rw [hn, ← PH.nat_len]; exact h2) h3
  | false =>
    rw [if_neg (by decide), if_neg (by decide)]
    exact rstate_bad A n c l H hn hb hm
theorem codes_any (H : Sp w0 L w) (hn : n = l.length) (hb : Ent L fun w => Rd w A (cells64 l)) (hl : n ≤ 1000000) :
    Calls Try.prog 35 #[.slice A n c] w fun e w' => ∃ v, e = .returned (.tuple #[v, .int .i64 (PH.ecI l)]) ∧ Sp w0 (Row 70 1 v (PH.cn l) (PH.crow l) :: L) w' := by
  cases hm : PH.may l with
  | true =>
    obtain ⟨h1, h2, h3⟩ := PH.may_split hm
    by_cases hs : PH.state (PH.nat l) = 1
    · have he : PH.ecI l = 20 := by unfold PH.ecI; rw [if_pos hm, if_pos hs]
      unfold PH.cn PH.crow
      rw [he, if_neg (by decide), if_neg (by decide)]
      exact (codes_many A n c (PH.nat l) H (by rw [PH.nat_len]; exact hn) (by rw [← h1]; exact hb) (by rw [hn, ← PH.nat_len]; exact h2) h3 hs).mono fun _ _ ⟨e, H2⟩ => ⟨_, e, H2.rowNil _ _⟩
    · have he : PH.ecI l = 0 := by unfold PH.ecI; rw [if_pos hm, if_neg hs]
      unfold PH.cn PH.crow
      rw [he, if_pos rfl, if_pos rfl, ← hn]
      exact codes_ok A n c (PH.nat l) H (by rw [PH.nat_len]; exact hn) (by rw [← h1]; exact hb) (by rw [hn, ← PH.nat_len]; exact h2) h3 (PH.sum_of_not_many hs)
  | false =>
    have he : PH.ecI l = 1 := by unfold PH.ecI; rw [if_neg (by rw [hm]; decide)]
    unfold PH.cn PH.crow
    rw [he, if_neg (by decide), if_neg (by decide)]
    exact (codes_bad A n c l H hn hb (by omega) hm).mono fun _ _ ⟨e, H2⟩ => ⟨_, e, H2.rowNil _ _⟩
theorem rcodes_any (H : Sp w0 L w) (hn : n = l.length) (hb : Ent L fun w => Rd w A (cells64 l)) (hl : n ≤ 1000000) :
    Calls Try.prog 39 #[.slice A n c] w fun e w' => ∃ v, e = .returned (.tuple #[v, .int .i64 (PH.ecI l)]) ∧ Sp w0 (Row 70 1 v (PH.cn l) (PH.crow l) :: L) w' := by
  cases hm : PH.may l with
  | true =>
    obtain ⟨h1, h2, h3⟩ := PH.may_split hm
    by_cases hs : PH.state (PH.nat l) = 1
    · have he : PH.ecI l = 20 := by unfold PH.ecI; rw [if_pos hm, if_pos hs]
      unfold PH.cn PH.crow
      rw [he, if_neg (by decide), if_neg (by decide)]
      exact (rcodes_many A n c (PH.nat l) H (by rw [PH.nat_len]; exact hn) (by rw [← h1]; exact hb) (by rw [hn, ← PH.nat_len]; exact h2) h3 hs).mono fun _ _ ⟨e, H2⟩ => ⟨_, e, H2.rowNil _ _⟩
    · have he : PH.ecI l = 0 := by unfold PH.ecI; rw [if_pos hm, if_neg hs]
      unfold PH.cn PH.crow
      rw [he, if_pos rfl, if_pos rfl, ← hn]
      exact rcodes_ok A n c (PH.nat l) H (by rw [PH.nat_len]; exact hn) (by rw [← h1]; exact hb) (by rw [hn, ← PH.nat_len]; exact h2) h3 (PH.sum_of_not_many hs)
  | false =>
    have he : PH.ecI l = 1 := by unfold PH.ecI; rw [if_neg (by rw [hm]; decide)]
    unfold PH.cn PH.crow
    rw [he, if_neg (by decide), if_neg (by decide)]
    exact (rcodes_bad A n c l H hn hb hm).mono fun _ _ ⟨e, H2⟩ => ⟨_, e, H2.rowNil _ _⟩
theorem new_any_no (H : Sp w0 L w) (hn : n = l.length) (hb : Ent L fun w => Rd w A (cells64 l)) (hl : n ≤ 1000000) (hk : PH.okB l = false) :
    Calls Try.prog 34 #[.slice A n c] w fun e w' => e = .returned (.tuple #[.pointer none, .int .i64 (PH.enI l)]) ∧ Sp w0 L w' := by
  unfold PH.enI
  unfold PH.okB at hk
  cases hm : PH.may l with
  | true =>
    obtain ⟨h1, h2, h3⟩ := PH.may_split hm
    rw [hm, Bool.true_and] at hk
    rw [if_pos rfl]
    exact new_no A n c (PH.nat l) H (by rw [PH.nat_len]; exact hn) (by rw [← h1]; exact hb) (by rw [hn, ← PH.nat_len]; exact h2) h3 hk
  | false =>
    rw [if_neg (by decide)]
    exact new_bad A n c l H hn hb (by omega) hm
theorem new_any_yes (H : Sp w0 L w) (hn : n = l.length) (hb : Ent L fun w => Rd w A (cells64 l)) (hk : PH.okB l = true) :
    Calls Try.prog 34 #[.slice A n c] w fun e w' => ∃ g v, e = .returned (.tuple #[.pointer (some ⟨g, 0, none⟩), .int .i64 0]) ∧ Sp w0 (Row 3 1 v (PH.rows (PH.nat l)).length (cellsN (PH.rows (PH.nat l))) :: BkB g (PH.nat l) v (mostOf (PH.nat l)) :: L) w' := by
  unfold PH.okB at hk
  simp only [Bool.and_eq_true] at hk
  obtain ⟨h1, h2, h3⟩ := PH.may_split hk.1
  exact new_yes A n c (PH.nat l) H (by rw [PH.nat_len]; exact hn) (by rw [← h1]; exact hb) (by rw [hn, ← PH.nat_len]; exact h2) h3 hk.2
theorem rmay_any (H : Sp w0 L w) (hn : n = l.length) (hb : Ent L fun w => Rd w A (cells64 l)) (hl : n ≤ 1000000) :
    Calls Try.prog 40 #[.slice A n c] w fun e w' => e = .returned (.int .i64 (if PH.okB l = true then 0 else PH.enI l)) ∧ Sp w0 L w' := by
  unfold PH.enI PH.okB
  cases hm : PH.may l with
  | true =>
    obtain ⟨h1, h2, h3⟩ := PH.may_split hm
    rw [Bool.true_and]
    exact rmay_ok A n c (PH.nat l) H (by rw [PH.nat_len]; exact hn) (by rw [← h1]; exact hb) (by rw [hn, ← PH.nat_len]; exact h2) h3
  | false =>
    rw [Bool.false_and, if_neg (by decide), if_neg (by decide)]
    exact rmay_bad A n c l H hn hb hm
end
theorem rowI_rd {M : List Pr} {V : Option Addr} {n kk : Nat} {l : List Int} (j : Nat) (hj : M[j]? = some (Row 3 1 (.slice V n kk) n (cells64 l))) : Ent M fun w => Rd w V (cells64 l) := fun _ _ H => by
  obtain ⟨A9, c9, e9, hr9, _, _⟩ := H.row_rd j hj
  injection e9 with e9
  rw [e9]; exact hr9
/-- A slice from a place on, as Go has it. -/
def subA (A : Option Addr) (c q : Nat) : Option Addr := if c = q then A else A.map (·.add q)
theorem subA_rd {w : World} {A : Option Addr} {c q : Nat} {xs : List Value} (h : Rd w A xs) (hc : xs.length ≤ c) : Rd w (subA A c q) (xs.drop q) := by
  unfold subA
  by_cases e : c = q
  · rw [if_pos e, List.drop_eq_nil_of_le (by omega)]; exact Rd.nil
  · rw [if_neg e]
    intro hn
    obtain ⟨ad, rfl, hcl⟩ := h (by rintro rfl; simp at hn)
    refine ⟨ad.add q, rfl, fun j u hu => ?_⟩
    rw [List.getElem?_drop] at hu
    rw [Go.Addr.add_add]
    exact hcl _ u hu
end Go.Proofs.Ytdlbhoedmaifpaa
