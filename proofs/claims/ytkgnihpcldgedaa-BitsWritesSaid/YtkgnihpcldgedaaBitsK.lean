/- BitsK: a call of a writer and of the document's answer, whole. -/
import Derived.Test.YtkgnihpcldgedaaBitsJ
import Derived.Test.YtkgnihpcldgedaaBitsReads
namespace Go.Proofs.Ytkgnihpcldgedaa
open Go.RowKit
namespace PBits
def okP (n : Nat) (m : Int) : Bool := decide (0 ≤ m ∧ m ≤ 57 ∧ n < 2 ^ m.toNat)
def cd (n : Nat) (m : Int) : Int := if okP n m then 0 else 1
def addP (B : List Bool) (n : Nat) (m : Int) : List Bool := if okP n m then B ++ bitsOf n m.toNat else B
def addC (B : List Bool) (n : Nat) (m : Int) : List Bool := if okP n m then B ++ (bitsOf n m.toNat).reverse else B
theorem okP_true (n k : Nat) (h : k ≤ 57) (hn : n < 2 ^ k) : okP n (k : Int) = true := decide_eq_true ⟨by omega, by omega, by simpa using hn⟩
theorem okP_neg (n : Nat) (m : Int) (h : m < 0 ∨ 57 < m) : okP n m = false := decide_eq_false fun ⟨a, b, _⟩ => by omega
theorem okP_big (n k : Nat) (h : ¬ n < 2 ^ k) : okP n (k : Int) = false := decide_eq_false fun ⟨_, _, c⟩ => h (by simpa using c)
theorem num_addP (B : List Bool) (n k : Nat) (hn : n < 2 ^ k) : num (B ++ bitsOf n k) = num B + n * 2 ^ B.length := by
  rw [num_append, num_bitsOf, Nat.mod_eq_of_lt hn, Nat.mul_comm]
theorem num_addC (B : List Bool) (n k : Nat) : num (B ++ (bitsOf n k).reverse) = num B + rev n k * 2 ^ B.length := by
  rw [num_append, num_rev_bitsOf, Nat.mul_comm]
theorem addP_len (B : List Bool) (n : Nat) (m : Int) : (addP B n m).length ≤ B.length + 57 := by
  unfold addP
  split
  · rename_i h
    have := of_decide_eq_true h
    rw [List.length_append, bitsOf_length]; omega
  · omega
theorem addC_len (B : List Bool) (n : Nat) (m : Int) : (addC B n m).length ≤ B.length + 57 := by
  unfold addC
  split
  · rename_i h
    have := of_decide_eq_true h
    rw [List.length_append, List.length_reverse, bitsOf_length]; omega
  · omega
end PBits
theorem wput_all (g : Nat) (B : List Bool) (n : Nat) (m : Int) {w0 w : World} {L : List Pr} (H : Sp w0 (Wr g (PBits.num B) B.length :: L) w) (hN : B.length ≤ 1000000) :
    Calls Try.prog 33 #[.pointer (some ⟨g, 0, none⟩), .int .u64 (n : Int), .int .i64 m] w fun e w' => e = .returned (.int .i64 (PBits.cd n m)) ∧ Sp w0 (Wr g (PBits.num (PBits.addP B n m)) (PBits.addP B n m).length :: L) w' := by
  unfold PBits.cd PBits.addP
  by_cases h0 : m < 0
  · rw [PBits.okP_neg n m (.inl h0)]
    exact (put_neg g n m w (wr_made H) h0).mono fun e w' ⟨h1, h2⟩ => ⟨h1, h2 ▸ H⟩
  · obtain ⟨k, rfl⟩ : ∃ k : Nat, m = (k : Int) := ⟨m.toNat, by omega⟩
    by_cases h1 : 57 < k ∨ ¬ n < 2 ^ k
    · have e : PBits.okP n (k : Int) = false := by
        rcases h1 with h1 | h1
        · exact PBits.okP_neg n _ (.inr (by omega))
        · exact PBits.okP_big n k h1
      rw [e]
      exact (put_bad g n k w (wr_made H) h1).mono fun e w' ⟨h1, h2⟩ => ⟨h1, h2 ▸ H⟩
    · have hk : k ≤ 57 := by omega
      have hn : n < 2 ^ k := by
        rcases Nat.lt_or_ge n (2 ^ k) with h | h
        · exact h
        · exact absurd (.inr (by omega)) h1
      rw [PBits.okP_true n k hk hn]
      refine (put_ok g _ _ n k H (PBits.num_lt B) hk hn (by omega)).mono fun e w' ⟨h1, h2⟩ => ⟨h1, ?_⟩
      rw [if_pos rfl, Int.toNat_natCast, PBits.num_addP B n k hn, List.length_append, PBits.bitsOf_length]
      exact h2
theorem wcode_all (g : Nat) (B : List Bool) (n : Nat) (m : Int) {w0 w : World} {L : List Pr} (H : Sp w0 (Wr g (PBits.num B) B.length :: L) w) (hN : B.length ≤ 1000000) :
    Calls Try.prog 34 #[.pointer (some ⟨g, 0, none⟩), .int .u64 (n : Int), .int .i64 m] w fun e w' => e = .returned (.int .i64 (PBits.cd n m)) ∧ Sp w0 (Wr g (PBits.num (PBits.addC B n m)) (PBits.addC B n m).length :: L) w' := by
  unfold PBits.cd PBits.addC
  by_cases h0 : m < 0
  · rw [PBits.okP_neg n m (.inl h0)]
    exact (code_neg g n m w (wr_made H) h0).mono fun e w' ⟨h1, h2⟩ => ⟨h1, h2 ▸ H⟩
  · obtain ⟨k, rfl⟩ : ∃ k : Nat, m = (k : Int) := ⟨m.toNat, by omega⟩
    by_cases h1 : 57 < k ∨ ¬ n < 2 ^ k
    · have e : PBits.okP n (k : Int) = false := by
        rcases h1 with h1 | h1
        · exact PBits.okP_neg n _ (.inr (by omega))
        · exact PBits.okP_big n k h1
      rw [e]
      exact (code_bad g n k w (wr_made H) h1).mono fun e w' ⟨h1, h2⟩ => ⟨h1, h2 ▸ H⟩
    · have hk : k ≤ 57 := by omega
      have hn : n < 2 ^ k := by
        rcases Nat.lt_or_ge n (2 ^ k) with h | h
        · exact h
        · exact absurd (.inr (by omega)) h1
      rw [PBits.okP_true n k hk hn]
      refine (code_ok g _ _ n k H (PBits.num_lt B) hk hn (by omega)).mono fun e w' ⟨h1, h2⟩ => ⟨h1, ?_⟩
      rw [if_pos rfl, Int.toNat_natCast, PBits.num_addC B n k, List.length_append, List.length_reverse, PBits.bitsOf_length]
      exact h2
theorem fput_all (g : Nat) (B : List Bool) (at_ n : Nat) (m : Int) {w0 w : World} {L : List Pr} (H : Sp w0 (Rw g B at_ :: L) w) (hn : n < 18446744073709551616) (hN : B.length ≤ 1000000) :
    Calls Try.prog 42 #[.pointer (some ⟨g, 0, none⟩), .int .u64 (n : Int), .int .i64 m] w fun e w' => e = .returned (.int .i64 (PBits.cd n m)) ∧ Sp w0 (Rw g (PBits.addP B n m) at_ :: L) w' := by
  unfold PBits.cd PBits.addP
  by_cases h0 : m < 0 ∨ 57 < m
  · rw [PBits.okP_neg n m h0]
    exact (fput_bad g n m w h0).mono fun e w' ⟨h1, h2⟩ => ⟨h1, h2 ▸ H⟩
  · obtain ⟨k, rfl⟩ : ∃ k : Nat, m = (k : Int) := ⟨m.toNat, by omega⟩
    have hk : k ≤ 57 := by omega
    by_cases h1 : n < 2 ^ k
    · rw [PBits.okP_true n k hk h1]
      exact (fput_ok g B at_ n k H hk h1 hN).mono fun e w' ⟨h1, h2⟩ => ⟨h1, h2⟩
    · rw [PBits.okP_big n k h1]
      exact (fput_big g n k H hn hk h1).mono fun e w' ⟨h1, h2⟩ => ⟨h1, h2⟩
theorem fcode_all (g : Nat) (B : List Bool) (at_ n : Nat) (m : Int) {w0 w : World} {L : List Pr} (H : Sp w0 (Rw g B at_ :: L) w) (hn : n < 18446744073709551616) (hN : B.length ≤ 1000000) :
    Calls Try.prog 43 #[.pointer (some ⟨g, 0, none⟩), .int .u64 (n : Int), .int .i64 m] w fun e w' => e = .returned (.int .i64 (PBits.cd n m)) ∧ Sp w0 (Rw g (PBits.addC B n m) at_ :: L) w' := by
  unfold PBits.cd PBits.addC
  by_cases h0 : m < 0 ∨ 57 < m
  · rw [PBits.okP_neg n m h0]
    exact (fcode_bad g n m w h0).mono fun e w' ⟨h1, h2⟩ => ⟨h1, h2 ▸ H⟩
  · obtain ⟨k, rfl⟩ : ∃ k : Nat, m = (k : Int) := ⟨m.toNat, by omega⟩
    have hk : k ≤ 57 := by omega
    by_cases h1 : n < 2 ^ k
    · rw [PBits.okP_true n k hk h1]
      exact (fcode_ok g B at_ n k H hk h1 hN).mono fun e w' ⟨h1, h2⟩ => ⟨h1, h2⟩
    · rw [PBits.okP_big n k h1]
      exact (fcode_big g n k H hn hk h1).mono fun e w' ⟨h1, h2⟩ => ⟨h1, h2⟩
end Go.Proofs.Ytkgnihpcldgedaa
