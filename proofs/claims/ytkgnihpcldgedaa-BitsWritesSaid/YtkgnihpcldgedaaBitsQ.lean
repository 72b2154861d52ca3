/- BitsQ: the reader, by pieces. -/
import Derived.Test.YtkgnihpcldgedaaBitsR
namespace Go.Proofs.Ytkgnihpcldgedaa
open Go.RowKit
namespace PBits
theorem le_drop (l : List UInt8) (q : Nat) : le (l.drop q) = le l / 256 ^ q := by
  by_cases h : q ≤ l.length
  · conv => rhs; rw [← List.take_append_drop q l, le_append]
    have h1 := le_lt (l.take q)
    have h2 : (l.take q).length = q := by simp [h]
    rw [h2] at h1 ⊢
    rw [Nat.add_mul_div_left _ _ (Nat.pow_pos (by decide)), Nat.div_eq_of_lt h1, Nat.zero_add]
  · rw [List.drop_eq_nil_of_le (by omega)]
    have h1 := le_lt l
    rw [Nat.div_eq_of_lt (Nat.lt_of_lt_of_le h1 (Nat.pow_le_pow_right (by decide) (by omega)))]
    rfl
theorem le_byte (l : List UInt8) (i : Nat) : le l / 256 ^ i % 256 = (l.getD i 0).toNat := by
  rw [← le_drop]
  by_cases h : i < l.length
  · rw [List.drop_eq_getElem_cons h, le, List.getD_eq_getElem?_getD, List.getElem?_eq_getElem h]
    have := l[i].toNat_lt
    simp only [Option.getD_some]
    omega
  · rw [List.drop_eq_nil_of_le (by omega), List.getD_eq_getElem?_getD, List.getElem?_eq_none (by omega)]
    rfl
theorem mod_next (R k : Nat) : R % 256 ^ (k + 1) = R % 256 ^ k + 256 ^ k * (R / 256 ^ k % 256) := by
  rw [Nat.pow_succ, Nat.mod_mul]
/-- What a reader tells at a place: so many bits' number. -/
def peek (l : List UInt8) (at_ k : Nat) : Nat := le l / 2 ^ at_ % 2 ^ k
theorem peek_of (l : List UInt8) (at_ k K : Nat) (hK : k + 7 ≤ 8 * K) : (le l / 256 ^ (at_ / 8)) % 256 ^ K / 2 ^ (at_ % 8) % 2 ^ k = peek l at_ k := by
  unfold peek
  have e1 : (256 : Nat) ^ K = 2 ^ (at_ % 8) * (2 ^ k * 2 ^ (8 * K - k - at_ % 8)) := by
    rw [show (256 : Nat) = 2 ^ 8 by decide, ← Nat.pow_mul, ← Nat.pow_add, ← Nat.pow_add]
    congr 1; omega
  have e2 : (256 : Nat) ^ (at_ / 8) * 2 ^ (at_ % 8) = 2 ^ at_ := by
    rw [show (256 : Nat) = 2 ^ 8 by decide, ← Nat.pow_mul, ← Nat.pow_add]
    congr 1; omega
  rw [e1, Nat.mod_mul_right_div_self, Nat.mod_mul_right_mod, Nat.div_div_eq_div_mul, e2]
end PBits
/-- A reader: the bytes, and how many bits were taken. -/
def RrB (g : Nat) (v : Value) (at_ : Nat) : Pr := Bk g 88 [v, .int .i64 (at_ : Int), .bool true]
def Rr (g : Nat) (l : List UInt8) (at_ : Nat) : Pr := Ex fun v : Value => Star (RrB g v at_) (Row 5 1 v l.length (cells8 l))
theorem rnone_any (g : Nat) (w : World) (c2 : w.cell? ⟨g, 2, none⟩ = some (.bool true)) :
    Calls Try.prog 88 #[.pointer (some ⟨g, 0, none⟩)] w fun e w' => e = .returned (.bool false) ∧ w = w' := by
  go_enter Try.func88, Try.ntmps88
  go_wp2
  go_ret
  exact ⟨rfl, rfl⟩
theorem rasks_ok (g : Nat) (m : Int) (w : World) (c2 : w.cell? ⟨g, 2, none⟩ = some (.bool true)) (h0 : 0 ≤ m) (h1 : m ≤ 57) :
    Calls Try.prog 86 #[.func (.func 88) #[.pointer (some ⟨g, 0, none⟩)] #[], .int .i64 m, .bool true] w fun e w' => e = .returned (.int .i64 0) ∧ w = w' := by
  go_enter Try.func86, Try.ntmps86
  go_wp2_with fail
  refine (rnone_any g _ c2).mono ?_
  rintro e w2 ⟨rfl, rfl⟩
  have k1 : ¬ (57 : Int) < m := by omega
  have k2 : ¬ m < 0 := by omega
  go_wp2
  go_ret
  exact ⟨rfl, rfl⟩
theorem rasks_bad (g : Nat) (m : Int) (r : Bool) (w : World) (c2 : w.cell? ⟨g, 2, none⟩ = some (.bool true)) (h : m < 0 ∨ 57 < m ∨ r = false) :
    Calls Try.prog 86 #[.func (.func 88) #[.pointer (some ⟨g, 0, none⟩)] #[], .int .i64 m, .bool r] w fun e w' => e = .returned (.int .i64 1) ∧ w = w' := by
  go_enter Try.func86, Try.ntmps86
  go_wp2_with fail
  refine (rnone_any g _ c2).mono ?_
  rintro e w2 ⟨rfl, rfl⟩
  by_cases k2 : m < 0
  · go_wp2
    go_ret
    exact ⟨rfl, rfl⟩
  · by_cases k1 : 57 < m
    · go_wp2
      go_ret
      exact ⟨rfl, rfl⟩
    · obtain rfl : r = false := by rcases h with h | h | h <;> first | omega | exact h
      go_wp2
      go_ret
      exact ⟨rfl, rfl⟩
theorem newReader_ok {w0 w : World} {L : List Pr} {v : Value} {l : List UInt8} (H : Sp w0 L w) (hb : Byt w v l) (hl : l.length ≤ 1000000000) :
    Calls Try.prog 37 #[v] w (Ret fun u w' => ∃ g, u = .pointer (some ⟨g, 0, none⟩) ∧ Sp w0 (Rr g l 0 :: L) w') := by
  obtain ⟨A, c, rfl, hr, h1, h2⟩ := id hb
  have HR := Lib.hid hr
  clear hr
  go_enter Try.func37, Try.ntmps37
  go_wp2_with fail
  refine (clone_ok H hb hl).mono ?_
  rintro e w2 ⟨u, rfl, H⟩
  obtain ⟨A1, c1, ev, _, _⟩ := Row.form H 0 rfl
  subst ev
  go_wp2
  go_ret
  exact ⟨_, rfl, _, rfl, Sp.ex (.slice A1 l.length c1) (Sp.star (H.newBk _ _))⟩
/-- What is known of a reader's world. -/
theorem rr_open {w0 w : World} {L : List Pr} {g at_ : Nat} {l : List UInt8} (H : Sp w0 (Rr g l at_ :: L) w) :
    ∃ A c, Sp w0 (RrB g (.slice A l.length c) at_ :: Row 5 1 (.slice A l.length c) l.length (cells8 l) :: L) w ∧ Byt w (.slice A l.length c) l ∧
      w.cell? ⟨g, 0, none⟩ = some (.slice A l.length c) ∧ w.cell? ⟨g, 1, none⟩ = some (.int .i64 (at_ : Int)) ∧ w.cell? ⟨g, 2, none⟩ = some (.bool true) := by
  obtain ⟨v, H⟩ := H.unex
  replace H := H.unstar
  obtain ⟨A, c, rfl, _, _⟩ := Row.form H 1 rfl
  exact ⟨A, c, H, H.row_byt 1 rfl, H.cell 0 rfl 0, H.cell 0 rfl 1, H.cell 0 rfl 2⟩
theorem left_ok (g : Nat) (l : List UInt8) (at_ : Nat) {w0 w : World} {L : List Pr} (H : Sp w0 (Rr g l at_ :: L) w) (ha : at_ ≤ 8 * l.length) (hl : l.length ≤ 1000000000) :
    Calls Try.prog 41 #[.pointer (some ⟨g, 0, none⟩)] w fun e w' => e = .returned (.int .i64 ((8 * l.length - at_ : Nat) : Int)) ∧ Keep w w' := by
  obtain ⟨A, c, _, _, c0, c1, c2⟩ := rr_open H
  clear H
  obtain ⟨n, hn⟩ : ∃ n, l.length = n := ⟨_, rfl⟩
  rw [hn] at c0 ha hl ⊢
  clear hn
  have h8 : (at_ : Int) ≤ 8 * n := by omega
  go_enter Try.func41, Try.ntmps41
  go_wp2_with fail
  refine (rnone_any g _ c2).mono ?_
  rintro e w2 ⟨rfl, rfl⟩
  go_wp2
  go_quiet (fail)
  go_wp2
  go_ret
  exact ⟨ret_i64 (by omega), Keep.drewN _ _⟩
theorem at_ok (g : Nat) (at_ : Nat) {w : World} (c1 : w.cell? ⟨g, 1, none⟩ = some (.int .i64 (at_ : Int))) (c2 : w.cell? ⟨g, 2, none⟩ = some (.bool true)) :
    Calls Try.prog 40 #[.pointer (some ⟨g, 0, none⟩)] w fun e w' => e = .returned (.int .i64 (at_ : Int)) ∧ w = w' := by
  go_enter Try.func40, Try.ntmps40
  go_wp2_with fail
  refine (rnone_any g _ c2).mono ?_
  rintro e w2 ⟨rfl, rfl⟩
  go_wp2
  go_ret
  exact ⟨rfl, rfl⟩
theorem skip_ok (g : Nat) (l : List UInt8) (at_ k : Nat) {w0 w : World} {L : List Pr} (H : Sp w0 (Rr g l at_ :: L) w) (ha : at_ + k ≤ 8 * l.length) (hk : k ≤ 57) (hl : l.length ≤ 1000000000) :
    Calls Try.prog 38 #[.pointer (some ⟨g, 0, none⟩), .int .i64 (k : Int)] w fun e w' => e = .returned (.int .i64 0) ∧ Sp w0 (Rr g l (at_ + k) :: L) w' := by
  obtain ⟨_, _, _, _, _, _, c2⟩ := rr_open H
  go_enter Try.func38, Try.ntmps38
  go_wp2_with fail
  refine (rasks_ok g k _ c2 (by omega) (by omega)).mono ?_
  rintro e w2 ⟨rfl, rfl⟩
  go_wp2_with fail
  refine (left_ok g l at_ H (by omega) hl).mono ?_
  rintro e w2 ⟨rfl, hK⟩
  replace H := hK.sep H
  clear hK c2
  obtain ⟨A, c, H, _, c0, c1, c2⟩ := rr_open H
  have z1 : w2.frozen? ⟨g, 1, none⟩ = false := H.frozen 0 rfl 1
  have h1 : ¬ ((8 * l.length - at_ : Nat) : Int) < k := by omega
  have h2 : (at_ : Int) ≤ 9000000000 := by omega
  go_wp2
  go_ret
  refine ⟨rfl, Sp.ex (.slice A l.length c) (Sp.star ?_)⟩
  have := H.set 1 (.int .i64 ((at_ : Int) + k))
  unfold RrB
  rw [Int.natCast_add]
  exact this
theorem skip_short (g : Nat) (l : List UInt8) (at_ k : Nat) {w0 w : World} {L : List Pr} (H : Sp w0 (Rr g l at_ :: L) w) (ha : at_ ≤ 8 * l.length) (hs : 8 * l.length < at_ + k) (hk : k ≤ 57) (hl : l.length ≤ 1000000000) :
    Calls Try.prog 38 #[.pointer (some ⟨g, 0, none⟩), .int .i64 (k : Int)] w fun e w' => e = .returned (.int .i64 4) ∧ Keep w w' := by
  obtain ⟨_, _, _, _, _, _, c2⟩ := rr_open H
  go_enter Try.func38, Try.ntmps38
  go_wp2_with fail
  refine (rasks_ok g k _ c2 (by omega) (by omega)).mono ?_
  rintro e w2 ⟨rfl, rfl⟩
  go_wp2_with fail
  refine (left_ok g l at_ H (by omega) hl).mono ?_
  rintro e w2 ⟨rfl, hK⟩
  have h1 : ((8 * l.length - at_ : Nat) : Int) < k := by omega
  go_wp2
  go_ret
  exact ⟨rfl, hK⟩
theorem skip_bad (g : Nat) (m : Int) {w : World} (c2 : w.cell? ⟨g, 2, none⟩ = some (.bool true)) (h : m < 0 ∨ 57 < m) :
    Calls Try.prog 38 #[.pointer (some ⟨g, 0, none⟩), .int .i64 m] w fun e w' => e = .returned (.int .i64 1) ∧ w = w' := by
  go_enter Try.func38, Try.ntmps38
  go_wp2_with fail
  refine (rasks_bad g m _ _ c2 (by rcases h with h | h; exact .inl h; exact .inr (.inl h))).mono ?_
  rintro e w2 ⟨rfl, rfl⟩
  go_wp2
  go_ret
  exact ⟨rfl, rfl⟩
end Go.Proofs.Ytkgnihpcldgedaa
