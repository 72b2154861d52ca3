/- BitsN: no writer, no reader; what may not be. -/
import Derived.Test.YtkgnihpcldgedaaBitsV
namespace Go.Proofs.Ytkgnihpcldgedaa
open Go.RowKit
/-- There is no writer. -/
def NoW (w : World) (p : Option Addr) : Prop := p = none ∨ ∃ g, p = some ⟨g, 0, none⟩ ∧ w.cell? ⟨g, 3, none⟩ = some (.bool false)
def NoR (w : World) (p : Option Addr) : Prop := p = none ∨ ∃ g, p = some ⟨g, 0, none⟩ ∧ w.cell? ⟨g, 2, none⟩ = some (.bool false)
theorem wnone_no (p : Option Addr) (w : World) (h : NoW w p) :
    Calls Try.prog 87 #[.pointer p] w fun e w' => e = .returned (.bool true) ∧ w = w' := by
  rcases h with rfl | ⟨g, rfl, c⟩
  · go_enter Try.func87, Try.ntmps87
    go_wp2
    go_ret
    exact ⟨rfl, rfl⟩
  · go_enter Try.func87, Try.ntmps87
    go_wp2
    go_ret
    exact ⟨rfl, rfl⟩
theorem rnone_no (p : Option Addr) (w : World) (h : NoR w p) :
    Calls Try.prog 88 #[.pointer p] w fun e w' => e = .returned (.bool true) ∧ w = w' := by
  rcases h with rfl | ⟨g, rfl, c⟩
  · go_enter Try.func88, Try.ntmps88
    go_wp2
    go_ret
    exact ⟨rfl, rfl⟩
  · go_enter Try.func88, Try.ntmps88
    go_wp2
    go_ret
    exact ⟨rfl, rfl⟩
theorem wasks_no (p : Option Addr) (m : Int) (r : Bool) (w : World) (h : NoW w p) :
    Calls Try.prog 86 #[.func (.func 87) #[.pointer p] #[], .int .i64 m, .bool r] w fun e w' => e = .returned (.int .i64 2) ∧ w = w' := by
  go_enter Try.func86, Try.ntmps86
  go_wp2_with fail
  refine (wnone_no p _ h).mono ?_
  rintro e w2 ⟨rfl, rfl⟩
  go_wp2
  go_ret
  exact ⟨rfl, rfl⟩
theorem rasks_no (p : Option Addr) (m : Int) (r : Bool) (w : World) (h : NoR w p) :
    Calls Try.prog 86 #[.func (.func 88) #[.pointer p] #[], .int .i64 m, .bool r] w fun e w' => e = .returned (.int .i64 2) ∧ w = w' := by
  go_enter Try.func86, Try.ntmps86
  go_wp2_with fail
  refine (rnone_no p _ h).mono ?_
  rintro e w2 ⟨rfl, rfl⟩
  go_wp2
  go_ret
  exact ⟨rfl, rfl⟩
theorem put_no (p : Option Addr) (w : World) (h : NoW w p) :
    Calls Try.prog 33 #[.pointer p, .int .u64 0, .int .i64 0] w fun e w' => e = .returned (.int .i64 2) ∧ w = w' := by
  go_enter Try.func33, Try.ntmps33
  go_wp2_with fail
  refine (wasks_no p 0 _ _ h).mono ?_
  rintro e w2 ⟨rfl, rfl⟩
  go_wp2
  go_ret
  exact ⟨rfl, rfl⟩
theorem code_no (p : Option Addr) (w : World) (h : NoW w p) :
    Calls Try.prog 34 #[.pointer p, .int .u64 0, .int .i64 0] w fun e w' => e = .returned (.int .i64 2) ∧ w = w' := by
  go_enter Try.func34, Try.ntmps34
  go_wp2_with fail
  refine (wasks_no p 0 _ _ h).mono ?_
  rintro e w2 ⟨rfl, rfl⟩
  go_wp2
  go_ret
  exact ⟨rfl, rfl⟩
theorem align_no (p : Option Addr) (w : World) (h : NoW w p) :
    Calls Try.prog 44 #[.pointer p] w fun e w' => e = .returned (.int .i64 2) ∧ w = w' := by
  go_enter Try.func44, Try.ntmps44
  go_wp2_with fail
  refine (wnone_no p _ h).mono ?_
  rintro e w2 ⟨rfl, rfl⟩
  go_wp2
  go_ret
  exact ⟨rfl, rfl⟩
theorem bytes_no (g : Nat) (v : Value) (m : Int) (w : World) (c3 : w.cell? ⟨g, 3, none⟩ = some (.bool false)) (c2 : w.cell? ⟨g, 2, none⟩ = some (.int .i64 m)) :
    Calls Try.prog 46 #[.pointer (some ⟨g, 0, none⟩), v] w fun e w' => e = .returned (.int .i64 2) ∧ w = w' := by
  have h : NoW w (some ⟨g, 0, none⟩) := .inr ⟨g, rfl, c3⟩
  go_enter Try.func46, Try.ntmps46
  go_wp2_with fail
  refine (wasks_no _ 0 _ _ h).mono ?_
  rintro e w2 ⟨rfl, rfl⟩
  go_wp2
  go_ret
  exact ⟨rfl, rfl⟩
theorem len_no (p : Option Addr) (w : World) (h : NoW w p) :
    Calls Try.prog 48 #[.pointer p] w fun e w' => e = .returned (.int .i64 0) ∧ w = w' := by
  go_enter Try.func48, Try.ntmps48
  go_wp2_with fail
  refine (wnone_no p _ h).mono ?_
  rintro e w2 ⟨rfl, rfl⟩
  go_wp2
  go_ret
  exact ⟨rfl, rfl⟩
theorem done_no (p : Option Addr) (w : World) (h : NoW w p) :
    Calls Try.prog 35 #[.pointer p] w fun e w' => e = .returned (.slice none 0 0) ∧ w = w' := by
  go_enter Try.func35, Try.ntmps35
  go_wp2_with fail
  refine (wnone_no p _ h).mono ?_
  rintro e w2 ⟨rfl, rfl⟩
  go_wp2
  go_ret
  exact ⟨rfl, rfl⟩
theorem get_no (p : Option Addr) (m : Int) (w : World) (h : NoR w p) :
    Calls Try.prog 39 #[.pointer p, .int .i64 m] w fun e w' => e = .returned (.tuple #[.int .u64 0, .int .i64 2]) ∧ w = w' := by
  go_enter Try.func39, Try.ntmps39
  go_wp2_with fail
  refine (rnone_no p _ h).mono ?_
  rintro e w2 ⟨rfl, rfl⟩
  go_wp2
  go_ret2
  exact ⟨rfl, rfl⟩
theorem peek_no (p : Option Addr) (m : Int) (w : World) (h : NoR w p) :
    Calls Try.prog 57 #[.pointer p, .int .i64 m] w fun e w' => e = .returned (.tuple #[.int .u64 0, .int .i64 0]) ∧ w = w' := by
  go_enter Try.func57, Try.ntmps57
  go_wp2_with fail
  refine (rnone_no p _ h).mono ?_
  rintro e w2 ⟨rfl, rfl⟩
  go_wp2
  go_ret2
  exact ⟨rfl, rfl⟩
theorem skip_no (p : Option Addr) (m : Int) (w : World) (h : NoR w p) :
    Calls Try.prog 38 #[.pointer p, .int .i64 m] w fun e w' => e = .returned (.int .i64 2) ∧ w = w' := by
  go_enter Try.func38, Try.ntmps38
  go_wp2_with fail
  refine (rasks_no p m _ _ h).mono ?_
  rintro e w2 ⟨rfl, rfl⟩
  go_wp2
  go_ret
  exact ⟨rfl, rfl⟩
theorem ralign_no (p : Option Addr) (w : World) (h : NoR w p) :
    Calls Try.prog 53 #[.pointer p] w fun e w' => e = .returned (.int .i64 2) ∧ w = w' := by
  go_enter Try.func53, Try.ntmps53
  go_wp2_with fail
  refine (rnone_no p _ h).mono ?_
  rintro e w2 ⟨rfl, rfl⟩
  go_wp2
  go_ret
  exact ⟨rfl, rfl⟩
theorem left_no (p : Option Addr) (w : World) (h : NoR w p) :
    Calls Try.prog 41 #[.pointer p] w fun e w' => e = .returned (.int .i64 0) ∧ w = w' := by
  go_enter Try.func41, Try.ntmps41
  go_wp2_with fail
  refine (rnone_no p _ h).mono ?_
  rintro e w2 ⟨rfl, rfl⟩
  go_wp2
  go_ret
  exact ⟨rfl, rfl⟩
theorem at_no (p : Option Addr) (w : World) (h : NoR w p) :
    Calls Try.prog 40 #[.pointer p] w fun e w' => e = .returned (.int .i64 0) ∧ w = w' := by
  go_enter Try.func40, Try.ntmps40
  go_wp2_with fail
  refine (rnone_no p _ h).mono ?_
  rintro e w2 ⟨rfl, rfl⟩
  go_wp2
  go_ret
  exact ⟨rfl, rfl⟩
theorem rbytes_no (g : Nat) (k : Nat) (at_ : Nat) (w : World) (c2 : w.cell? ⟨g, 2, none⟩ = some (.bool false)) (c1 : w.cell? ⟨g, 1, none⟩ = some (.int .i64 (at_ : Int))) :
    Calls Try.prog 55 #[.pointer (some ⟨g, 0, none⟩), .int .i64 (k : Int)] w fun e w' => e = .returned (.tuple #[.slice none 0 0, .int .i64 2]) ∧ w = w' := by
  have h : NoR w (some ⟨g, 0, none⟩) := .inr ⟨g, rfl, c2⟩
  go_enter Try.func55, Try.ntmps55
  go_wp2_with fail
  refine (rasks_no _ 0 _ _ h).mono ?_
  rintro e w2 ⟨rfl, rfl⟩
  go_wp2
  go_ret2
  exact ⟨rfl, rfl⟩
/-- Bytes of a reader that may not be taken. -/
theorem rbytes_neg (g : Nat) (m : Int) (w : World) (c2 : w.cell? ⟨g, 2, none⟩ = some (.bool true)) (hm : m < 0) :
    Calls Try.prog 55 #[.pointer (some ⟨g, 0, none⟩), .int .i64 m] w fun e w' => e = .returned (.tuple #[.slice none 0 0, .int .i64 1]) ∧ w = w' := by
  have h0 : ¬ (0 : Int) ≤ m := by omega
  go_enter Try.func55, Try.ntmps55
  go_wp2_with fail
  refine (rasks_bad g 0 _ _ c2 (.inr (.inr rfl))).mono ?_
  rintro e w2 ⟨rfl, rfl⟩
  go_wp2
  go_ret2
  exact ⟨rfl, rfl⟩
theorem rbytes_mid (g k at_ : Nat) (w : World) (c2 : w.cell? ⟨g, 2, none⟩ = some (.bool true)) (c1 : w.cell? ⟨g, 1, none⟩ = some (.int .i64 (at_ : Int))) (ha : at_ % 8 ≠ 0) :
    Calls Try.prog 55 #[.pointer (some ⟨g, 0, none⟩), .int .i64 (k : Int)] w fun e w' => e = .returned (.tuple #[.slice none 0 0, .int .i64 1]) ∧ w = w' := by
  have h0 : ((at_ : Int) % 8 == 0) = false := by rw [beq_eq_false_iff_ne]; omega
  go_enter Try.func55, Try.ntmps55
  go_wp2_with fail
  refine (rasks_bad g 0 _ _ c2 (.inr (.inr rfl))).mono ?_
  rintro e w2 ⟨rfl, rfl⟩
  go_wp2
  go_ret2
  exact ⟨rfl, rfl⟩
theorem rbytes_short (g : Nat) (l : List UInt8) (q k : Nat) {w0 w : World} {L : List Pr} (H : Sp w0 (Rr g l (8 * q) :: L) w) (hq : q ≤ l.length) (ha : l.length < q + k) (hl : l.length ≤ 1000000000) :
    Calls Try.prog 55 #[.pointer (some ⟨g, 0, none⟩), .int .i64 (k : Int)] w fun e w' => e = .returned (.tuple #[.slice none 0 0, .int .i64 4]) ∧ Keep w w' := by
  obtain ⟨_, _, _, _, _, c1, c2⟩ := rr_open H
  rw [Int.natCast_mul] at c1
  have hq2 : (q : Int) ≤ 1000000000 := by omega
  have t0 : ((8 : Int) * q % 8 == 0) = true := by rw [beq_iff_eq]; omega
  go_enter Try.func55, Try.ntmps55
  go_wp2_with fail
  refine (rasks_ok g 0 _ c2 (by omega) (by omega)).mono ?_
  rintro e w2 ⟨rfl, rfl⟩
  clear t0 c1 c2
  go_wp2_with fail
  refine (left_ok g l (8 * q) H (by omega) hl).mono ?_
  rintro e w2 ⟨rfl, hK⟩
  have t1 : ((8 * l.length - 8 * q : Nat) : Int) / 8 < k := by omega
  go_wp2
  go_ret2
  exact ⟨rfl, hK⟩
end Go.Proofs.Ytkgnihpcldgedaa
