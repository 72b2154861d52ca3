/- BitsS: the writer, by pieces. -/
import Derived.Test.YtkgnihpcldgedaaBitsW
import Derived.Test.YtkgnihpcldgedaaSepOps
import Derived.StillTailTactics
namespace Go.Proofs.Ytkgnihpcldgedaa
open Go.RowKit
theorem info8 : (Try.prog.info? 5).map (fun i => (i.zero, i.size, i.bytes)) = some (some (.int .u8 0), 1, 1) := by kernel_rfl
/-- A writer: V the bits laid, as a number, the lowest first; N how many. -/
def WrB (g : Nat) (v : Value) (wait many : Nat) : Pr := Bk g 86 [v, .int .u64 (wait : Int), .int .i64 (many : Int), .bool true]
def Wr (g V N : Nat) : Pr := Ex fun v : Value => Star (WrB g v (V / 256 ^ (N / 8)) (N % 8)) (Row 5 1 v (N / 8) (cells8 (PBits.bytesOf V (N / 8))))
theorem wnone_any (g : Nat) (w : World) (c3 : w.cell? ⟨g, 3, none⟩ = some (.bool true)) :
    Calls Try.prog 87 #[.pointer (some ⟨g, 0, none⟩)] w fun e w' => e = .returned (.bool false) ∧ w = w' := by
  go_enter Try.func87, Try.ntmps87
  go_wp2
  go_ret
  exact ⟨rfl, rfl⟩
/-- asks, of a writer that is there. -/
theorem wasks_ok (g : Nat) (m : Int) (w : World) (c3 : w.cell? ⟨g, 3, none⟩ = some (.bool true)) (h0 : 0 ≤ m) (h1 : m ≤ 57) :
    Calls Try.prog 86 #[.func (.func 87) #[.pointer (some ⟨g, 0, none⟩)] #[], .int .i64 m, .bool true] w fun e w' => e = .returned (.int .i64 0) ∧ w = w' := by
  go_enter Try.func86, Try.ntmps86
  go_wp2_with fail
  refine (wnone_any g _ c3).mono ?_
  rintro e w2 ⟨rfl, rfl⟩
  have k1 : ¬ (57 : Int) < m := by omega
  have k2 : ¬ m < 0 := by omega
  go_wp2
  go_ret
  exact ⟨rfl, rfl⟩
theorem wasks_bad (g : Nat) (m : Int) (r : Bool) (w : World) (c3 : w.cell? ⟨g, 3, none⟩ = some (.bool true)) (h : m < 0 ∨ 57 < m ∨ r = false) :
    Calls Try.prog 86 #[.func (.func 87) #[.pointer (some ⟨g, 0, none⟩)] #[], .int .i64 m, .bool r] w fun e w' => e = .returned (.int .i64 1) ∧ w = w' := by
  go_enter Try.func86, Try.ntmps86
  go_wp2_with fail
  refine (wnone_any g _ c3).mono ?_
  rintro e w2 ⟨rfl, rfl⟩
  by_cases k2 : m < 0
  · go_wp2
    go_ret
    exact ⟨rfl, rfl⟩
  · by_cases k1 : 57 < m
    · go_wp2
      go_ret
      exact ⟨rfl, rfl⟩
    · obtain rfl : r = false := by rcases h with h | h | h <;> first | omega | exact h
      go_wp2
      go_ret
      exact ⟨rfl, rfl⟩
end Go.Proofs.Ytkgnihpcldgedaa
