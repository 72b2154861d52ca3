/- Tail: the walk; what its four bytes are. -/
import Derived.Test.YtkgnihpcldgedaaDoorCrcW4
namespace Go.Proofs.YtkgnihpcldgedaaDoor
open Go.RowKit

theorem u32_shl4 (z : Nat) : IntKind.u32.wrap ((z : Int) * 16) = ((z * 16 % 4294967296 : Nat) : Int) := by rw [IntKind.wrap_u32']; omega

set_option maxHeartbeats 400000 in
theorem undone_any (x : Nat) (w : World) (hx : x < 4294967296) (ht : CrcTab w) (hw : CrcWhn w) :
    Calls Tryd.prog 37 #[.int .u32 (x : Int)] w fun e w' => e = .returned (.int .u32 (PCrc.undone x : Nat)) ∧ w = w' := by
  have w2 : ∀ i, i < 16 → PCrc.whn.getD i 0 < 16 := by decide
  have hk16 := w2 (x / 268435456) (by omega)
  have hc := hw (x / 268435456) (by omega)
  have HU : Hid (PCrc.undone x = ((x ^^^ PCrc.tab.getD (PCrc.whn.getD (x / 268435456) 0) 0) * 16) % 4294967296 ^^^ PCrc.whn.getD (x / 268435456) 0) := rfl
  obtain ⟨k, ek⟩ : ∃ k, PCrc.whn.getD (x / 268435456) 0 = k := ⟨_, rfl⟩
  rw [ek] at hk16 hc HU
  clear ek
  have hd := ht k hk16
  have htl := PCrc.tab_lt' k
  obtain ⟨t, et⟩ : ∃ t, PCrc.tab.getD k 0 = t := ⟨_, rfl⟩
  rw [et] at hd htl HU
  clear et w2
  have x1 := u32_xor_nat x t hx htl
  have hz : x ^^^ t < 4294967296 := Nat.xor_lt_two_pow (n := 32) hx htl
  obtain ⟨z, ez⟩ : ∃ z, x ^^^ t = z := ⟨_, rfl⟩
  rw [ez] at x1 hz HU
  clear ez
  have s1 := u32_shl4 z
  have x2 := u32_xor_nat (z * 16 % 4294967296) k (by omega) (by omega)
  go_enter Tryd.func37, Tryd.ntmps37
  go_wp2
  go_ret
  refine ⟨ret_u32 ?_, rfl⟩
  rw [HU.out]
  exact u32_xor' _ (z * 16 % 4294967296) _ (by omega) (by omega) (by omega)

def undoK : Nat → Nat → Nat
  | 0, x => x
  | k + 1, x => PCrc.undone (undoK k x)
theorem undoK_lt (k x : Nat) (h : x < 4294967296) : undoK k x < 4294967296 := by
  induction k with
  | zero => exact h
  | succ k ih => exact PCrc.undone_lt _ ih
/-- The four bytes, the lowest first. -/
def tb (x i : Nat) : UInt8 := UInt8.ofNat (x / 256 ^ i % 256)
theorem tb_val (x i : Nat) : (tb x i).toNat = x / 256 ^ i % 256 := by
  unfold tb; rw [UInt8.toNat_ofNat']; omega
theorem word_tb (x : Nat) (h : x < 4294967296) : PCrc.word (tb x 0) (tb x 1) (tb x 2) (tb x 3) = x := by
  rw [PCrc.word_eq, tb_val, tb_val, tb_val, tb_val]; omega

set_option maxRecDepth 100000 in
set_option maxHeartbeats 1000000 in
theorem tail_any (s t : Nat) (w : World) (hs : s < 4294967296) (ht0 : t < 4294967296) (ht : CrcTab w) (hw : CrcWhn w) :
    Calls Tryd.prog 21 #[.int .u32 (s : Int), .int .u32 (t : Int)] w fun e w' =>
      e = .returned (.agg #[.int .u8 ((tb (PCrc.tail s t) 0).toNat : Int), .int .u8 ((tb (PCrc.tail s t) 1).toNat : Int), .int .u8 ((tb (PCrc.tail s t) 2).toNat : Int), .int .u8 ((tb (PCrc.tail s t) 3).toNat : Int)]) ∧ Below w.heap.size w w' := by
  have n1 := u32_not t ht0
  have i1 := PCrc.inv_lt t ht0
  have i2 := PCrc.inv_lt s hs
  have HT : Hid (PCrc.tail s t = undoK 8 (PCrc.inv t) ^^^ PCrc.inv s) := rfl
  go_enter Tryd.func21, Tryd.ntmps21
  go_wp2
  clear n1
  go_loopw [5, 8] (fun x i wr => ∃ k : Nat, k ≤ 8 ∧ i = .int .i64 k ∧ x = .int .u32 (undoK k (PCrc.inv t) : Nat) ∧ wr = w.alloc (.cells #[.int .u8 0, .int .u8 0, .int .u8 0, .int .u8 0] 24)) (fun _ i _ => 8 - (intOf i).toNat)
  case atStart => exact ⟨0, by omega, rfl, rfl, rfl⟩
  case round =>
    obtain ⟨k, hk, rfl, rfl, rfl⟩ := hrel
    have hz := undoK_lt k _ i1
    by_cases hlt : k < 8
    · have HU : Hid (undoK (k + 1) (PCrc.inv t) = PCrc.undone (undoK k (PCrc.inv t))) := rfl
      obtain ⟨z, ez⟩ : ∃ z, undoK k (PCrc.inv t) = z := ⟨_, rfl⟩
      rw [ez] at hz HU ⊢
      clear ez
      go_wp2_with fail
      refine (undone_any z _ hz (ht.alloc _) (fun i hi => by rw [cell_alloc_old _ (hw i hi)]; exact hw i hi)).mono ?_
      rintro e w' ⟨rfl, rfl⟩
      go_wp2
      go_roundw
      case rel => exact ⟨k + 1, by omega, by go_num, by rw [HU.out], by trivial⟩
      case measure => simp [intOf]; omega
    · have e8 : k = 8 := by omega
      rw [e8] at hz ⊢
      clear e8 hlt hk
      obtain ⟨z, ez⟩ : ∃ z, undoK 8 (PCrc.inv t) = z := ⟨_, rfl⟩
      rw [ez] at hz HT ⊢
      clear ez
      have n1 := u32_not s hs
      have x1 := u32_xor_nat z (PCrc.inv s) hz i2
      have hy : z ^^^ PCrc.inv s < 4294967296 := Nat.xor_lt_two_pow (n := 32) hz i2
      obtain ⟨y, ey⟩ : ∃ y, z ^^^ PCrc.inv s = y := ⟨_, rfl⟩
      rw [ey] at x1 hy HT
      clear ey
      go_wp2
      refine bodyPost_ret (v := .agg #[.int .u8 ((y : Int) % 256), .int .u8 ((y : Int) / 256 % 256), .int .u8 ((y : Int) / 65536 % 256), .int .u8 ((y : Int) / 16777216)]) (by simp [results, Tryd.results21, go_sem]) rfl ⟨?_, (Below.refl _ _).alloc (Nat.le_refl _) _⟩
      rw [HT.out, tb_val, tb_val, tb_val, tb_val]
      have e0 : ((y / 256 ^ 0 % 256 : Nat) : Int) = (y : Int) % 256 := by omega
      have e1 : ((y / 256 ^ 1 % 256 : Nat) : Int) = (y : Int) / 256 % 256 := by omega
      have e2 : ((y / 256 ^ 2 % 256 : Nat) : Int) = (y : Int) / 65536 % 256 := by omega
      have e3 : ((y / 256 ^ 3 % 256 : Nat) : Int) = (y : Int) / 16777216 := by omega
      rw [e0, e1, e2, e3]
end Go.Proofs.YtkgnihpcldgedaaDoor
