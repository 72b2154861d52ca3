import Derived.Test.YtkgnihpcldgedaaDoorCrcW3
import Derived.Lib.SlBytesConst
namespace Go.Proofs.YtkgnihpcldgedaaDoor
open Go.RowKit

set_option maxHeartbeats 400000 in
theorem zeros_any (x n : Nat) (w : World) (hx : x < 4294967296) (hn : n < 9223372036854775808) (ht : CrcTab w) :
    Calls Tryd.prog 34 #[.int .u32 (x : Int), .int .i64 (n : Int)] w fun e w' => e = .returned (.int .u32 (PCrc.inv (pastF 64 ones (PCrc.inv x) n) : Nat)) ∧ Below w.heap.size w w' := by
  have h1 := u32_not x hx
  go_enter Tryd.func34, Tryd.ntmps34
  go_wp2_with fail
  refine (past_any _ n _ (PCrc.inv_lt x hx) hn ht).mono ?_
  rintro e w1 ⟨rfl, hB⟩
  clear h1
  have hlt : pastF 64 ones (PCrc.inv x) n < 4294967296 := pastF_lt 64 ones _ n ones_lt (PCrc.inv_lt x hx)
  have h2 := u32_not _ hlt
  go_wp2
  go_ret
  exact ⟨rfl, hB⟩
theorem zeros_4 : PCrc.inv (pastF 64 ones (PCrc.inv 0) 4) = 558161692 := by decide +kernel
theorem of_0 : PCrc.of [] = 0 := by decide +kernel
theorem of_a : PCrc.of [97] = 3904355907 := by decide +kernel
theorem of_9 : PCrc.of [49, 50, 51, 52, 53, 54, 55, 56, 57] = 3421780262 := by decide +kernel
theorem of_val (v : Value) (ls : List (List UInt8)) (r : Nat) (w : World) (hv : PCrc.of ls.flatten = r) (hm : total ls ≤ 9223372036854775807) (ht : CrcTab w) (hp : Parts w v ls) :
    Calls Tryd.prog 15 #[v] w fun e w' => e = .returned (.int .u32 (r : Int)) ∧ Below w.heap.size w w' := by
  rw [← hv]; exact of_any v ls w hm ht hp
theorem parts_nil (w : World) : Parts w (.slice none 0 0) [] := ⟨none, 0, [], rfl, Rd.nil, rfl, by simp [maxLen], fun u hu => (by simp at hu), fun i h => (by simp at h)⟩
/-- Parts that were just laid in a row. -/
theorem Parts.of_new {w : World} {g n c : Nat} {t : TypeId} {fr : Nat × Nat} (vs : List Value) (ls : List (List UInt8)) (hg : w.heap.size = g) (hn : n = ls.length) (hlen : vs.length = ls.length) (hmax : ls.length ≤ maxLen)
    (h : ∀ i (h : i < ls.length) (h' : i < vs.length), Byt w vs[i] ls[i]) : Parts (w.alloc (.cells vs.toArray t fr)) (.slice (some ⟨g, 0, none⟩) n c) ls := by
  subst hn
  refine ⟨_, _, vs, rfl, Rd.new vs t fr hg, hlen, hmax, fun u hu => ?_, fun i h1 h2 => (h i h1 h2).alloc _⟩
  obtain ⟨i, hi, rfl⟩ := List.getElem_of_mem hu
  obtain ⟨A, c, e, _⟩ := h i (by omega) hi
  exact ⟨A, _, c, e⟩
theorem CrcTab.below {w w' : World} {B : Nat} (h : CrcTab w) (hB : Below B w w') (hb : w.heap.size ≤ B) : CrcTab w' := fun i hi => by
  rw [hB.cell (Nat.lt_of_lt_of_le (cell_lt (h i hi)) hb)]; exact h i hi

set_option maxRecDepth 100000 in
set_option maxHeartbeats 1000000 in
theorem tells_any (w : World) (ht : CrcTab w) :
    Calls Tryd.prog 14 #[] w fun e w' => e = .returned (.bool true) ∧ Below w.heap.size w w' := by
  have kc := fun (w : World) (C : Array Value) (n c : Nat) => Lib.run_convert_bytes_const (P := Tryd.prog) w 22 5 C n c Tryd.underlying22 Tryd.underlying5
  have kc2 : ∀ (w : World) (o : Obj) (C : Array Value) (n c : Nat), (convert 22 22 (.slice (some ⟨w.heap.size + 1, 0, none⟩) n c)).run Tryd.prog ((w.alloc o).alloc (.cells C 5)) = .ok (.slice (some ⟨w.heap.size + 1, 0, none⟩) n c) ((w.alloc o).alloc (.cells C 5 (C.size, C.size + 1))) := fun w o C n c => by simpa using kc (w.alloc o) C n c
  go_enter Tryd.func14, Tryd.ntmps14
  go_wp2_with fail
  refine (of_val _ [] 0 _ of_0 (by simp [total]) ht (parts_nil _)).mono ?_
  rintro e w1 ⟨rfl, hB1⟩
  go_wp2_with fail
  have ht1 := ht.below hB1 (Nat.le_refl _)
  refine (of_val _ [[97]] _ _ of_a (by simp [total]) ?hta ?hpa).mono ?_
  case hta => exact (ht1.alloc _).alloc _
  case hpa =>
    refine Parts.of_new [_] [[97]] (by simp) rfl rfl (by simp [maxLen]) fun i h h' => ?_
    obtain rfl : i = 0 := by simpa using h
    exact Byt.new [97] _ _ rfl rfl rfl (by simp [maxLen])
  rintro e w2 ⟨rfl, hB2⟩
  have ht2 := ((ht1.alloc _).alloc _).below hB2 (Nat.le_refl _)
  have hW2 := ((hB1.alloc hB1.size _).alloc (by simp; have := hB1.size; omega) _).trans (hB2.mono (by simp; have := hB1.size; omega))
  clear hB1 hB2 ht1
  go_wp2_with fail
  refine (of_val _ [[49, 50, 51, 52], [], [53, 54, 55, 56, 57]] _ _ of_9 (by simp [total]) ?htb ?hpb).mono ?_
  case htb => exact ((ht2.alloc _).alloc _).alloc _
  case hpb =>
    refine Parts.of_new [_, _, _] [[49, 50, 51, 52], [], [53, 54, 55, 56, 57]] (by simp) rfl rfl (by simp [maxLen]) fun i h h' => ?_
    match i, h, h' with
    | 0, _, _ => exact (Byt.new [49, 50, 51, 52] _ _ rfl rfl rfl (by simp [maxLen])).alloc _
    | 1, _, _ => exact Byt.nil _
    | 2, _, _ => exact Byt.new [53, 54, 55, 56, 57] _ _ (by simp) rfl rfl (by simp [maxLen])
  rintro e w3 ⟨rfl, hB3⟩
  have ht3 := (((ht2.alloc _).alloc _).alloc _).below hB3 (Nat.le_refl _)
  have hW3 := (((hW2.alloc hW2.size _).alloc (by simp; have := hW2.size; omega) _).alloc (by simp; have := hW2.size; omega) _).trans (hB3.mono (by simp; have := hW2.size; omega))
  clear hB3 hW2 ht2 kc kc2
  go_wp2_with fail
  refine ((zeros_any 0 4 _ (by omega) (by omega) ht3)).mono ?_
  rintro e w4 ⟨rfl, hB4⟩
  rw [zeros_4]
  go_wp2
  go_ret
  exact ⟨rfl, hW3.trans (hB4.mono hW3.size)⟩
end Go.Proofs.YtkgnihpcldgedaaDoor
