/- HuffBr: counts, brought from 0 to a million. -/
import Derived.Test.YtdlbhoedmaifpaaHuffMinC
import Derived.Test.YtdlbhoedmaifpaaHuffR
namespace Go.Proofs.Ytdlbhoedmaifpaa
set_option linter.unusedVariables false
set_option linter.unusedSimpArgs false
open Go.RowKit
/-- A row of numbers that is owned, read. -/
theorem rowN_rdM {M : List Pr} {V : Option Addr} {n kk : Nat} {l : List Nat} (j : Nat) (hj : M[j]? = some (Row 3 1 (.slice V n kk) n (cellsN l))) : Ent M fun w => Rd w V (cellsN l) := fun _ _ H => by
  obtain ⟨A9, c9, e9, hr9, _, _⟩ := H.row_rd j hj
  injection e9 with e9
  rw [e9]; exact hr9
theorem rowN_rdJ {M : List Pr} {V : Option Addr} {n kk : Nat} {l : List Nat} (j : Nat) (hj : M[j]? = some (Row 3 1 (.slice V n kk) n (cellsN l))) : Ent M fun w => Rd w V (cells64 (castI l)) := rowN_rd j hj
def broTo (ps : List Nat) (k : Nat) : List Nat := (ps.take k).map fun x => x % 1000001
def bro (ps : List Nat) : List Nat := broTo ps (min ps.length 40)
theorem broTo_succ (ps : List Nat) (k : Nat) (h : k < ps.length) : broTo ps (k + 1) = broTo ps k ++ [ps[k] % 1000001] := by
  unfold broTo; rw [List.take_succ_eq_append_getElem h, List.map_append]; rfl
theorem broTo_len (ps : List Nat) (k : Nat) (h : k ≤ ps.length) : (broTo ps k).length = k := by unfold broTo; rw [List.length_map, List.length_take]; omega
theorem bro_len (ps : List Nat) : (bro ps).length = min ps.length 40 := broTo_len _ _ (by omega)
theorem bro_le (ps : List Nat) : ∀ x ∈ bro ps, x ≤ 1000000 := by
  intro x hx
  obtain ⟨c, _, rfl⟩ := List.mem_map.1 hx
  omega
def cellsU (ps : List Nat) : List Value := ps.map fun p : Nat => .int .u32 (p : Int)
set_option maxRecDepth 100000 in
set_option maxHeartbeats 8000000 in
theorem brought_ok (A : Option Addr) (n c : Nat) (ps : List Nat) {w0 w : World} {L : List Pr} (H : Sp w0 L w) (hn : n = ps.length) (hb : Ent L fun w => Rd w A (cellsU ps)) (hc : n ≤ c) (hcm : c ≤ maxLen) (hp : ∀ p ∈ ps, p < 4294967296) :
    Calls Try.prog 32 #[.slice A n c] w fun e w' => ∃ v, e = .returned v ∧ Sp w0 (Row 3 1 v (bro ps).length (cellsN (bro ps)) :: L) w' := by
  obtain ⟨i1, hj, hj0, hj1, hj2⟩ := info_parts infoJ
  unfold maxLen at hcm
  have HN := Lib.hid hn
  have HB := Lib.hid hb
  have HP := Lib.hid hp
  obtain ⟨k0, hk0⟩ : ∃ k0, min n 40 = k0 := ⟨_, rfl⟩
  have hk1 : k0 ≤ n := by omega
  have hk2 : k0 ≤ 40 := by omega
  have hk3 : n ≤ k0 ∨ k0 = 40 := by omega
  have hres : bro ps = broTo ps k0 := by unfold bro; rw [← hn, hk0]
  have hrl : (bro ps).length = k0 := by rw [hres]; exact broTo_len ps k0 (by rw [← hn]; exact hk1)
  rw [hrl, hres]
  clear hn hb hp hk0 hres hrl
  go_enter Try.func32, Try.ntmps32
  go_wp2_with fail
  go_loopw [3, 4] (fun vv iv wr => ∃ (i : Nat), iv = .int .i64 (i : Int) ∧ i ≤ k0 ∧ Sp w0 (Row 3 1 vv i (cellsN (broTo ps i)) :: L) wr) (fun _ iv _ => k0 - (intOf iv).toNat)
  case atStart => exact ⟨0, rfl, Nat.zero_le _, H.rowNil _ _⟩
  case round =>
    clear H
    obtain ⟨i, rfl, hi, H⟩ := hrel
    obtain ⟨D, hD⟩ : ∃ D, broTo ps i = D := ⟨_, rfl⟩
    rw [hD] at H
    obtain ⟨VA, Vc, hvf, _, _⟩ := Row.form H 0 rfl
    subst hvf
    by_cases hlt : i < k0
    · have k1 : (i : Int) < (n : Int) := by omega
      have k2 : (i : Int) < 40 := by omega
      have hil : i < ps.length := by rw [← HN.out]; omega
      obtain ⟨al, hal, hc9⟩ := (HB.out _ _ H.tail).at_ (k := i) (by simpa [cellsU] using hil)
      subst hal
      obtain ⟨x, hx⟩ : ∃ x : Nat, ps[i] = x := ⟨_, rfl⟩
      replace hc9 : wr.cell? (al.add i) = some (.int .u32 (x : Int)) := by
        rw [hc9]
        simp [cellsU, hx]
      obtain ⟨y, hy⟩ : ∃ y, x % 1000001 = y := ⟨_, rfl⟩
      have hxl : x < 4294967296 := by rw [← hx]; exact HP.out _ (List.getElem_mem hil)
      have yy : (x : Int) % 1000001 = (y : Int) := by omega
      have yy2 : (x : Int).tmod 1000001 = (y : Int) := by rw [Int.tmod_eq_emod_of_nonneg (by omega)]; exact yy
      have hyl : y ≤ 1000000 := by omega
      have hnext := broTo_succ ps i hil
      rw [hx, hy, hD] at hnext
      have HNX := Lib.hid hnext
      have hr9 := Rd.of_blk (Blk.new wr 3 [.int .i64 (y : Int)])
      have HR9 := Lib.hid hr9
      have h9 := (H.newBk [.int .i64 (y : Int)] 3).swap
      have HH9 := Lib.hid h9
      have hDl : D.length = i := by rw [← hD]; exact broTo_len ps i (by omega)
      have hDL := Lib.hid hDl
      clear hr9 h9 H hx hy hD hnext hDl
      go_wp2_with (at_builtin; refine wpList_append_sp rfl _ _ 52 rfl 3 i1 (.int .i64 0) 1 8 Try.underlying52 hj hj0 hj1 hj2 rfl (by decide) (.slice VA i Vc) i (cellsN D) rfl HH9.out (some ⟨wr.heap.size, 0, none⟩) 1 1 [.int .i64 (y : Int)] rfl rfl HR9.out (by intro u hu; rw [List.mem_singleton.1 hu]; rfl) (by simp only [maxLen]; omega) (by omega) ?_)
      intro v6 w6 H6 _
      clear HR9 HH9
      go_wp2_with fail
      go_roundw
      case rel =>
        refine ⟨i + 1, by go_num, by omega, ?_⟩
        rw [HNX.out, cellsN_append]
        exact H6.pick 2 [0]
      case measure => first | (simp [intOf]; omega) | simp [intOf]
    · obtain rfl : i = k0 := by omega
      have kx : ¬ ((i : Int) < (n : Int)) ∨ ((i : Int) < (n : Int) ∧ ¬ (i : Int) < 40) := by omega
      have HDD := Lib.hid hD
      clear hD
      rcases kx with kx | ⟨kx, ky⟩
      · go_wp2_with fail
        go_ret
        rw [HDD.out]
        exact ⟨_, rfl, H⟩
      · go_wp2_with fail
        go_ret
        rw [HDD.out]
        exact ⟨_, rfl, H⟩
end Go.Proofs.Ytdlbhoedmaifpaa
