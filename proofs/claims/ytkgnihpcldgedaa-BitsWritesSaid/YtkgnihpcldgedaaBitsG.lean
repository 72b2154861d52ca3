/- BitsG: the document's own answer for bits: Get, Done, Bytes, Of. -/
import Derived.Test.YtkgnihpcldgedaaBitsF
namespace Go.Proofs.Ytkgnihpcldgedaa
open Go.RowKit
theorem fget_ok (g : Nat) (l : List Bool) (at_ k : Nat) {w0 w : World} {L : List Pr} (H : Sp w0 (Rw g l at_ :: L) w) (ha : at_ + k ≤ l.length) (hk : k ≤ 57) (hl : l.length ≤ 1000000000) :
    Calls Try.prog 52 #[.pointer (some ⟨g, 0, none⟩), .int .i64 (k : Int)] w fun e w' => e = .returned (.tuple #[.int .u64 (PBits.num ((l.drop at_).take k) : Nat), .int .i64 0]) ∧ Sp w0 (Rw g l (at_ + k) :: L) w' := by
  have k1 : ¬ (57 : Int) < k := by omega
  have k2 : ¬ (k : Int) < 0 := by omega
  go_enter Try.func52, Try.ntmps52
  go_wp2_with fail
  refine (fleft_ok g l at_ H (by omega) hl).mono ?_
  rintro e w2 ⟨rfl, hK⟩
  replace H := hK.sep H
  clear hK
  have k3 : ¬ ((l.length - at_ : Nat) : Int) < k := by omega
  go_wp2_with fail
  refine (fpeek_ok g l at_ k k H (by omega) hl (by omega)).mono ?_
  rintro e w3 ⟨rfl, H3⟩
  obtain ⟨A, c, H4, _, _, c1, _, z1, _⟩ := rw_open H3
  have hb : (at_ : Int) + k ≤ 1000000000 := by omega
  go_wp2
  go_ret2
  refine ⟨rfl, rw_shut (v := .slice A l.length c) ?_⟩
  unfold RwB
  rw [Int.natCast_add]
  exact H4.set 1 (.int .i64 ((at_ : Int) + k))
theorem fget_short (g : Nat) (l : List Bool) (at_ k : Nat) {w0 w : World} {L : List Pr} (H : Sp w0 (Rw g l at_ :: L) w) (ha : at_ ≤ l.length) (hs : l.length < at_ + k) (hk : k ≤ 57) (hl : l.length ≤ 1000000000) :
    Calls Try.prog 52 #[.pointer (some ⟨g, 0, none⟩), .int .i64 (k : Int)] w fun e w' => e = .returned (.tuple #[.int .u64 0, .int .i64 4]) ∧ Keep w w' := by
  have k1 : ¬ (57 : Int) < k := by omega
  have k2 : ¬ (k : Int) < 0 := by omega
  go_enter Try.func52, Try.ntmps52
  go_wp2_with fail
  refine (fleft_ok g l at_ H (by omega) hl).mono ?_
  rintro e w2 ⟨rfl, hK⟩
  have k3 : ((l.length - at_ : Nat) : Int) < k := by omega
  go_wp2
  go_ret2
  exact ⟨rfl, hK⟩
theorem fget_bad (g : Nat) (m : Int) (w : World) (h : m < 0 ∨ 57 < m) :
    Calls Try.prog 52 #[.pointer (some ⟨g, 0, none⟩), .int .i64 m] w fun e w' => e = .returned (.tuple #[.int .u64 0, .int .i64 1]) ∧ w = w' := by
  go_enter Try.func52, Try.ntmps52
  by_cases k2 : m < 0
  · go_wp2
    go_ret2
    exact ⟨rfl, rfl⟩
  · have k1 : 57 < m := by omega
    go_wp2
    go_ret2
    exact ⟨rfl, rfl⟩
set_option maxRecDepth 100000 in
set_option maxHeartbeats 1000000 in
theorem fdone_ok (g : Nat) (l : List Bool) (at_ : Nat) {w0 w : World} {L : List Pr} (H : Sp w0 (Rw g l at_ :: L) w) (hl : l.length ≤ 1000000) :
    Calls Try.prog 49 #[.pointer (some ⟨g, 0, none⟩)] w (Ret fun v w' => Sp w0 (Row 5 1 v ((l.length + 7) / 8) (cells8 (PBits.bytesOf (PBits.num l) ((l.length + 7) / 8))) :: Rw g l at_ :: L) w') := by
  obtain ⟨A, c, H, _, _, _, _, _, hc1, hc2⟩ := rw_open H
  unfold maxLen at hc2
  obtain ⟨n, hn⟩ : ∃ n, l.length = n := ⟨_, rfl⟩
  have HN := Lib.hid hn
  obtain ⟨i0, hi, hz0, hz1, hz2⟩ := info_parts info8
  rw [hn] at hl hc1
  have hG : ∀ v M' xs w', Sp w0 (Row 5 1 v M' xs :: RwB g (.slice A n c) at_ :: Row 4 1 (.slice A n c) n (cellsB l) :: L) w' → Sp w0 (Row 5 1 v M' xs :: Rw g l at_ :: L) w' := fun v M' xs w' H' => Sp.swap (rw_shut (v := .slice A n c) (by rw [hn]; exact H'.pick 3 [1, 2, 0]))
  rw [hn] at H
  have HG := Lib.hid hG
  clear hn hG
  go_enter Try.func49, Try.ntmps49
  go_wp2
  go_loopw [3, 4] (fun out i wr => ∃ j : Nat, j ≤ (n + 7) / 8 ∧ i = .int .i64 ((8 * j : Nat) : Int) ∧ Sp w0 (Row 5 1 out j (cells8 (PBits.bytesOf (PBits.num l) j)) :: RwB g (.slice A n c) at_ :: Row 4 1 (.slice A n c) n (cellsB l) :: L) wr) (fun _ i _ => 2000000 - (intOf i).toNat)
  case atStart => exact ⟨0, Nat.zero_le _, rfl, H.rowNil _ _⟩
  case round =>
    obtain ⟨j, hj, rfl, H2⟩ := hrel
    obtain ⟨B, c2, rfl, _, _⟩ := Row.form H2 0 rfl
    have c0 : wr.cell? ⟨g, 0, none⟩ = some (.slice A n c) := H2.cell 1 rfl 0
    obtain ⟨p, hp⟩ : ∃ p, 8 * j = p := ⟨_, rfl⟩
    rw [hp]
    have HP := Lib.hid hp
    by_cases hlt : p < n
    · have hlt' : (p : Int) < n := by omega
      obtain ⟨k, hk⟩ : ∃ k, k = min 8 (n - p) := ⟨_, rfl⟩
      have hk8 : k ≤ 8 := by omega
      have hpk : p + k ≤ n := by omega
      have hcq : ¬ c = p := by omega
      have hBl : Bls wr (.slice A n c) l := H2.row_bls 2 (e := 4) (l := l) (by rw [HN.out]; rfl)
      have hpart := hBl.part p k hpk
      have hnum := PBits.num_mid l p k (by rw [HN.out]; exact hpk)
      have hnlt : PBits.num ((l.drop p).take k) < 256 := by
        have h1 := PBits.num_lt ((l.drop p).take k)
        have h2 : ((l.drop p).take k).length ≤ 8 := by rw [List.length_take]; omega
        exact Nat.lt_of_lt_of_le h1 (Nat.pow_le_pow_right (n := 2) (by decide) h2)
      have hbyte : PBits.num ((l.drop p).take k) = PBits.num l / 256 ^ j % 256 := by
        rw [hnum, p256, hp]
        by_cases h8 : p + 8 ≤ n
        · obtain rfl : k = 8 := by omega
          rfl
        · have h1 := PBits.num_lt (l.drop p)
          rw [PBits.num_drop] at h1
          have h2 : (l.drop p).length = k := by rw [List.length_drop, HN.out]; omega
          rw [h2] at h1
          have h3 : (2 : Nat) ^ k ≤ 256 := Nat.pow_le_pow_right (n := 2) (by decide) hk8
          rw [Nat.mod_eq_of_lt h1, Nat.mod_eq_of_lt (by omega)]
      obtain ⟨x, hx⟩ : ∃ x, PBits.num ((l.drop p).take k) = x := ⟨_, rfl⟩
      rw [hx] at hnlt hbyte
      have HBL := Lib.hid hBl
      have HX := Lib.hid hx
      have HY := Lib.hid hbyte
      have HPA := Lib.hid hpart
      have hxm : (x : Int) % 256 = x := by omega
      clear hp hnum hpart hbyte hx hBl
      by_cases h8 : (n : Int) < (p : Int) + 8
      · have hkn : p + k = n := by omega
        have e1 : (p : Int) + k = (n : Int) := by omega
        obtain ⟨u, hu, hub⟩ := slice_part A c l p k (by rw [HN.out]; exact hpk) (by rw [HN.out]; exact hc1) hc2
        rw [HN.out] at hu
        rw [e1] at hu
        clear e1
        have hbu := hub wr (by rw [HN.out]; exact HBL.out)
        have HUB := Lib.hid hub
        clear hub hk
        go_wp2_with fail
        refine (number_ok _ _ _ hbu (by rw [List.length_take]; omega)).mono ?_
        rintro _ w3 ⟨rfl, rfl⟩
        rw [HX.out]
        clear hu hbu
        go_wp2_with (at_builtin; refine wpList_append_sp rfl _ _ 22 rfl 5 i0 (.int .u8 0) 1 1 Try.underlying22 hi hz0 hz1 hz2 rfl (by decide) (.slice B j c2) j (cells8 (PBits.bytesOf (PBits.num l) j)) rfl (H2.newBk [.int .u8 (x : Int)] _).swap (some ⟨wr.heap.size, 0, none⟩) 1 1 [.int .u8 (x : Int)] rfl rfl (Rd.of_blk ((H2.newBk [.int .u8 (x : Int)] _).blk 0 rfl)) (by intro u hu; rw [List.mem_singleton.1 hu]; rfl) (by unfold maxLen; omega) (by omega) ?_)
        intro v' w' H3 _
        clear c0
        go_wp2
        go_roundw
        case rel =>
          refine ⟨j + 1, by have := HP.out; omega, by rw [← HP.out]; go_num, ?_⟩
          rw [PBits.byte_next, ← HY.out]
          have e7 : cells8 (PBits.bytesOf (PBits.num l) j ++ [UInt8.ofNat x]) = cells8 (PBits.bytesOf (PBits.num l) j) ++ [.int .u8 (x : Int)] := by
            have : (UInt8.ofNat x).toNat = x := by rw [UInt8.toNat_ofNat']; omega
            simp [cells8, this]
          rw [e7]
          exact H3.pick 4 [0, 2, 3]
        case measure => simp [intOf]; omega
      · have e1 : (p : Int) + k = (p : Int) + 8 := by omega
        obtain ⟨u, hu, hub⟩ := slice_part A c l p k (by rw [HN.out]; exact hpk) (by rw [HN.out]; exact hc1) hc2
        rw [HN.out] at hu
        rw [e1] at hu
        clear e1
        have hbu := hub wr (by rw [HN.out]; exact HBL.out)
        have HUB := Lib.hid hub
        clear hub hk
        go_wp2_with fail
        refine (number_ok _ _ _ hbu (by rw [List.length_take]; omega)).mono ?_
        rintro _ w3 ⟨rfl, rfl⟩
        rw [HX.out]
        clear hu hbu
        go_wp2_with (at_builtin; refine wpList_append_sp rfl _ _ 22 rfl 5 i0 (.int .u8 0) 1 1 Try.underlying22 hi hz0 hz1 hz2 rfl (by decide) (.slice B j c2) j (cells8 (PBits.bytesOf (PBits.num l) j)) rfl (H2.newBk [.int .u8 (x : Int)] _).swap (some ⟨wr.heap.size, 0, none⟩) 1 1 [.int .u8 (x : Int)] rfl rfl (Rd.of_blk ((H2.newBk [.int .u8 (x : Int)] _).blk 0 rfl)) (by intro u hu; rw [List.mem_singleton.1 hu]; rfl) (by unfold maxLen; omega) (by omega) ?_)
        intro v' w' H3 _
        clear c0
        go_wp2
        go_roundw
        case rel =>
          refine ⟨j + 1, by have := HP.out; omega, by rw [← HP.out]; go_num, ?_⟩
          rw [PBits.byte_next, ← HY.out]
          have e7 : cells8 (PBits.bytesOf (PBits.num l) j ++ [UInt8.ofNat x]) = cells8 (PBits.bytesOf (PBits.num l) j) ++ [.int .u8 (x : Int)] := by
            have : (UInt8.ofNat x).toNat = x := by rw [UInt8.toNat_ofNat']; omega
            simp [cells8, this]
          rw [e7]
          exact H3.pick 4 [0, 2, 3]
        case measure => simp [intOf]; omega
    · have hlt' : ¬ (p : Int) < n := by omega
      obtain rfl : j = (n + 7) / 8 := by omega
      go_wp2
      go_ret
      refine ⟨_, rfl, ?_⟩
      rw [HN.out]
      exact HG.out _ _ _ _ H2
theorem fbytes_bad (g : Nat) (m : Int) (at_ : Nat) (w : World) (c1 : w.cell? ⟨g, 1, none⟩ = some (.int .i64 (at_ : Int))) (h : m < 0 ∨ at_ % 8 ≠ 0) :
    Calls Try.prog 56 #[.pointer (some ⟨g, 0, none⟩), .int .i64 m] w fun e w' => e = .returned (.tuple #[.slice none 0 0, .int .i64 1]) ∧ w = w' := by
  go_enter Try.func56, Try.ntmps56
  by_cases k2 : m < 0
  · go_wp2
    go_ret2
    exact ⟨rfl, rfl⟩
  · have k1 : ((at_ : Int) % 8 != 0) = true := by rw [bne_iff_ne]; omega
    go_wp2
    go_ret2
    exact ⟨rfl, rfl⟩
theorem fbytes_short (g : Nat) (l : List Bool) (q k : Nat) {w0 w : World} {L : List Pr} (H : Sp w0 (Rw g l (8 * q) :: L) w) (hq : 8 * q ≤ l.length) (hs : (l.length - 8 * q) / 8 < k) (hl : l.length ≤ 1000000) :
    Calls Try.prog 56 #[.pointer (some ⟨g, 0, none⟩), .int .i64 (k : Int)] w fun e w' => e = .returned (.tuple #[.slice none 0 0, .int .i64 4]) ∧ Keep w w' := by
  obtain ⟨A, c, _, _, _, c1, _⟩ := rw_open H
  have k2 : ¬ (k : Int) < 0 := by omega
  have k1 : (((8 * q : Nat) : Int) % 8 != 0) = false := by rw [bne_eq_false_iff_eq]; omega
  go_enter Try.func56, Try.ntmps56
  go_wp2_with fail
  refine (fleft_ok g l (8 * q) H hq (by omega)).mono ?_
  rintro e w2 ⟨rfl, hK⟩
  have k3 : ((l.length - 8 * q : Nat) : Int) / 8 < k := by omega
  go_wp2
  go_ret2
  exact ⟨rfl, hK⟩
set_option maxRecDepth 100000 in
theorem fbytes_ok (g : Nat) (l : List Bool) (q k : Nat) {w0 w : World} {L : List Pr} (H : Sp w0 (Rw g l (8 * q) :: L) w) (hs : 8 * q + 8 * k ≤ l.length) (hl : l.length ≤ 1000000) :
    Calls Try.prog 56 #[.pointer (some ⟨g, 0, none⟩), .int .i64 (k : Int)] w (Ret fun v w' => ∃ u, v = .tuple #[u, .int .i64 0] ∧ Sp w0 (Rw g l (8 * (q + k)) :: L) w' ∧ Byt w' u (((PBits.bytesOf (PBits.num l) ((l.length + 7) / 8)).drop q).take k)) := by
  obtain ⟨A, c, _, _, _, c1, _⟩ := rw_open H
  have k2 : ¬ (k : Int) < 0 := by omega
  have k1 : (((8 * q : Nat) : Int) % 8 != 0) = false := by rw [bne_eq_false_iff_eq]; omega
  go_enter Try.func56, Try.ntmps56
  go_wp2_with fail
  refine (fleft_ok g l (8 * q) H (by omega) (by omega)).mono ?_
  rintro e w2 ⟨rfl, hK⟩
  replace H := hK.sep H
  clear hK c1 k1
  have k3 : ¬ ((l.length - 8 * q : Nat) : Int) / 8 < k := by omega
  go_wp2_with fail
  refine (fdone_ok g l (8 * q) H hl).mono ?_
  rintro e w3 ⟨v, rfl, H3⟩
  obtain ⟨M, hM⟩ : ∃ M, (l.length + 7) / 8 = M := ⟨_, rfl⟩
  rw [hM] at H3
  obtain ⟨R, hR⟩ : ∃ R, PBits.bytesOf (PBits.num l) M = R := ⟨_, rfl⟩
  have hRl : R.length = M := by rw [← hR]; exact PBits.bytesOf_length _ _
  rw [hR] at H3
  have hMR : PBits.bytesOf (PBits.num l) ((l.length + 7) / 8) = R := by rw [hM, hR]
  have HMR := Lib.hid hMR
  clear hMR
  have hqk : q + k ≤ M := by omega
  have HRL := Lib.hid hRl
  clear hM hR hRl
  obtain ⟨B, d, rfl, hd1, hd2⟩ := Row.form H3 0 rfl
  unfold maxLen at hd2
  have hMb : M ≤ d := hd1
  obtain ⟨A2, c2, H4, _, _, c1, _, z1, _⟩ := rw_open H3.swap
  have hqb : (q : Int) ≤ 1000000 := by omega
  have hkb : (k : Int) ≤ 1000000 := by omega
  have t2 : ((8 * q : Nat) : Int) / 8 = q := by omega
  have t3 : (q : Int) + k ≤ d := by omega
  have t4 : (0 : Int) ≤ (q : Int) + k := by omega
  have t5 : ((8 * q : Nat) : Int) ≤ 1000000 := by omega
  have e8 : ((8 * (q + k) : Nat) : Int) = ((8 * q : Nat) : Int) + 8 * k := by omega
  obtain ⟨s, hs8⟩ : ∃ s, 8 * q = s := ⟨_, rfl⟩
  rw [hs8] at c1 t2 t5 e8 H4
  have HE := Lib.hid e8
  clear e8 hs8
  have H5 := H4.set 1 (.int .i64 ((s : Int) + 8 * k))
  have fin : ∀ w', Sp w0 (Bk g 66 ([.slice A2 l.length c2, .int .i64 (s : Int)].set 1 (.int .i64 ((s : Int) + 8 * k))) :: Row 4 1 (.slice A2 l.length c2) l.length (cellsB l) :: Row 5 1 (.slice B M d) M (cells8 R) :: L) w' → Sp w0 (Rw g l (8 * (q + k)) :: L) w' := fun w' H' => (rw_shut (v := .slice A2 l.length c2) (by unfold RwB; rw [HE.out]; exact H')).pick 2 [0]
  have FIN := Lib.hid fin
  have hBy : Byt _ (.slice B M d) R := H5.row_byt 2 (e := 5) (l := R) (by rw [HRL.out]; rfl)
  have HBY := Lib.hid hBy
  clear fin hBy
  by_cases hcq : d = q
  · have hk0 : k = 0 := by omega
    have HK0 := Lib.hid hk0
    clear hk0
    go_wp2
    go_ret2
    refine ⟨_, rfl, _, rfl, FIN.out _ H5, ?_⟩
    rw [HMR.out, HK0.out, List.take_zero]
    show Byt _ (.slice B (q + 0 - q) _) []
    rw [Nat.add_sub_cancel_left]
    exact ⟨B, _, rfl, Rd.nil, Nat.zero_le _, by unfold maxLen; omega⟩
  · go_wp2
    go_ret2
    refine ⟨_, rfl, _, rfl, FIN.out _ H5, ?_⟩
    rw [HMR.out]
    show Byt _ (.slice (B.map (·.add q)) (q + k - q) (d - q)) _
    rw [Nat.add_sub_cancel_left]
    exact ((HBY.out.drop q (by omega)).take k (by rw [List.length_drop, HRL.out]; omega))
end Go.Proofs.Ytkgnihpcldgedaa
