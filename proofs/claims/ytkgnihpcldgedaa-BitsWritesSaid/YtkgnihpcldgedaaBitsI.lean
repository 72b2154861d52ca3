/- BitsI: the document's own answer for bits: Put, Code, Fill, Lay, Reverse. -/
import Derived.Test.YtkgnihpcldgedaaBitsH
namespace Go.Proofs.Ytkgnihpcldgedaa
open Go.RowKit
theorem cellsB_append (a b : List Bool) : cellsB (a ++ b) = cellsB a ++ cellsB b := by simp [cellsB]
theorem fput_bad (g : Nat) (n : Nat) (m : Int) (w : World) (h : m < 0 ∨ 57 < m) :
    Calls Try.prog 42 #[.pointer (some ⟨g, 0, none⟩), .int .u64 (n : Int), .int .i64 m] w fun e w' => e = .returned (.int .i64 1) ∧ w = w' := by
  go_enter Try.func42, Try.ntmps42
  by_cases k2 : m < 0
  · go_wp2
    go_ret
    exact ⟨rfl, rfl⟩
  · have k1 : 57 < m := by omega
    go_wp2
    go_ret
    exact ⟨rfl, rfl⟩
theorem fcode_bad (g : Nat) (n : Nat) (m : Int) (w : World) (h : m < 0 ∨ 57 < m) :
    Calls Try.prog 43 #[.pointer (some ⟨g, 0, none⟩), .int .u64 (n : Int), .int .i64 m] w fun e w' => e = .returned (.int .i64 1) ∧ w = w' := by
  go_enter Try.func43, Try.ntmps43
  by_cases k2 : m < 0
  · go_wp2
    go_ret
    exact ⟨rfl, rfl⟩
  · have k1 : 57 < m := by omega
    go_wp2
    go_ret
    exact ⟨rfl, rfl⟩
theorem fput_big (g n k : Nat) {w0 w : World} {L : List Pr} (H : Sp w0 L w) (hn : n < 18446744073709551616) (hk : k ≤ 57) (h : ¬ n < 2 ^ k) :
    Calls Try.prog 42 #[.pointer (some ⟨g, 0, none⟩), .int .u64 (n : Int), .int .i64 (k : Int)] w fun e w' => e = .returned (.int .i64 1) ∧ Sp w0 L w' := by
  have k1 : ¬ (57 : Int) < k := by omega
  have k2 : ¬ (k : Int) < 0 := by omega
  have hz : (n / 2 ^ k == 0) = false := by
    rw [beq_eq_false_iff_ne]; intro e
    exact h ((Nat.div_eq_zero_iff_lt (Nat.two_pow_pos k)).1 e)
  go_enter Try.func42, Try.ntmps42
  go_wp2_with fail
  refine (bits_ok n k k H hn (by omega) (by omega)).mono ?_
  rintro _ w2 ⟨_, rfl, u, rfl, H2⟩
  rw [hz]
  clear hz
  go_wp2
  go_ret
  exact ⟨rfl, H2.tail⟩
theorem fcode_big (g n k : Nat) {w0 w : World} {L : List Pr} (H : Sp w0 L w) (hn : n < 18446744073709551616) (hk : k ≤ 57) (h : ¬ n < 2 ^ k) :
    Calls Try.prog 43 #[.pointer (some ⟨g, 0, none⟩), .int .u64 (n : Int), .int .i64 (k : Int)] w fun e w' => e = .returned (.int .i64 1) ∧ Sp w0 L w' := by
  have k1 : ¬ (57 : Int) < k := by omega
  have k2 : ¬ (k : Int) < 0 := by omega
  have hz : (n / 2 ^ k == 0) = false := by
    rw [beq_eq_false_iff_ne]; intro e
    exact h ((Nat.div_eq_zero_iff_lt (Nat.two_pow_pos k)).1 e)
  go_enter Try.func43, Try.ntmps43
  go_wp2_with fail
  refine (bits_ok n k k H hn (by omega) (by omega)).mono ?_
  rintro _ w2 ⟨_, rfl, u, rfl, H2⟩
  rw [hz]
  clear hz
  go_wp2
  go_ret
  exact ⟨rfl, H2.tail⟩
set_option maxRecDepth 100000 in
theorem fput_ok (g : Nat) (l : List Bool) (at_ n k : Nat) {w0 w : World} {L : List Pr} (H : Sp w0 (Rw g l at_ :: L) w) (hk : k ≤ 57) (h : n < 2 ^ k) (hl : l.length ≤ 1000000) :
    Calls Try.prog 42 #[.pointer (some ⟨g, 0, none⟩), .int .u64 (n : Int), .int .i64 (k : Int)] w fun e w' => e = .returned (.int .i64 0) ∧ Sp w0 (Rw g (l ++ PBits.bitsOf n k) at_ :: L) w' := by
  have k1 : ¬ (57 : Int) < k := by omega
  have k2 : ¬ (k : Int) < 0 := by omega
  have hn : n < 18446744073709551616 := Nat.lt_of_lt_of_le h (two64 _ (by omega))
  have hz : (n / 2 ^ k == 0) = true := by
    rw [beq_iff_eq]
    exact Nat.div_eq_of_lt h
  obtain ⟨i0, hi, hz0, hz1, hz2⟩ := info_parts infoB
  go_enter Try.func42, Try.ntmps42
  go_wp2_with fail
  refine (bits_ok n k k H hn (by omega) (by omega)).mono ?_
  rintro _ w2 ⟨_, rfl, u, rfl, H2⟩
  rw [hz]
  clear hz
  obtain ⟨A, c, H3, _, c0, _, z0, _⟩ := rw_open H2.swap
  replace H3 : Sp w0 (Row 4 1 (.slice A l.length c) l.length (cellsB l) :: RwB g (.slice A l.length c) at_ :: Row 4 1 u k (cellsB (PBits.bitsOf n k)) :: L) w2 := H3.pick 3 [1, 0, 2]
  obtain ⟨B, d, rfl, hr, _, _⟩ := H3.row_rd 2 rfl
  have HR := Lib.hid hr
  clear hr
  go_wp2_with (at_builtin; refine wpList_append_sp rfl _ _ 64 rfl 4 i0 (.bool false) 1 1 Try.underlying64 hi hz0 hz1 hz2 rfl (by decide) (.slice A l.length c) l.length (cellsB l) rfl H3 B k d (cellsB (PBits.bitsOf n k)) rfl (by simp [cellsB, PBits.bitsOf_length]) HR.out (cellsB_one _) (by unfold maxLen; omega) (by omega) ?_)
  intro v' w3 H4 _
  clear c0 z0
  obtain ⟨A1, c1, rfl, _, _⟩ := Row.form H4 0 rfl
  have c0 : w3.cell? ⟨g, 0, none⟩ = some (.slice A l.length c) := H4.cell 1 rfl 0
  have z0 : w3.frozen? ⟨g, 0, none⟩ = false := H4.frozen 1 rfl 0
  go_wp2
  go_ret
  refine ⟨rfl, ?_⟩
  have e : (l ++ PBits.bitsOf n k).length = l.length + k := by simp [PBits.bitsOf_length]
  have H5 := (H4.pick 3 [1, 0]).set 0 (.slice A1 (l.length + k) c1)
  refine rw_shut (v := .slice A1 (l.length + k) c1) ?_
  rw [e, cellsB_append]
  exact H5
set_option maxRecDepth 100000 in
theorem ffill_ok (g : Nat) (l : List Bool) (at_ : Nat) {w0 w : World} {L : List Pr} (H : Sp w0 (Rw g l at_ :: L) w) (hl : l.length ≤ 1000000) :
    Calls Try.prog 45 #[.pointer (some ⟨g, 0, none⟩)] w fun e w' => e = .returned (.tuple #[]) ∧ Sp w0 (Rw g (l ++ List.replicate ((8 - l.length % 8) % 8) false) at_ :: L) w' := by
  obtain ⟨i0, hi, hz0, hz1, hz2⟩ := info_parts infoB
  obtain ⟨n, hn⟩ : ∃ n, l.length = n := ⟨_, rfl⟩
  rw [hn] at hl ⊢
  obtain ⟨v, H⟩ := H.unex
  replace H := H.unstar
  rw [hn] at H
  have HN := Lib.hid hn
  clear hn
  go_enter Try.func45, Try.ntmps45
  go_wp2
  go_loopw [] (fun wr => ∃ (t : Nat) (v : Value), t ≤ (8 - n % 8) % 8 ∧ Sp w0 (RwB g v at_ :: Row 4 1 v (n + t) (cellsB (l ++ List.replicate t false)) :: L) wr) (fun wr => match wr.cell? ⟨g, 0, none⟩ with | some (.slice _ q _) => 2000000 - q | _ => 0)
  case atStart => exact ⟨0, v, Nat.zero_le _, by simpa using H⟩
  case round =>
    obtain ⟨t, v', ht, H2⟩ := hrel
    obtain ⟨A, c, rfl, _, _⟩ := Row.form H2 1 rfl
    have c0 : wr.cell? ⟨g, 0, none⟩ = some (.slice A (n + t) c) := H2.cell 0 rfl 0
    by_cases h8 : (n + t) % 8 = 0
    · have h8' : (((n + t : Nat) : Int) % 8 != 0) = false := by rw [bne_eq_false_iff_eq]; omega
      go_wp2
      obtain rfl : t = (8 - n % 8) % 8 := by omega
      go_end0
      refine ⟨rfl, rw_shut (v := .slice A (n + (8 - n % 8) % 8) c) ?_⟩
      rw [List.length_append, List.length_replicate, HN.out]
      exact H2
    · have h8' : (((n + t : Nat) : Int) % 8 != 0) = true := by rw [bne_iff_ne]; omega
      have hq := c0
      have HQ := Lib.hid hq
      clear hq
      go_wp2_with (at_builtin; refine wpList_append_sp rfl _ _ 64 rfl 4 i0 (.bool false) 1 1 Try.underlying64 hi hz0 hz1 hz2 rfl (by decide) (.slice A (n + t) c) (n + t) (cellsB (l ++ List.replicate t false)) rfl ((H2.newBk [.bool false] _).pick 3 [2, 0, 1]) (some ⟨wr.heap.size, 0, none⟩) 1 1 [.bool false] rfl rfl (Rd.of_blk ((H2.newBk [.bool false] _).blk 0 rfl)) (by intro u hu; rw [List.mem_singleton.1 hu]; rfl) (by unfold maxLen; omega) (by omega) ?_)
      intro v1 w3 H4 _
      clear c0
      replace H4 : Sp w0 (RwB g (.slice A (n + t) c) at_ :: Row 4 1 v1 (n + t + 1) (cellsB (l ++ List.replicate t false) ++ [.bool false]) :: L) w3 := H4.pick 3 [2, 0]
      obtain ⟨A1, c1, rfl, _, _⟩ := Row.form H4 1 rfl
      have c0 : w3.cell? ⟨g, 0, none⟩ = some (.slice A (n + t) c) := H4.cell 0 rfl 0
      have z0 : w3.frozen? ⟨g, 0, none⟩ = false := H4.frozen 0 rfl 0
      have H5 := H4.set 0 (.slice A1 (n + t + 1) c1)
      have m2 := H5.cell 0 rfl 0
      go_wp2
      go_roundw
      case rel =>
        refine ⟨t + 1, .slice A1 (n + t + 1) c1, by omega, ?_⟩
        have e : cellsB (l ++ List.replicate (t + 1) false) = cellsB (l ++ List.replicate t false) ++ [.bool false] := by
          rw [List.replicate_succ', ← List.append_assoc]; simp [cellsB]
        rw [e]
        exact H5
      case measure =>
        simp only [HQ.out, m2]
        simp
        omega
theorem Ent.of_same {w1 : World} {L : List Pr} {φ : World → Prop} (k : Nat) (hk : L[k]? = some (Same w1)) (h : ∀ w, (∀ b, b < w1.heap.size → w.heap[b]? = w1.heap[b]?) → φ w) : Ent L φ := fun w0 w H => h w fun b hb => by
  obtain ⟨_, _, _, own, hs⟩ := H
  have h5 := hs k _ hk b hb
  rw [Array.getElem?_eq_getElem hb] at h5 ⊢
  exact (rs_some h5).2
theorem rev_snoc (l : List Bool) (i : Nat) (h : i < l.length) : (l.drop i).reverse = (l.drop (i + 1)).reverse ++ [l[i]] := by
  rw [List.drop_eq_getElem_cons h, List.reverse_cons]
set_option maxRecDepth 100000 in
set_option maxHeartbeats 1000000 in
theorem fcode_ok (g : Nat) (l : List Bool) (at_ n k : Nat) {w0 w : World} {L : List Pr} (H : Sp w0 (Rw g l at_ :: L) w) (hk : k ≤ 57) (h : n < 2 ^ k) (hl : l.length ≤ 1000000) :
    Calls Try.prog 43 #[.pointer (some ⟨g, 0, none⟩), .int .u64 (n : Int), .int .i64 (k : Int)] w fun e w' => e = .returned (.int .i64 0) ∧ Sp w0 (Rw g (l ++ (PBits.bitsOf n k).reverse) at_ :: L) w' := by
  have k1 : ¬ (57 : Int) < k := by omega
  have k2 : ¬ (k : Int) < 0 := by omega
  have hn : n < 18446744073709551616 := Nat.lt_of_lt_of_le h (two64 _ (by omega))
  have hz : (n / 2 ^ k == 0) = true := by
    rw [beq_iff_eq]
    exact Nat.div_eq_of_lt h
  obtain ⟨i0, hi, hz0, hz1, hz2⟩ := info_parts infoB
  go_enter Try.func43, Try.ntmps43
  go_wp2_with fail
  refine (bits_ok n k k H hn (by omega) (by omega)).mono ?_
  rintro _ w2 ⟨_, rfl, u, rfl, H2⟩
  rw [hz]
  clear hz
  obtain ⟨bs, hbs⟩ : ∃ bs, bs = PBits.bitsOf n k := ⟨_, rfl⟩
  have hbl : bs.length = k := by rw [hbs]; exact PBits.bitsOf_length _ _
  rw [← hbs] at H2
  have HBS := Lib.hid hbs
  have HBL := Lib.hid hbl
  clear hbs hbl
  obtain ⟨N, hN⟩ : ∃ N, l.length = N := ⟨_, rfl⟩
  rw [hN] at hl
  have HN := Lib.hid hN
  replace H2 := H2.swap
  obtain ⟨v, H2⟩ := H2.unex
  replace H2 := H2.unstar
  rw [hN] at H2
  clear hN
  obtain ⟨U, d, rfl, _, _⟩ := Row.form H2 2 rfl
  go_wp2
  go_loopw [9] (fun i wr => ∃ (j : Nat) (v : Value), j ≤ k ∧ i = .int .i64 ((j : Int) - 1) ∧ Sp w0 (RwB g v at_ :: Row 4 1 v (N + (k - j)) (cellsB (l ++ (bs.drop j).reverse)) :: Row 4 1 (.slice U k d) k (cellsB bs) :: L) wr) (fun i _ => (intOf i + 1).toNat)
  case atStart => exact ⟨k, v, Nat.le_refl _, rfl, by rw [List.drop_of_length_le (by rw [HBL.out]; exact Nat.le_refl _)]; simpa using H2⟩
  case round =>
    obtain ⟨j, v', hj, rfl, H3⟩ := hrel
    by_cases hlt : 0 < j
    · obtain ⟨i, rfl⟩ : ∃ i, j = i + 1 := ⟨j - 1, by omega⟩
      have ei : (((i + 1 : Nat) : Int) - 1) = (i : Int) := by omega
      rw [ei]
      have hil : i < bs.length := by rw [HBL.out]; omega
      have h0 : (0 : Int) ≤ (i : Int) := by omega
      have h1 : (i : Int) < k := by omega
      obtain ⟨ad, rfl⟩ : ∃ ad, U = some ad := by
        obtain ⟨A, c, e, hr, _, _⟩ := H3.row_rd 2 rfl
        obtain ⟨ad, e2, _⟩ := hr.atB hil
        injection e with e
        exact ⟨ad, e.trans e2⟩
      obtain ⟨b, hb⟩ : ∃ b, bs[i] = b := ⟨_, rfl⟩
      have hrv := rev_snoc bs i hil
      rw [hb] at hrv
      have HRV := Lib.hid hrv
      have HCE : Hid (∀ (L2 : List Pr) (wx : World), Sp w0 (Row 4 1 (.slice (some ad) k d) k (cellsB bs) :: L2) wx → wx.cell? (ad.add i) = some (.bool b)) := fun L2 wx Hx => by
        obtain ⟨A, c, e, hr, _, _⟩ := Hx.row_rd 0 rfl
        obtain ⟨ad2, e2, hc⟩ := hr.atB hil
        injection e with e
        rw [← e] at e2
        injection e2 with e2
        rw [e2, ← hb]; exact hc
      obtain ⟨m, hm⟩ : ∃ m, m = N + (k - (i + 1)) := ⟨_, rfl⟩
      obtain ⟨ys, hys⟩ : ∃ ys, ys = cellsB (l ++ (bs.drop (i + 1)).reverse) := ⟨_, rfl⟩
      rw [← hm, ← hys] at H3
      have HM := Lib.hid hm
      have HYS := Lib.hid hys
      have hmb : m ≤ 1000057 := by omega
      clear hb hrv hm hys ei
      obtain ⟨V, c, rfl, _, _⟩ := Row.form H3 1 rfl
      go_wp2_with fail
      refine wp_region_sp (L := L) (fun ix vx => ([(· = .pointer (some ⟨g, 0, none⟩)), (· = .pointer (some ⟨g, 0, none⟩)), (· = .pointer (some ⟨g, 0, none⟩)), (· = .pointer (some ⟨g, 0, none⟩)), (· = .slice V m c), (· = .slice (some ad) k d), (· = .int .i64 (i : Int)), (· = .pointer (some (ad.add i))), (· = .bool b), (fun v => v = .slice (some ⟨v.ownBlock.getD 0, 0, none⟩) 1 1), (fun _ => True), (· = .pointer (some ⟨g, 0, none⟩)), (· = .pointer (some ⟨g, 0, none⟩)), (· = undef)] : List (Value → Prop)).getD ix (fun _ => True) vx)
        (fun ix vx => ([fun _ => [], fun _ => [], fun _ => [], fun _ => [], fun _ => [], fun _ => [], fun _ => [], fun _ => [], fun _ => [], fun v => [Bk (v.ownBlock.getD 0) 4 [.bool b]], fun v => [Row 4 1 v (m + 1) (ys ++ [.bool b])], fun _ => [], fun _ => [], fun _ => [Ex fun u => Star (RwB g u at_) (Row 4 1 u (m + 1) (ys ++ [.bool b])), Row 4 1 (.slice (some ad) k d) k (cellsB bs)]] : List (Value → List Pr)).getD ix (fun _ => []) vx) (fun ix => ([[], [], [], [], [], [], [], [], [], [], [Row 4 1 (.slice V m c) m ys], [], [], [RwB g (.slice V m c) at_, Row 4 1 (.slice (some ad) k d) k (cellsB bs)]] : List (List Pr)).getD ix []) 14 43
        [some 30, some 31, some 32, some 33, some 34, some 35, some 36, some 37, some 38, some 39, some 40, some 41, some 42, none]
        [[], [], [1], [2], [3], [], [], [5, 6], [7], [8], [4, 9], [0, 0, 1, 2, 3, 4, 5, 6, 7, 8, 9, 10], [11, 0, 1, 2, 3, 4, 5, 6, 7, 8, 9, 10], [12, 10, 10, 0, 1, 2, 3, 4, 5, 6, 7, 8, 9, 10]]
        [[], [], [1], [1, 2], [1, 2, 3], [], [], [5, 6], [5, 6, 7], [5, 6, 7, 8], [1, 2, 3, 4, 5, 6, 7, 8, 9], [0, 1, 2, 3, 4, 5, 6, 7, 8, 9, 10], [0, 1, 2, 3, 4, 5, 6, 7, 8, 9, 10, 11], [0, 1, 2, 3, 4, 5, 6, 7, 8, 9, 10, 11, 12]]
        [[], [], [], [], [], [], [], [], [], [], [9], [], [], [10]]
        [[], [], [], [], [13], [], [], [], [13], [], [], [], [], []]
        [(0, .pointer (some ⟨g, 0, none⟩)), (7, .slice (some ad) k d), (9, .int .i64 (i : Int))]
        (by kernel_rfl) rfl (by decide) (by rfl) rfl (by decide +kernel) (by decide +kernel) (by rfl) rfl rfl (by decide) (by simp) (by rfl) ((H3.pick 3 [1, 0, 2])) ?hstep ?hend
      case hstep =>
        refine ⟨?_, ⟨?_, ⟨?_, ⟨?_, ⟨?_, ⟨?_, ⟨?_, ⟨?_, ⟨?_, ⟨?_, ⟨?_, ⟨?_, ⟨?_, ⟨?_, trivial⟩⟩⟩⟩⟩⟩⟩⟩⟩⟩⟩⟩⟩⟩
        · intro x wx A rest hN hS hE H K hK0
          have e0 : A.tmps[0]?.getD undef = .pointer (some ⟨g, 0, none⟩) := hN (0, .pointer (some ⟨g, 0, none⟩)) (by simp)
          replace H : Sp w0 (rest) wx := H
          have hK : Hid (∀ (v : Value) (w' : World), v = .pointer (some ⟨g, 0, none⟩) → Sp w0 (rest) w' → K (A.put (some 30) v) w') := Lib.hid hK0
          clear hK0 hN hS hE
          change Oper.wp _ _ A wx K _
          go_step
          exact hK.out _ _ rfl (H)
        · intro x wx A rest hN hS hE H K hK0
          have e0 : A.tmps[0]?.getD undef = .pointer (some ⟨g, 0, none⟩) := hN (0, .pointer (some ⟨g, 0, none⟩)) (by simp)
          replace H : Sp w0 (rest) wx := H
          have hK : Hid (∀ (v : Value) (w' : World), v = .pointer (some ⟨g, 0, none⟩) → Sp w0 (rest) w' → K (A.put (some 31) v) w') := Lib.hid hK0
          clear hK0 hN hS hE
          change Oper.wp _ _ A wx K _
          go_step
          exact hK.out _ _ rfl (H)
        · intro x wx A rest hN hS hE H K hK0
          have e31 : A.tmps[31]?.getD undef = .pointer (some ⟨g, 0, none⟩) := ((hS 1 (by decide)).2 31 rfl).trans (hS 1 (by decide)).1
          replace H : Sp w0 (rest) wx := H
          have hK : Hid (∀ (v : Value) (w' : World), v = .pointer (some ⟨g, 0, none⟩) → Sp w0 (rest) w' → K (A.put (some 32) v) w') := Lib.hid hK0
          clear hK0 hN hS hE
          change Oper.wp _ _ A wx K _
          go_step
          exact hK.out _ _ rfl (H)
        · intro x wx A rest hN hS hE H K hK0
          have e32 : A.tmps[32]?.getD undef = .pointer (some ⟨g, 0, none⟩) := ((hS 2 (by decide)).2 32 rfl).trans (hS 2 (by decide)).1
          replace H : Sp w0 (rest) wx := H
          have hK : Hid (∀ (v : Value) (w' : World), v = .pointer (some ⟨g, 0, none⟩) → Sp w0 (rest) w' → K (A.put (some 33) v) w') := Lib.hid hK0
          clear hK0 hN hS hE
          change Oper.wp _ _ A wx K _
          go_step
          exact hK.out _ _ rfl (H)
        · intro x wx A rest hN hS hE H K hK0
          have e33 : A.tmps[33]?.getD undef = .pointer (some ⟨g, 0, none⟩) := ((hS 3 (by decide)).2 33 rfl).trans (hS 3 (by decide)).1
          replace H : Sp w0 ((RwB g (.slice V m c) at_) :: (Row 4 1 (.slice (some ad) k d) k (cellsB bs)) :: rest) wx := H
          have hK : Hid (∀ (v : Value) (w' : World), v = .slice V m c → Sp w0 ((RwB g (.slice V m c) at_) :: (Row 4 1 (.slice (some ad) k d) k (cellsB bs)) :: rest) w' → K (A.put (some 34) v) w') := Lib.hid hK0
          clear hK0 hN hS hE
          have c : wx.cell? ⟨g, 0, none⟩ = some (.slice V m c) := H.cell 0 rfl 0
          change Oper.wp _ _ A wx K _
          go_step
          exact hK.out _ _ rfl (H)
        · intro x wx A rest hN hS hE H K hK0
          have e7 : A.tmps[7]?.getD undef = .slice (some ad) k d := hN (7, .slice (some ad) k d) (by simp)
          replace H : Sp w0 (rest) wx := H
          have hK : Hid (∀ (v : Value) (w' : World), v = .slice (some ad) k d → Sp w0 (rest) w' → K (A.put (some 35) v) w') := Lib.hid hK0
          clear hK0 hN hS hE
          change Oper.wp _ _ A wx K _
          go_step
          exact hK.out _ _ rfl (H)
        · intro x wx A rest hN hS hE H K hK0
          have e9 : A.tmps[9]?.getD undef = .int .i64 (i : Int) := hN (9, .int .i64 (i : Int)) (by simp)
          replace H : Sp w0 (rest) wx := H
          have hK : Hid (∀ (v : Value) (w' : World), v = .int .i64 (i : Int) → Sp w0 (rest) w' → K (A.put (some 36) v) w') := Lib.hid hK0
          clear hK0 hN hS hE
          change Oper.wp _ _ A wx K _
          go_step
          exact hK.out _ _ rfl (H)
        · intro x wx A rest hN hS hE H K hK0
          have e35 : A.tmps[35]?.getD undef = .slice (some ad) k d := ((hS 5 (by decide)).2 35 rfl).trans (hS 5 (by decide)).1
          have e36 : A.tmps[36]?.getD undef = .int .i64 (i : Int) := ((hS 6 (by decide)).2 36 rfl).trans (hS 6 (by decide)).1
          replace H : Sp w0 (rest) wx := H
          have hK : Hid (∀ (v : Value) (w' : World), v = .pointer (some (ad.add i)) → Sp w0 (rest) w' → K (A.put (some 37) v) w') := Lib.hid hK0
          clear hK0 hN hS hE
          change Oper.wp _ _ A wx K _
          go_step
          exact hK.out _ _ rfl (H)
        · intro x wx A rest hN hS hE H K hK0
          have e37 : A.tmps[37]?.getD undef = .pointer (some (ad.add i)) := ((hS 7 (by decide)).2 37 rfl).trans (hS 7 (by decide)).1
          replace H : Sp w0 ((RwB g (.slice V m c) at_) :: (Row 4 1 (.slice (some ad) k d) k (cellsB bs)) :: rest) wx := H
          have hK : Hid (∀ (v : Value) (w' : World), v = .bool b → Sp w0 ((RwB g (.slice V m c) at_) :: (Row 4 1 (.slice (some ad) k d) k (cellsB bs)) :: rest) w' → K (A.put (some 38) v) w') := Lib.hid hK0
          clear hK0 hN hS hE
          have c : wx.cell? (ad.add i) = some (.bool b) := HCE.out _ _ H.tail
          change Oper.wp _ _ A wx K _
          go_step
          exact hK.out _ _ rfl (H)
        · intro x wx A rest hN hS hE H K hK0
          have e38 : A.tmps[38]?.getD undef = .bool b := ((hS 8 (by decide)).2 38 rfl).trans (hS 8 (by decide)).1
          replace H : Sp w0 (rest) wx := H
          have hK : Hid (∀ (v : Value) (w' : World), (fun v => v = .slice (some ⟨v.ownBlock.getD 0, 0, none⟩) 1 1) v → Sp w0 ((Bk (v.ownBlock.getD 0) 4 [.bool b]) :: rest) w' → K (A.put (some 39) v) w') := Lib.hid hK0
          clear hK0 hN hS hE
          change Oper.wp _ _ A wx K _
          go_step
          exact hK.out _ _ rfl (H.newBk _ _)
        · intro x wx A rest hN hS hE H K hK0
          have e34 : A.tmps[34]?.getD undef = .slice V m c := ((hS 4 (by decide)).2 34 rfl).trans (hS 4 (by decide)).1
          have q39 := (hS 9 (by decide)).1
          have e39 : A.tmps[39]?.getD undef = x 9 := (hS 9 (by decide)).2 39 rfl
          replace H : Sp w0 ((Row 4 1 (.slice V m c) m ys) :: (Bk ((x 9).ownBlock.getD 0) 4 [.bool b]) :: rest) wx := H
          have hK : Hid (∀ (v : Value) (w' : World), (fun _ => True) v → Sp w0 ((Row 4 1 v (m + 1) (ys ++ [.bool b])) :: rest) w' → K (A.put (some 40) v) w') := Lib.hid hK0
          clear hK0 hN hS hE
          obtain ⟨g9, e9⟩ : ∃ g9, (x 9).ownBlock.getD 0 = g9 := ⟨_, rfl⟩
          rw [q39] at e39
          rw [e9] at e39 H
          change Oper.wp _ _ A wx K _
          refine wp_append_sp _ _ 64 rfl 4 i0 (.bool false) 1 1 Try.underlying64 hi hz0 hz1 hz2 rfl (by decide) (.slice V m c) m ys (ev e34) H (some ⟨g9, 0, none⟩) 1 1 [.bool b] (ev e39) rfl (Rd.of_blk (H.blk 1 rfl)) (by intro u hu; rw [List.mem_singleton.1 hu]; rfl) (by simp only [maxLen]; omega) (by omega) ?_
          intro v1 w2 H2 _
          exact hK.out _ _ trivial H2.swap.tail
        · intro x wx A rest hN hS hE H K hK0
          have e30 : A.tmps[30]?.getD undef = .pointer (some ⟨g, 0, none⟩) := ((hS 0 (by decide)).2 30 rfl).trans (hS 0 (by decide)).1
          replace H : Sp w0 (rest) wx := H
          have hK : Hid (∀ (v : Value) (w' : World), v = .pointer (some ⟨g, 0, none⟩) → Sp w0 (rest) w' → K (A.put (some 41) v) w') := Lib.hid hK0
          clear hK0 hN hS hE
          change Oper.wp _ _ A wx K _
          go_step
          exact hK.out _ _ rfl (H)
        · intro x wx A rest hN hS hE H K hK0
          have e41 : A.tmps[41]?.getD undef = .pointer (some ⟨g, 0, none⟩) := ((hS 11 (by decide)).2 41 rfl).trans (hS 11 (by decide)).1
          replace H : Sp w0 (rest) wx := H
          have hK : Hid (∀ (v : Value) (w' : World), v = .pointer (some ⟨g, 0, none⟩) → Sp w0 (rest) w' → K (A.put (some 42) v) w') := Lib.hid hK0
          clear hK0 hN hS hE
          change Oper.wp _ _ A wx K _
          go_step
          exact hK.out _ _ rfl (H)
        · intro x wx A rest hN hS hE H K hK0
          have e42 : A.tmps[42]?.getD undef = .pointer (some ⟨g, 0, none⟩) := ((hS 12 (by decide)).2 42 rfl).trans (hS 12 (by decide)).1
          have q40 := (hS 10 (by decide)).1
          have e40 : A.tmps[40]?.getD undef = x 10 := (hS 10 (by decide)).2 40 rfl
          replace H : Sp w0 ((RwB g (.slice V m c) at_) :: (Row 4 1 (.slice (some ad) k d) k (cellsB bs)) :: (Row 4 1 (x 10) (m + 1) (ys ++ [.bool b])) :: rest) wx := H
          have hK : Hid (∀ (v : Value) (w' : World), v = undef → Sp w0 ((Ex fun u => Star (RwB g u at_) (Row 4 1 u (m + 1) (ys ++ [.bool b]))) :: (Row 4 1 (.slice (some ad) k d) k (cellsB bs)) :: rest) w' → K (A.put none v) w') := Lib.hid hK0
          clear hK0 hN hS hE
          replace H := H.pick 3 [0, 2, 1]
          have c : wx.cell? ⟨g, 0, none⟩ = some (.slice V m c) := H.cell 0 rfl 0
          have z : wx.frozen? ⟨g, 0, none⟩ = false := H.frozen 0 rfl 0
          obtain ⟨A1, c1, ea, _, _⟩ := Row.form H 1 rfl
          change Oper.wp _ _ A wx K _
          rw [ea] at e40 H
          go_step
          exact hK.out _ _ rfl (Sp.ex (.slice A1 (m + 1) c1) (Sp.star (H.set 0 (.slice A1 (m + 1) c1))))
      case hend =>
        intro x wx A hA hS H
        replace H : Sp w0 ((Ex fun u => Star (RwB g u at_) (Row 4 1 u (m + 1) (ys ++ [.bool b]))) :: (Row 4 1 (.slice (some ad) k d) k (cellsB bs)) :: L) wx := H
        clear hS
        simp only [putAll, Act.put, List.setIfInBounds_toArray, List.set_cons_succ, List.set_cons_zero, Nat.reduceAdd] at hA
        subst hA
        obtain ⟨u, H⟩ := H.unex
        replace H := H.unstar
        go_wp2
        go_roundw
        case rel =>
          refine ⟨i, u, by omega, rfl, ?_⟩
          have e1 : N + (k - i) = m + 1 := by rw [HM.out]; omega
          have e2 : cellsB (l ++ (bs.drop i).reverse) = ys ++ [.bool b] := by rw [HRV.out, ← List.append_assoc, cellsB_append, ← HYS.out]; rfl
          rw [e1, e2]
          exact H
        case measure => simp [intOf]
    · obtain rfl : j = 0 := by omega
      go_wp2
      go_ret
      refine ⟨rfl, ?_⟩
      rw [List.drop_zero, HBS.out] at H3
      have e : (l ++ (PBits.bitsOf n k).reverse).length = N + (k - 0) := by rw [List.length_append, List.length_reverse, PBits.bitsOf_length, HN.out, Nat.sub_zero]
      rw [← e] at H3
      exact (rw_shut (v := v') H3).pick 2 [0]
end Go.Proofs.Ytkgnihpcldgedaa
