/- BitsS2: Put. -/
import Derived.Test.YtkgnihpcldgedaaBitsS
namespace Go.Proofs.Ytkgnihpcldgedaa
open Go.RowKit
theorem two64 (a : Nat) (h : a ≤ 64) : 2 ^ a ≤ 18446744073709551616 := by
  have := Nat.pow_le_pow_right (n := 2) (by decide) h
  exact this
theorem wait_lt (V N : Nat) (h : V < 2 ^ N) : V / 256 ^ (N / 8) < 2 ^ (N % 8) := by
  have h1 : (256 : Nat) ^ (N / 8) = 2 ^ (8 * (N / 8)) := by rw [show (256 : Nat) = 2 ^ 8 by decide, ← Nat.pow_mul]
  rw [h1]
  apply Nat.div_lt_of_lt_mul
  rw [← Nat.pow_add]
  rwa [show 8 * (N / 8) + N % 8 = N by omega]
set_option maxRecDepth 100000 in
set_option maxHeartbeats 2000000 in
theorem put_ok (g V N n k : Nat) {w0 w : World} {L : List Pr} (H : Sp w0 (Wr g V N :: L) w) (hV : V < 2 ^ N) (hk : k ≤ 57) (hn : n < 2 ^ k) (hN : N ≤ 1000000000) :
    Calls Try.prog 33 #[.pointer (some ⟨g, 0, none⟩), .int .u64 (n : Int), .int .i64 (k : Int)] w fun e w' => e = .returned (.int .i64 0) ∧ Sp w0 (Wr g (V + n * 2 ^ N) (N + k) :: L) w' := by
  obtain ⟨v, H⟩ := H.unex
  replace H := H.unstar
  have d1 : ((n : Int) / 2 ^ k == 0) = true := by
    rw [beq_iff_eq]
    have : n / 2 ^ k = 0 := Nat.div_eq_of_lt hn
    exact_mod_cast this
  have c3 : w.cell? ⟨g, 3, none⟩ = some (.bool true) := H.cell 0 rfl 3
  go_enter Try.func33, Try.ntmps33
  go_wp2_with fail
  refine (wasks_ok g k _ c3 (by omega) (by omega)).mono ?_
  rintro e w2 ⟨rfl, rfl⟩
  clear d1 c3
  obtain ⟨m, hm⟩ : ∃ m, m = N % 8 := ⟨_, rfl⟩
  obtain ⟨wt, hwt⟩ : ∃ wt, wt = V / 256 ^ (N / 8) := ⟨_, rfl⟩
  rw [← hm, ← hwt] at H
  have hm8 : m < 8 := by omega
  have hwm : wt < 2 ^ m := by rw [hwt, hm]; exact wait_lt V N hV
  have hw64 : wt < 18446744073709551616 := Nat.lt_of_lt_of_le hwm (two64 _ (by omega))
  have hx : n * 2 ^ m < 18446744073709551616 := by
    have h1 : n * 2 ^ m < 2 ^ k * 2 ^ m := Nat.mul_lt_mul_of_pos_right hn (Nat.two_pow_pos m)
    rw [← Nat.pow_add] at h1
    exact Nat.lt_of_lt_of_le h1 (two64 _ (by omega))
  have s1 : IntKind.u64.wrap ((n : Int) * 2 ^ m) = ((n * 2 ^ m : Nat) : Int) := by
    rw [show ((n : Int) * 2 ^ m) = ((n * 2 ^ m : Nat) : Int) by simp, IntKind.wrap_u64]
    generalize n * 2 ^ m = q at hx
    omega
  have s2 : bits .or .u64 (wt : Int) ((n * 2 ^ m : Nat) : Int) = ((wt + n * 2 ^ m : Nat) : Int) := by
    rw [u64_or_nat _ _ hw64 hx, Nat.mul_comm n, Nat.add_comm, Nat.two_pow_add_eq_or_of_lt hwm, Nat.or_comm]
  obtain ⟨sh, hsh⟩ : ∃ sh, sh = n * 2 ^ m := ⟨_, rfl⟩
  rw [← hsh] at s1 s2
  obtain ⟨w1, hw1⟩ : ∃ w1, w1 = wt + sh := ⟨_, rfl⟩
  rw [← hw1] at s2
  have e1 : w1 = (V + n * 2 ^ N) / 256 ^ (N / 8) := by rw [PBits.put_wait, hw1, hsh, hwt, hm]
  have e2 : m + k = N + k - 8 * (N / 8) := by rw [hm]; omega
  have E1 := Lib.hid e1
  have E2 := Lib.hid e2
  clear hsh hw1 hx hm hwt e1 e2
  have c1 : w.cell? ⟨g, 1, none⟩ = some (.int .u64 (wt : Int)) := H.cell 0 rfl 1
  have c2 : w.cell? ⟨g, 2, none⟩ = some (.int .i64 (m : Int)) := H.cell 0 rfl 2
  have z1 : w.frozen? ⟨g, 1, none⟩ = false := H.frozen 0 rfl 1
  have z2 : w.frozen? ⟨g, 2, none⟩ = false := H.frozen 0 rfl 2
  go_wp2
  go_still_tail 13, (by kernel_rfl)
  change wpList _ _ _ _ _ w.drew
  go_wp2
  go_loopw [] (fun wr => ∃ (q mm : Nat) (v : Value), N / 8 ≤ q ∧ mm + 8 * q = N + k ∧ Sp w0 (WrB g v ((V + n * 2 ^ N) / 256 ^ q) mm :: Row 5 1 v q (cells8 (PBits.bytesOf (V + n * 2 ^ N) q)) :: L) wr) (fun wr => match wr.cell? ⟨g, 2, none⟩ with | some i => (intOf i).toNat | none => 0)
  case atStart =>
    refine ⟨N / 8, m + k, v, Nat.le_refl _, by rw [E2.out]; omega, ?_⟩
    rw [PBits.put_bytes, ← E1.out]
    exact (H.drew.set 1 (.int .u64 (w1 : Int))).set 2 (.int .i64 ((m : Int) + k))
  case round =>
    obtain ⟨q, mm, v', hq1, hq2, H⟩ := hrel
    clear z1 z2 c1 c2 s1 s2
    have r2 : wr.cell? ⟨g, 2, none⟩ = some (.int .i64 (mm : Int)) := H.cell 0 rfl 2
    by_cases h8 : 8 ≤ mm
    · have h8' : (8 : Int) ≤ mm := by omega
      go_wp2
      obtain ⟨ww, hww⟩ : ∃ ww, ww = (V + n * 2 ^ N) / 256 ^ q := ⟨_, rfl⟩
      obtain ⟨bs, hbs⟩ : ∃ bs, bs = cells8 (PBits.bytesOf (V + n * 2 ^ N) q) := ⟨_, rfl⟩
      rw [← hww, ← hbs] at H
      have H0 := H
      have HW := Lib.hid hww
      have HB := Lib.hid hbs
      clear hww hbs
      refine wp_region_sp (L := L) (fun i v => ([(· = .pointer (some ⟨g, 0, none⟩)), (· = .pointer (some ⟨g, 0, none⟩)), (· = .pointer (some ⟨g, 0, none⟩)), (· = .pointer (some ⟨g, 0, none⟩)), (· = v'), (· = .pointer (some ⟨g, 0, none⟩)), (· = .pointer (some ⟨g, 0, none⟩)), (· = .pointer (some ⟨g, 1, none⟩)), (· = .int .u64 (ww : Int)), (· = .int .u8 ((ww : Int) % 256)), (fun v => v = .slice (some ⟨v.ownBlock.getD 0, 0, none⟩) 1 1), (fun _ => True), (· = .pointer (some ⟨g, 0, none⟩)), (· = .pointer (some ⟨g, 0, none⟩)), (· = undef)] : List (Value → Prop)).getD i (fun _ => True) v)
        (fun i v => ([fun _ => [], fun _ => [], fun _ => [], fun _ => [], fun _ => [], fun _ => [], fun _ => [], fun _ => [], fun _ => [], fun _ => [], fun v => [Bk (v.ownBlock.getD 0) 5 [.int .u8 ((ww : Int) % 256)]], fun v => [Row 5 1 v (q + 1) (bs ++ [.int .u8 ((ww : Int) % 256)])], fun _ => [], fun _ => [], fun _ => [Ex fun u => Star (WrB g u ww mm) (Row 5 1 u (q + 1) (bs ++ [.int .u8 ((ww : Int) % 256)]))]] : List (Value → List Pr)).getD i (fun _ => []) v) (fun i => ([[], [], [], [], [], [], [], [], [], [], [], [Row 5 1 v' q bs], [], [], [WrB g v' ww mm]] : List (List Pr)).getD i []) 15 77
        [some 49, some 50, some 51, some 52, some 53, some 54, some 55, some 56, some 57, some 58, some 59, some 60, some 61, some 62, none]
        [[], [], [1], [2], [3], [], [5], [6], [7], [8], [9], [4, 10], [0, 0, 1, 2, 3, 4, 5, 6, 7, 8, 9, 10, 11], [12, 0, 1, 2, 3, 4, 5, 6, 7, 8, 9, 10, 11], [13, 11, 11, 0, 1, 2, 3, 4, 5, 6, 7, 8, 9, 10, 11]]
        [[], [], [1], [1, 2], [1, 2, 3], [], [5], [5, 6], [5, 6, 7], [5, 6, 7, 8], [5, 6, 7, 8, 9], [1, 2, 3, 4, 5, 6, 7, 8, 9, 10], [0, 1, 2, 3, 4, 5, 6, 7, 8, 9, 10, 11], [0, 1, 2, 3, 4, 5, 6, 7, 8, 9, 10, 11, 12], [0, 1, 2, 3, 4, 5, 6, 7, 8, 9, 10, 11, 12, 13]]
        [[], [], [], [], [], [], [], [], [], [], [], [10], [], [], [11]]
        [[], [], [], [], [14], [], [], [], [14], [], [], [], [], [], []]
        [(0, .pointer (some ⟨g, 0, none⟩))]
        (by kernel_rfl) rfl (by decide) (by rfl) rfl (by decide +kernel) (by decide +kernel) (by rfl) rfl rfl (by decide) (by simp) (by rfl) ((H.pick 2 [1, 0])) ?hstep ?hend
      case hstep =>
        refine ⟨?_, ⟨?_, ⟨?_, ⟨?_, ⟨?_, ⟨?_, ⟨?_, ⟨?_, ⟨?_, ⟨?_, ⟨?_, ⟨?_, ⟨?_, ⟨?_, ⟨?_, trivial⟩⟩⟩⟩⟩⟩⟩⟩⟩⟩⟩⟩⟩⟩⟩
        · intro x wx A rest hN hS hE H K hK0
          have e0 : A.tmps[0]?.getD undef = .pointer (some ⟨g, 0, none⟩) := hN (0, .pointer (some ⟨g, 0, none⟩)) (by simp)
          replace H : Sp w0 (rest) wx := H
          have hK : Hid (∀ (v : Value) (w' : World), v = .pointer (some ⟨g, 0, none⟩) → Sp w0 (rest) w' → K (A.put (some 49) v) w') := Lib.hid hK0
          clear hK0 hN hS hE
          change Oper.wp _ _ A wx K _
          go_step
          exact hK.out _ _ rfl (H)
        · intro x wx A rest hN hS hE H K hK0
          have e0 : A.tmps[0]?.getD undef = .pointer (some ⟨g, 0, none⟩) := hN (0, .pointer (some ⟨g, 0, none⟩)) (by simp)
          replace H : Sp w0 (rest) wx := H
          have hK : Hid (∀ (v : Value) (w' : World), v = .pointer (some ⟨g, 0, none⟩) → Sp w0 (rest) w' → K (A.put (some 50) v) w') := Lib.hid hK0
          clear hK0 hN hS hE
          change Oper.wp _ _ A wx K _
          go_step
          exact hK.out _ _ rfl (H)
        · intro x wx A rest hN hS hE H K hK0
          have e50 : A.tmps[50]?.getD undef = .pointer (some ⟨g, 0, none⟩) := ((hS 1 (by decide)).2 50 rfl).trans (hS 1 (by decide)).1
          replace H : Sp w0 (rest) wx := H
          have hK : Hid (∀ (v : Value) (w' : World), v = .pointer (some ⟨g, 0, none⟩) → Sp w0 (rest) w' → K (A.put (some 51) v) w') := Lib.hid hK0
          clear hK0 hN hS hE
          change Oper.wp _ _ A wx K _
          go_step
          exact hK.out _ _ rfl (H)
        · intro x wx A rest hN hS hE H K hK0
          have e51 : A.tmps[51]?.getD undef = .pointer (some ⟨g, 0, none⟩) := ((hS 2 (by decide)).2 51 rfl).trans (hS 2 (by decide)).1
          replace H : Sp w0 (rest) wx := H
          have hK : Hid (∀ (v : Value) (w' : World), v = .pointer (some ⟨g, 0, none⟩) → Sp w0 (rest) w' → K (A.put (some 52) v) w') := Lib.hid hK0
          clear hK0 hN hS hE
          change Oper.wp _ _ A wx K _
          go_step
          exact hK.out _ _ rfl (H)
        · intro x wx A rest hN hS hE H K hK0
          have e52 : A.tmps[52]?.getD undef = .pointer (some ⟨g, 0, none⟩) := ((hS 3 (by decide)).2 52 rfl).trans (hS 3 (by decide)).1
          replace H : Sp w0 ((WrB g v' ww mm) :: rest) wx := H
          have hK : Hid (∀ (v : Value) (w' : World), v = v' → Sp w0 ((WrB g v' ww mm) :: rest) w' → K (A.put (some 53) v) w') := Lib.hid hK0
          clear hK0 hN hS hE
          have c : wx.cell? ⟨g, 0, none⟩ = some v' := H.cell 0 rfl 0
          change Oper.wp _ _ A wx K _
          go_step
          exact hK.out _ _ rfl (H)
        · intro x wx A rest hN hS hE H K hK0
          have e0 : A.tmps[0]?.getD undef = .pointer (some ⟨g, 0, none⟩) := hN (0, .pointer (some ⟨g, 0, none⟩)) (by simp)
          replace H : Sp w0 (rest) wx := H
          have hK : Hid (∀ (v : Value) (w' : World), v = .pointer (some ⟨g, 0, none⟩) → Sp w0 (rest) w' → K (A.put (some 54) v) w') := Lib.hid hK0
          clear hK0 hN hS hE
          change Oper.wp _ _ A wx K _
          go_step
          exact hK.out _ _ rfl (H)
        · intro x wx A rest hN hS hE H K hK0
          have e54 : A.tmps[54]?.getD undef = .pointer (some ⟨g, 0, none⟩) := ((hS 5 (by decide)).2 54 rfl).trans (hS 5 (by decide)).1
          replace H : Sp w0 (rest) wx := H
          have hK : Hid (∀ (v : Value) (w' : World), v = .pointer (some ⟨g, 0, none⟩) → Sp w0 (rest) w' → K (A.put (some 55) v) w') := Lib.hid hK0
          clear hK0 hN hS hE
          change Oper.wp _ _ A wx K _
          go_step
          exact hK.out _ _ rfl (H)
        · intro x wx A rest hN hS hE H K hK0
          have e55 : A.tmps[55]?.getD undef = .pointer (some ⟨g, 0, none⟩) := ((hS 6 (by decide)).2 55 rfl).trans (hS 6 (by decide)).1
          replace H : Sp w0 (rest) wx := H
          have hK : Hid (∀ (v : Value) (w' : World), v = .pointer (some ⟨g, 1, none⟩) → Sp w0 (rest) w' → K (A.put (some 56) v) w') := Lib.hid hK0
          clear hK0 hN hS hE
          change Oper.wp _ _ A wx K _
          go_step
          exact hK.out _ _ rfl (H)
        · intro x wx A rest hN hS hE H K hK0
          have e56 : A.tmps[56]?.getD undef = .pointer (some ⟨g, 1, none⟩) := ((hS 7 (by decide)).2 56 rfl).trans (hS 7 (by decide)).1
          replace H : Sp w0 ((WrB g v' ww mm) :: rest) wx := H
          have hK : Hid (∀ (v : Value) (w' : World), v = .int .u64 (ww : Int) → Sp w0 ((WrB g v' ww mm) :: rest) w' → K (A.put (some 57) v) w') := Lib.hid hK0
          clear hK0 hN hS hE
          have c : wx.cell? ⟨g, 1, none⟩ = some (.int .u64 (ww : Int)) := H.cell 0 rfl 1
          change Oper.wp _ _ A wx K _
          go_step
          exact hK.out _ _ rfl (H)
        · intro x wx A rest hN hS hE H K hK0
          have e57 : A.tmps[57]?.getD undef = .int .u64 (ww : Int) := ((hS 8 (by decide)).2 57 rfl).trans (hS 8 (by decide)).1
          replace H : Sp w0 (rest) wx := H
          have hK : Hid (∀ (v : Value) (w' : World), v = .int .u8 ((ww : Int) % 256) → Sp w0 (rest) w' → K (A.put (some 58) v) w') := Lib.hid hK0
          clear hK0 hN hS hE
          change Oper.wp _ _ A wx K _
          go_step
          exact hK.out _ _ rfl (H)
        · intro x wx A rest hN hS hE H K hK0
          have e58 : A.tmps[58]?.getD undef = .int .u8 ((ww : Int) % 256) := ((hS 9 (by decide)).2 58 rfl).trans (hS 9 (by decide)).1
          replace H : Sp w0 (rest) wx := H
          have hK : Hid (∀ (v : Value) (w' : World), (fun v => v = .slice (some ⟨v.ownBlock.getD 0, 0, none⟩) 1 1) v → Sp w0 ((Bk (v.ownBlock.getD 0) 5 [.int .u8 ((ww : Int) % 256)]) :: rest) w' → K (A.put (some 59) v) w') := Lib.hid hK0
          clear hK0 hN hS hE
          change Oper.wp _ _ A wx K _
          go_step
          exact hK.out _ _ rfl (H.newBk _ _)
        · intro x wx A rest hN hS hE H K hK0
          have e53 : A.tmps[53]?.getD undef = v' := ((hS 4 (by decide)).2 53 rfl).trans (hS 4 (by decide)).1
          have q59 := (hS 10 (by decide)).1
          have e59 : A.tmps[59]?.getD undef = x 10 := (hS 10 (by decide)).2 59 rfl
          replace H : Sp w0 ((Row 5 1 v' q bs) :: (Bk ((x 10).ownBlock.getD 0) 5 [.int .u8 ((ww : Int) % 256)]) :: rest) wx := H
          have hK : Hid (∀ (v : Value) (w' : World), (fun _ => True) v → Sp w0 ((Row 5 1 v (q + 1) (bs ++ [.int .u8 ((ww : Int) % 256)])) :: rest) w' → K (A.put (some 60) v) w') := Lib.hid hK0
          clear hK0 hN hS hE
          obtain ⟨g9, e9⟩ : ∃ g9, (x 10).ownBlock.getD 0 = g9 := ⟨_, rfl⟩
          rw [q59] at e59
          rw [e9] at e59 H
          change Oper.wp _ _ A wx K _
          obtain ⟨i0, hi, hz0, hz1, hz2⟩ := info_parts info8
          refine wp_append_sp _ _ 22 rfl 5 i0 (.int .u8 0) 1 1 Try.underlying22 hi hz0 hz1 hz2 rfl (by decide) v' q bs (ev e53) H (some ⟨g9, 0, none⟩) 1 1 [.int .u8 ((ww : Int) % 256)] (ev e59) rfl (Rd.of_blk (H.blk 1 rfl)) (by intro u hu; rw [List.mem_singleton.1 hu]; rfl) (by simp only [maxLen]; omega) (by omega) ?_
          intro v1 w2 H2 _
          exact hK.out _ _ trivial H2.swap.tail
        · intro x wx A rest hN hS hE H K hK0
          have e49 : A.tmps[49]?.getD undef = .pointer (some ⟨g, 0, none⟩) := ((hS 0 (by decide)).2 49 rfl).trans (hS 0 (by decide)).1
          replace H : Sp w0 (rest) wx := H
          have hK : Hid (∀ (v : Value) (w' : World), v = .pointer (some ⟨g, 0, none⟩) → Sp w0 (rest) w' → K (A.put (some 61) v) w') := Lib.hid hK0
          clear hK0 hN hS hE
          change Oper.wp _ _ A wx K _
          go_step
          exact hK.out _ _ rfl (H)
        · intro x wx A rest hN hS hE H K hK0
          have e61 : A.tmps[61]?.getD undef = .pointer (some ⟨g, 0, none⟩) := ((hS 12 (by decide)).2 61 rfl).trans (hS 12 (by decide)).1
          replace H : Sp w0 (rest) wx := H
          have hK : Hid (∀ (v : Value) (w' : World), v = .pointer (some ⟨g, 0, none⟩) → Sp w0 (rest) w' → K (A.put (some 62) v) w') := Lib.hid hK0
          clear hK0 hN hS hE
          change Oper.wp _ _ A wx K _
          go_step
          exact hK.out _ _ rfl (H)
        · intro x wx A rest hN hS hE H K hK0
          have e62 : A.tmps[62]?.getD undef = .pointer (some ⟨g, 0, none⟩) := ((hS 13 (by decide)).2 62 rfl).trans (hS 13 (by decide)).1
          have q60 := (hS 11 (by decide)).1
          have e60 : A.tmps[60]?.getD undef = x 11 := (hS 11 (by decide)).2 60 rfl
          replace H : Sp w0 ((WrB g v' ww mm) :: (Row 5 1 (x 11) (q + 1) (bs ++ [.int .u8 ((ww : Int) % 256)])) :: rest) wx := H
          have hK : Hid (∀ (v : Value) (w' : World), v = undef → Sp w0 ((Ex fun u => Star (WrB g u ww mm) (Row 5 1 u (q + 1) (bs ++ [.int .u8 ((ww : Int) % 256)]))) :: rest) w' → K (A.put none v) w') := Lib.hid hK0
          clear hK0 hN hS hE
          have c : wx.cell? ⟨g, 0, none⟩ = some v' := H.cell 0 rfl 0
          have z : wx.frozen? ⟨g, 0, none⟩ = false := H.frozen 0 rfl 0
          obtain ⟨A1, c1, ea, _, _⟩ := Row.form H 1 rfl
          change Oper.wp _ _ A wx K _
          rw [ea] at e60 H
          go_step
          exact hK.out _ _ rfl (Sp.ex (.slice A1 (q + 1) c1) (Sp.star (H.set 0 (.slice A1 (q + 1) c1))))
      case hend =>
        intro x wx A hA hS H
        replace H : Sp w0 ((Ex fun u => Star (WrB g u ww mm) (Row 5 1 u (q + 1) (bs ++ [.int .u8 ((ww : Int) % 256)]))) :: L) wx := H
        clear hS
        simp only [putAll, Act.put, List.setIfInBounds_toArray, List.set_cons_succ, List.set_cons_zero, Nat.reduceAdd] at hA
        subst hA
        obtain ⟨u, H⟩ := H.unex
        replace H := H.unstar
        have d1 : wx.cell? ⟨g, 1, none⟩ = some (.int .u64 (ww : Int)) := H.cell 0 rfl 1
        have d2 : wx.cell? ⟨g, 2, none⟩ = some (.int .i64 (mm : Int)) := H.cell 0 rfl 2
        have z1 : wx.frozen? ⟨g, 1, none⟩ = false := H.frozen 0 rfl 1
        have z2 : wx.frozen? ⟨g, 2, none⟩ = false := H.frozen 0 rfl 2
        clear r2
        have hm8'' : mm ≤ 1000000100 := by omega
        go_wp2
        go_roundw
        case rel =>
          refine ⟨q + 1, mm - 8, u, by omega, by omega, ?_⟩
          rw [PBits.byte_next, ← PBits.div_next, ← HW.out]
          have e8 : cells8 (PBits.bytesOf (V + n * 2 ^ N) q ++ [UInt8.ofNat (ww % 256)]) = bs ++ [.int .u8 ((ww : Int) % 256)] := by
            rw [HB.out]; simp [cells8]
          rw [e8]
          have H2 := (H.set 1 (.int .u64 ((ww : Int) / 256))).set 2 (.int .i64 ((mm : Int) - 8))
          have ea : ((ww / 256 : Nat) : Int) = (ww : Int) / 256 := by omega
          have eb : ((mm - 8 : Nat) : Int) = (mm : Int) - 8 := by omega
          unfold WrB
          rw [ea, eb]
          exact H2
        case measure =>
          have m1 : wr.cell? ⟨g, 2, none⟩ = some (.int .i64 (mm : Int)) := H0.cell 0 rfl 2
          have m2 := ((H.set 1 (.int .u64 ((ww : Int) / 256))).set 2 (.int .i64 ((mm : Int) - 8))).cell 0 rfl 2
          simp only [m1, m2]
          simp [intOf]
          omega
    · have h8' : ¬ (8 : Int) ≤ mm := by omega
      go_wp2
      go_ret
      obtain rfl : q = (N + k) / 8 := by omega
      obtain rfl : mm = (N + k) % 8 := by omega
      exact ⟨rfl, H.star.ex v'⟩
end Go.Proofs.Ytkgnihpcldgedaa
