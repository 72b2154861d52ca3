/- A pack of texts: InfQ. -/
import Derived.Test.YtiogaejfcenooaaDoorPk02
import Derived.Test.YtiogaejfcenooaaDoorPk03
import Derived.Test.YtiogaejfcenooaaDoorPk09
import Derived.Test.YtiogaejfcenooaaDoorPk18
namespace Go.Proofs.YtiogaejfcenooaaDoor
set_option linter.unusedVariables false
set_option linter.unusedSimpArgs false
open Go.RowKit
theorem u32_bit1 (x : Nat) (hx : x < 4294967296) : bits .and .u32 (x : Int) 1 = ((x % 2 : Nat) : Int) := by
 have e1 : (BitVec.ofInt 32 (x : Int)).toNat = x := by
  rw [BitVec.ofInt_natCast, BitVec.toNat_ofNat]; exact Nat.mod_eq_of_lt (by omega)
 have e2 : (BitVec.ofInt 32 (1 : Int)).toNat = 1 := rfl
 show IntKind.u32.wrap ((BitVec.ofInt 32 (x : Int) &&& BitVec.ofInt 32 (1 : Int)).toNat : Int) = _
 rw [BitVec.toNat_and, e1, e2, nat_mask1]
 have : x % 2 < 2 := Nat.mod_lt _ (by decide)
 rw [IntKind.wrap_u32']
 omega
def PenB (gp : Nat) (l : List Bool) (v : Value) : Pr := Bk gp 60 [v, .int .i64 (l.length : Int)]
def PenR (l : List Bool) (v : Value) : Pr := Row 5 1 v (PI.packB l).length (cells8 (PI.packB l))
def Pen (gp : Nat) (l : List Bool) : Pr := Ex fun v : Value => Star (PenB gp l v) (PenR l v)
theorem pen_open {w0 w : World} {L : List Pr} {gp : Nat} {l : List Bool} (H : Sp w0 (Pen gp l :: L) w) : ∃ v, Sp w0 (PenB gp l v :: PenR l v :: L) w := by
 obtain ⟨v, H⟩ := H.unex
 exact ⟨v, H.unstar⟩
theorem pen_shut {w0 w : World} {L : List Pr} {gp : Nat} {l : List Bool} {v : Value} (H : Sp w0 (PenB gp l v :: PenR l v :: L) w) : Sp w0 (Pen gp l :: L) w := Sp.ex v (Sp.star H)
set_option maxRecDepth 100000 in
set_option maxHeartbeats 4000000 in
theorem pbit_ok (gp xv : Nat) (l : List Bool) {w0 w : World} {L : List Pr} (H : Sp w0 (Pen gp l :: L) w) (hx : xv < 4294967296) (hl : l.length ≤ 100000000) :
  Calls Tryd.prog 23 #[.pointer (some ⟨gp, 0, none⟩), .int .u32 (xv : Int)] w fun e w' => e = .returned (.tuple #[]) ∧ Sp w0 (Pen gp (l ++ [xv % 2 == 1]) :: L) w' := by
 obtain ⟨i0, hi, hz0, hz1, hz2⟩ := info_parts info8
 obtain ⟨v, H⟩ := pen_open H
 obtain ⟨VA, vc, rfl, hnc, hcm⟩ := Row.form H 1 rfl
 obtain ⟨N, hN⟩ : ∃ N, l.length = N := ⟨_, rfl⟩
 obtain ⟨q, hq⟩ : ∃ q, N / 8 = q := ⟨_, rfl⟩
 obtain ⟨r, hr⟩ : ∃ r, N % 8 = r := ⟨_, rfl⟩
 obtain ⟨tp, htp⟩ : ∃ tp, PI.topB l = tp := ⟨_, rfl⟩
 obtain ⟨pw, hpw⟩ : ∃ pw : Nat, 2 ^ r = pw := ⟨_, rfl⟩
 obtain ⟨b, hb⟩ : ∃ b, xv % 2 = b := ⟨_, rfl⟩
 obtain ⟨cs, hcs⟩ : ∃ cs, cells8 (PI.roomB l) = cs := ⟨_, rfl⟩
 have hlen : cs.length = q + 1 := by rw [← hcs]; simp [cells8, PI.roomB_len]; omega
 have hget : cs[q]? = some (.int .u8 (tp : Int)) := by
  rw [← hcs, cells8_get _ _ (by rw [PI.roomB_len]; omega), ← hq, ← hN, PI.room_get, htp]
  have h1 := PI.topB_lt l
  have h2 := PI.pow8_le l.length
  rw [htp] at h1
  rw [UInt8.toNat_ofNat', Nat.mod_eq_of_lt (by omega)]
 have htb : tp < pw := by
  have := PI.topB_lt l
  rw [htp, hN, hr, hpw] at this
  exact this
 have hp8 : pw ≤ 128 := by
  have := PI.pow8_le l.length
  rw [hN, hr, hpw] at this
  exact this
 have hb2 : b < 2 := by omega
 have hor : bits .or .u8 (tp : Int) ((b * pw : Nat) : Int) = ((tp + b * pw : Nat) : Int) := by
  have := or_u8 r (by omega) tp (by rw [hpw]; exact htb) b hb2
  rw [hpw] at this
  exact this
 have hbp : b * pw ≤ 128 := Nat.le_trans (Nat.mul_le_mul_right _ (show b ≤ 1 by omega)) (by omega)
 have hset : cs.set q (.int .u8 ((tp + b * pw : Nat) : Int)) = cells8 (PI.packB (l ++ [xv % 2 == 1])) := by
  rw [← hcs, ← PI.room_set l (xv % 2 == 1)]
  have e1 : (xv % 2 == 1).toNat = b := by
   rw [hb]
   have : b = 0 ∨ b = 1 := by omega
   rcases this with rfl | rfl <;> rfl
  rw [e1, htp, hN, hr, hpw, hq]
  simp only [cells8, List.map_set]
  have : (UInt8.ofNat (tp + b * pw)).toNat = tp + b * pw := by rw [UInt8.toNat_ofNat']; omega
  rw [this]
 have hpl : (PI.packB (l ++ [xv % 2 == 1])).length = q + 1 := by rw [PI.packB_len, List.length_append, List.length_singleton]; omega
 have hLN : (l ++ [xv % 2 == 1]).length = N + 1 := by rw [List.length_append, List.length_singleton, hN]
 obtain ⟨l2, hl2⟩ : ∃ l2, l ++ [xv % 2 == 1] = l2 := ⟨_, rfl⟩
 rw [hl2] at hset hpl hLN ⊢
 have HSET := Lib.hid hset
 have HGET := Lib.hid hget
 have HPL := Lib.hid hpl
 have HLN := Lib.hid hLN
 have HCS := Lib.hid hcs
 have hand : bits .and .u32 (xv : Int) 1 = (b : Int) := by rw [u32_bit1 xv hx, hb]
 have HAND := Lib.hid hand
 have HOR := Lib.hid hor
 have y1 : (N : Int) / 8 = (q : Int) := by omega
 have y2 : (N : Int) % 8 = (r : Int) := by omega
 have hr8 : r < 8 := by omega
 have hqN : q ≤ N := by omega
 have hpw2 : (2 : Int) ^ r = (pw : Int) := by rw [← hpw]; simp
 have HPW := Lib.hid hpw2
 have hNl : N ≤ 100000000 := by omega
 have hpk : (PI.packB l).length = (N + 7) / 8 := by rw [PI.packB_len, hN]
 have HPK := Lib.hid hpk
 have hrow0 : r = 0 → cells8 (PI.packB l) ++ [.int .u8 0] = cs := fun h => by
  rw [← hcs, ← PI.room_at l (by omega)]
  simp [cells8]
 have hrow1 : r ≠ 0 → cells8 (PI.packB l) = cs := fun h => by rw [← hcs, ← PI.room_in l (by omega)]
 have HR0 := Lib.hid hrow0
 have HR1 := Lib.hid hrow1
 have HHR := Lib.hid hr
 have HHQ := Lib.hid hq
 have HHN := Lib.hid hN
 have hpen : PenB gp l (.slice VA (PI.packB l).length vc) = Bk gp 60 [.slice VA (PI.packB l).length vc, .int .i64 (N : Int)] := by unfold PenB; rw [hN]
 have H0 : Sp w0 (Bk gp 60 [.slice VA (PI.packB l).length vc, .int .i64 (N : Int)] :: Row 5 1 (.slice VA (PI.packB l).length vc) (PI.packB l).length (cells8 (PI.packB l)) :: L) w := by rw [← hpen]; exact H
 clear H hpen hrow0 hrow1 hset hget hpl hLN hcs hand hor hpw2 hr hq hN htp hpw hb hl2
 obtain ⟨pn, hpn⟩ : ∃ pn, (PI.packB l).length = pn := ⟨_, rfl⟩
 rw [hpn] at H0 HPK hnc
 have c1 : w.cell? ⟨gp, 1, none⟩ = some (.int .i64 (N : Int)) := H0.cell 0 rfl 1
 have hz : (0 : Nat) ≤ r := Nat.zero_le _
 have kq : (q : Int) < (q : Int) + 1 := by omega
 clear hpn hpk
 go_enter Tryd.func23, Tryd.ntmps23
 by_cases h0 : r = 0
 ·have k1 : ((r : Int) == 0) = true := by subst h0; rfl
  have hpnq : pn = q := by have h1 := HPK.out; have h2 := HHR.out; have h3 := HHQ.out; omega
  rw [hpnq] at H0 hnc; clear hpnq HPK
  have hR := HR0.out h0
  have HRR := Lib.hid hR
  have c0 : w.cell? ⟨gp, 0, none⟩ = some (.slice VA q vc) := H0.cell 0 rfl 0
  have H1 := H0.newBk [.int .u8 0] 5
  have hmx : maxLen = 9223372036854775807 := rfl
  clear hR
  go_wp2_with (at_builtin; refine wpList_append_sp rfl _ _ 24 rfl 5 i0 (.int .u8 0) 1 1 Tryd.underlying24 hi hz0 hz1 hz2 rfl (by decide) _ q (cells8 (PI.packB l)) rfl (H1.pick 3 [2, 0, 1]) (some ⟨w.heap.size, 0, none⟩) 1 1 [.int .u8 0] rfl rfl (Rd.of_blk (H1.blk 0 rfl)) (by intro u hu; rw [List.mem_singleton.1 hu]; rfl) (by omega) (by omega) ?_)
  intro v1 w1 H2 _
  obtain ⟨V1, vc1, rfl, _, hvm⟩ := Row.form H2 0 rfl
  have H3 := H2.pick 3 [2, 0]
  have d0 : w1.cell? ⟨gp, 0, none⟩ = some (.slice VA q vc) := H3.cell 0 rfl 0
  have z0 : w1.frozen? ⟨gp, 0, none⟩ = false := H3.frozen 0 rfl 0
  have H4 := H3.set 0 (.slice V1 (q + 1) vc1)
  have H5 : Sp w0 (Row 5 1 (.slice V1 (q + 1) vc1) (q + 1) cs :: Bk gp 60 [.slice V1 (q + 1) vc1, .int .i64 (N : Int)] :: L) (w1.setCell ⟨gp, 0, none⟩ (.slice V1 (q + 1) vc1)) := by rw [← HRR.out]; exact H4.swap
  have HX := Lib.hid H5
  clear H1 H2 H3 H4 H5
  go_wp2_with fail
  generalize w1.setCell _ _ = w2 at HX ⊢
  clear h0 k1
  have hqn : q < (q + 1) := by omega
  obtain ⟨ad, rfl⟩ : ∃ ad, V1 = some ad := by
   obtain ⟨ad, c9, e9, _⟩ := Sp.rowSet HX.out (i := q) hqn
   injection e9 with e9
   exact ⟨ad, e9⟩
  refine wp_region_sp (L := L) (fun ix vx => ([(· = .pointer (some ⟨gp, 0, none⟩)), (· = .pointer (some ⟨gp, 0, none⟩)), (· = .pointer (some ⟨gp, 0, none⟩)), (· = .slice (some ad) (q + 1) vc1), (· = .pointer (some ⟨gp, 0, none⟩)), (· = .pointer (some ⟨gp, 0, none⟩)), (· = .pointer (some ⟨gp, 1, none⟩)), (· = .int .i64 (N : Int)), (· = .int .i64 (q : Int)), (· = .pointer (some (ad.add q))), (· = .int .u8 (tp : Int)), (· = .int .u32 (xv : Int)), (· = .int .u32 (b : Int)), (· = .int .u8 (b : Int)), (· = .pointer (some ⟨gp, 0, none⟩)), (· = .pointer (some ⟨gp, 0, none⟩)), (· = .pointer (some ⟨gp, 1, none⟩)), (· = .int .i64 (N : Int)), (· = .int .i64 (r : Int)), (· = .int .u8 ((b * pw : Nat) : Int)), (· = .int .u8 ((tp + b * pw : Nat) : Int)), (· = .pointer (some (ad.add q))), (· = undef)] : List (Value → Prop)).getD ix (fun _ => True) vx)
   (fun ix vx => ([fun _ => [], fun _ => [], fun _ => [], fun _ => [], fun _ => [], fun _ => [], fun _ => [], fun _ => [], fun _ => [], fun _ => [], fun _ => [], fun _ => [], fun _ => [], fun _ => [], fun _ => [], fun _ => [], fun _ => [], fun _ => [], fun _ => [], fun _ => [], fun _ => [], fun _ => [], fun _ => [Row 5 1 (.slice (some ad) (q + 1) vc1) (q + 1) (cs.set q (.int .u8 ((tp + b * pw : Nat) : Int))), Bk gp 60 [.slice (some ad) (q + 1) vc1, .int .i64 (N : Int)]]] : List (Value → List Pr)).getD ix (fun _ => []) vx) (fun ix => ([[], [], [], [], [], [], [], [], [], [], [], [], [], [], [], [], [], [], [], [], [], [], [Row 5 1 (.slice (some ad) (q + 1) vc1) (q + 1) cs, Bk gp 60 [.slice (some ad) (q + 1) vc1, .int .i64 (N : Int)]]] : List (List Pr)).getD ix []) 23 48
   [some 19, some 20, some 21, some 22, some 23, some 24, some 25, some 26, some 27, some 28, some 29, some 30, some 31, some 32, some 33, some 34, some 35, some 36, some 37, some 38, some 39, some 40, none]
   [[], [0], [1], [2], [], [4], [5], [6], [7], [3, 8], [9], [], [11], [12], [], [14], [15], [16], [17], [13, 18], [10, 19], [3, 8, 0, 1, 2, 3, 4, 5, 6, 7, 8, 9, 10, 11, 12, 13, 14, 15, 16, 17, 18, 19, 20], [21, 20, 0, 1, 2, 3, 4, 5, 6, 7, 8, 9, 10, 11, 12, 13, 14, 15, 16, 17, 18, 19, 20]]
   [[], [0], [0, 1], [0, 1, 2], [], [4], [4, 5], [4, 5, 6], [4, 5, 6, 7], [0, 1, 2, 3, 4, 5, 6, 7, 8], [0, 1, 2, 3, 4, 5, 6, 7, 8, 9], [], [11], [11, 12], [], [14], [14, 15], [14, 15, 16], [14, 15, 16, 17], [11, 12, 13, 14, 15, 16, 17, 18], [0, 1, 2, 3, 4, 5, 6, 7, 8, 9, 10, 11, 12, 13, 14, 15, 16, 17, 18, 19], [0, 1, 2, 3, 4, 5, 6, 7, 8, 9, 10, 11, 12, 13, 14, 15, 16, 17, 18, 19, 20], [0, 1, 2, 3, 4, 5, 6, 7, 8, 9, 10, 11, 12, 13, 14, 15, 16, 17, 18, 19, 20, 21]]
   [[], [], [], [], [], [], [], [], [], [], [], [], [], [], [], [], [], [], [], [], [], [], []]
   [[], [], [], [22], [], [], [], [22], [], [], [22], [], [], [], [], [], [], [22], [], [], [], [], []]
   [(0, .pointer (some ⟨gp, 0, none⟩)), (1, .int .u32 (xv : Int))]
   (by kernel_rfl) rfl (by decide) (by rfl) rfl (by decide +kernel) (by decide +kernel) (by rfl) rfl rfl (by decide) (by simp) (by rfl) (HX.out) ?hstep ?hend
  case hstep =>
   refine ⟨?_, ⟨?_, ⟨?_, ⟨?_, ⟨?_, ⟨?_, ⟨?_, ⟨?_, ⟨?_, ⟨?_, ⟨?_, ⟨?_, ⟨?_, ⟨?_, ⟨?_, ⟨?_, ⟨?_, ⟨?_, ⟨?_, ⟨?_, ⟨?_, ⟨?_, ⟨?_, trivial⟩⟩⟩⟩⟩⟩⟩⟩⟩⟩⟩⟩⟩⟩⟩⟩⟩⟩⟩⟩⟩⟩⟩
   ·intro x wx A rest hN hS hE H K hK0
    have e0 : A.tmps[0]?.getD undef = .pointer (some ⟨gp, 0, none⟩) := hN (0, .pointer (some ⟨gp, 0, none⟩)) (by simp)
    replace H : Sp w0 (rest) wx := H
    have hK : Hid (∀ (v : Value) (w' : World), v = .pointer (some ⟨gp, 0, none⟩) → Sp w0 (rest) w' → K (A.put (some 19) v) w') := Lib.hid hK0
    clear hK0 hN hS hE
    change Oper.wp _ _ A wx K _
    go_step
    exact hK.out _ _ rfl (H)
   ·intro x wx A rest hN hS hE H K hK0
    have e19 : A.tmps[19]?.getD undef = .pointer (some ⟨gp, 0, none⟩) := ((hS 0 (by decide)).2 19 rfl).trans (hS 0 (by decide)).1
    replace H : Sp w0 (rest) wx := H
    have hK : Hid (∀ (v : Value) (w' : World), v = .pointer (some ⟨gp, 0, none⟩) → Sp w0 (rest) w' → K (A.put (some 20) v) w') := Lib.hid hK0
    clear hK0 hN hS hE
    change Oper.wp _ _ A wx K _
    go_step
    exact hK.out _ _ rfl (H)
   ·intro x wx A rest hN hS hE H K hK0
    have e20 : A.tmps[20]?.getD undef = .pointer (some ⟨gp, 0, none⟩) := ((hS 1 (by decide)).2 20 rfl).trans (hS 1 (by decide)).1
    replace H : Sp w0 (rest) wx := H
    have hK : Hid (∀ (v : Value) (w' : World), v = .pointer (some ⟨gp, 0, none⟩) → Sp w0 (rest) w' → K (A.put (some 21) v) w') := Lib.hid hK0
    clear hK0 hN hS hE
    change Oper.wp _ _ A wx K _
    go_step
    exact hK.out _ _ rfl (H)
   ·intro x wx A rest hN hS hE H K hK0
    have e21 : A.tmps[21]?.getD undef = .pointer (some ⟨gp, 0, none⟩) := ((hS 2 (by decide)).2 21 rfl).trans (hS 2 (by decide)).1
    replace H : Sp w0 ((Row 5 1 (.slice (some ad) (q + 1) vc1) (q + 1) cs) :: (Bk gp 60 [.slice (some ad) (q + 1) vc1, .int .i64 (N : Int)]) :: rest) wx := H
    have hK : Hid (∀ (v : Value) (w' : World), v = .slice (some ad) (q + 1) vc1 → Sp w0 ((Row 5 1 (.slice (some ad) (q + 1) vc1) (q + 1) cs) :: (Bk gp 60 [.slice (some ad) (q + 1) vc1, .int .i64 (N : Int)]) :: rest) w' → K (A.put (some 22) v) w') := Lib.hid hK0
    clear hK0 hN hS hE
    have c : wx.cell? ⟨gp, 0, none⟩ = some (.slice (some ad) (q + 1) vc1) := H.cell 1 rfl 0
    change Oper.wp _ _ A wx K _
    go_step
    exact hK.out _ _ rfl (H)
   ·intro x wx A rest hN hS hE H K hK0
    have e0 : A.tmps[0]?.getD undef = .pointer (some ⟨gp, 0, none⟩) := hN (0, .pointer (some ⟨gp, 0, none⟩)) (by simp)
    replace H : Sp w0 (rest) wx := H
    have hK : Hid (∀ (v : Value) (w' : World), v = .pointer (some ⟨gp, 0, none⟩) → Sp w0 (rest) w' → K (A.put (some 23) v) w') := Lib.hid hK0
    clear hK0 hN hS hE
    change Oper.wp _ _ A wx K _
    go_step
    exact hK.out _ _ rfl (H)
   ·intro x wx A rest hN hS hE H K hK0
    have e23 : A.tmps[23]?.getD undef = .pointer (some ⟨gp, 0, none⟩) := ((hS 4 (by decide)).2 23 rfl).trans (hS 4 (by decide)).1
    replace H : Sp w0 (rest) wx := H
    have hK : Hid (∀ (v : Value) (w' : World), v = .pointer (some ⟨gp, 0, none⟩) → Sp w0 (rest) w' → K (A.put (some 24) v) w') := Lib.hid hK0
    clear hK0 hN hS hE
    change Oper.wp _ _ A wx K _
    go_step
    exact hK.out _ _ rfl (H)
   ·intro x wx A rest hN hS hE H K hK0
    have e24 : A.tmps[24]?.getD undef = .pointer (some ⟨gp, 0, none⟩) := ((hS 5 (by decide)).2 24 rfl).trans (hS 5 (by decide)).1
    replace H : Sp w0 (rest) wx := H
    have hK : Hid (∀ (v : Value) (w' : World), v = .pointer (some ⟨gp, 1, none⟩) → Sp w0 (rest) w' → K (A.put (some 25) v) w') := Lib.hid hK0
    clear hK0 hN hS hE
    change Oper.wp _ _ A wx K _
    go_step
    exact hK.out _ _ rfl (H)
   ·intro x wx A rest hN hS hE H K hK0
    have e25 : A.tmps[25]?.getD undef = .pointer (some ⟨gp, 1, none⟩) := ((hS 6 (by decide)).2 25 rfl).trans (hS 6 (by decide)).1
    replace H : Sp w0 ((Row 5 1 (.slice (some ad) (q + 1) vc1) (q + 1) cs) :: (Bk gp 60 [.slice (some ad) (q + 1) vc1, .int .i64 (N : Int)]) :: rest) wx := H
    have hK : Hid (∀ (v : Value) (w' : World), v = .int .i64 (N : Int) → Sp w0 ((Row 5 1 (.slice (some ad) (q + 1) vc1) (q + 1) cs) :: (Bk gp 60 [.slice (some ad) (q + 1) vc1, .int .i64 (N : Int)]) :: rest) w' → K (A.put (some 26) v) w') := Lib.hid hK0
    clear hK0 hN hS hE
    have c : wx.cell? ⟨gp, 1, none⟩ = some (.int .i64 (N : Int)) := H.cell 1 rfl 1
    change Oper.wp _ _ A wx K _
    go_step
    exact hK.out _ _ rfl (H)
   ·intro x wx A rest hN hS hE H K hK0
    have e26 : A.tmps[26]?.getD undef = .int .i64 (N : Int) := ((hS 7 (by decide)).2 26 rfl).trans (hS 7 (by decide)).1
    replace H : Sp w0 (rest) wx := H
    have hK : Hid (∀ (v : Value) (w' : World), v = .int .i64 (q : Int) → Sp w0 (rest) w' → K (A.put (some 27) v) w') := Lib.hid hK0
    clear hK0 hN hS hE
    change Oper.wp _ _ A wx K _
    go_step
    exact hK.out _ _ rfl (H)
   ·intro x wx A rest hN hS hE H K hK0
    have e22 : A.tmps[22]?.getD undef = .slice (some ad) (q + 1) vc1 := ((hS 3 (by decide)).2 22 rfl).trans (hS 3 (by decide)).1
    have e27 : A.tmps[27]?.getD undef = .int .i64 (q : Int) := ((hS 8 (by decide)).2 27 rfl).trans (hS 8 (by decide)).1
    replace H : Sp w0 (rest) wx := H
    have hK : Hid (∀ (v : Value) (w' : World), v = .pointer (some (ad.add q)) → Sp w0 (rest) w' → K (A.put (some 28) v) w') := Lib.hid hK0
    clear hK0 hN hS hE
    change Oper.wp _ _ A wx K _
    go_step
    exact hK.out _ _ rfl (H)
   ·intro x wx A rest hN hS hE H K hK0
    have e28 : A.tmps[28]?.getD undef = .pointer (some (ad.add q)) := ((hS 9 (by decide)).2 28 rfl).trans (hS 9 (by decide)).1
    replace H : Sp w0 ((Row 5 1 (.slice (some ad) (q + 1) vc1) (q + 1) cs) :: (Bk gp 60 [.slice (some ad) (q + 1) vc1, .int .i64 (N : Int)]) :: rest) wx := H
    have hK : Hid (∀ (v : Value) (w' : World), v = .int .u8 (tp : Int) → Sp w0 ((Row 5 1 (.slice (some ad) (q + 1) vc1) (q + 1) cs) :: (Bk gp 60 [.slice (some ad) (q + 1) vc1, .int .i64 (N : Int)]) :: rest) w' → K (A.put (some 29) v) w') := Lib.hid hK0
    clear hK0 hN hS hE
    obtain ⟨ad9, c9, e9, _, ccell, _, _⟩ := Sp.rowSet H (i := q) (by omega)
    injection e9 with e9
    injection e9 with e9
    subst e9
    rw [HGET.out] at ccell
    change Oper.wp _ _ A wx K _
    go_step
    exact hK.out _ _ rfl (H)
   ·intro x wx A rest hN hS hE H K hK0
    have e1 : A.tmps[1]?.getD undef = .int .u32 (xv : Int) := hN (1, .int .u32 (xv : Int)) (by simp)
    replace H : Sp w0 (rest) wx := H
    have hK : Hid (∀ (v : Value) (w' : World), v = .int .u32 (xv : Int) → Sp w0 (rest) w' → K (A.put (some 30) v) w') := Lib.hid hK0
    clear hK0 hN hS hE
    change Oper.wp _ _ A wx K _
    go_step
    exact hK.out _ _ rfl (H)
   ·intro x wx A rest hN hS hE H K hK0
    have e30 : A.tmps[30]?.getD undef = .int .u32 (xv : Int) := ((hS 11 (by decide)).2 30 rfl).trans (hS 11 (by decide)).1
    replace H : Sp w0 (rest) wx := H
    have hK : Hid (∀ (v : Value) (w' : World), v = .int .u32 (b : Int) → Sp w0 (rest) w' → K (A.put (some 31) v) w') := Lib.hid hK0
    clear hK0 hN hS hE
    have e := HAND.out
    change Oper.wp _ _ A wx K _
    go_step
    exact hK.out _ _ rfl (H)
   ·intro x wx A rest hN hS hE H K hK0
    have e31 : A.tmps[31]?.getD undef = .int .u32 (b : Int) := ((hS 12 (by decide)).2 31 rfl).trans (hS 12 (by decide)).1
    replace H : Sp w0 (rest) wx := H
    have hK : Hid (∀ (v : Value) (w' : World), v = .int .u8 (b : Int) → Sp w0 (rest) w' → K (A.put (some 32) v) w') := Lib.hid hK0
    clear hK0 hN hS hE
    have hw : IntKind.u8.wrap (b : Int) = (b : Int) := by rw [IntKind.wrap_u8']; omega
    change Oper.wp _ _ A wx K _
    go_step
    exact hK.out _ _ rfl (H)
   ·intro x wx A rest hN hS hE H K hK0
    have e0 : A.tmps[0]?.getD undef = .pointer (some ⟨gp, 0, none⟩) := hN (0, .pointer (some ⟨gp, 0, none⟩)) (by simp)
    replace H : Sp w0 (rest) wx := H
    have hK : Hid (∀ (v : Value) (w' : World), v = .pointer (some ⟨gp, 0, none⟩) → Sp w0 (rest) w' → K (A.put (some 33) v) w') := Lib.hid hK0
    clear hK0 hN hS hE
    change Oper.wp _ _ A wx K _
    go_step
    exact hK.out _ _ rfl (H)
   ·intro x wx A rest hN hS hE H K hK0
    have e33 : A.tmps[33]?.getD undef = .pointer (some ⟨gp, 0, none⟩) := ((hS 14 (by decide)).2 33 rfl).trans (hS 14 (by decide)).1
    replace H : Sp w0 (rest) wx := H
    have hK : Hid (∀ (v : Value) (w' : World), v = .pointer (some ⟨gp, 0, none⟩) → Sp w0 (rest) w' → K (A.put (some 34) v) w') := Lib.hid hK0
    clear hK0 hN hS hE
    change Oper.wp _ _ A wx K _
    go_step
    exact hK.out _ _ rfl (H)
   ·intro x wx A rest hN hS hE H K hK0
    have e34 : A.tmps[34]?.getD undef = .pointer (some ⟨gp, 0, none⟩) := ((hS 15 (by decide)).2 34 rfl).trans (hS 15 (by decide)).1
    replace H : Sp w0 (rest) wx := H
    have hK : Hid (∀ (v : Value) (w' : World), v = .pointer (some ⟨gp, 1, none⟩) → Sp w0 (rest) w' → K (A.put (some 35) v) w') := Lib.hid hK0
    clear hK0 hN hS hE
    change Oper.wp _ _ A wx K _
    go_step
    exact hK.out _ _ rfl (H)
   ·intro x wx A rest hN hS hE H K hK0
    have e35 : A.tmps[35]?.getD undef = .pointer (some ⟨gp, 1, none⟩) := ((hS 16 (by decide)).2 35 rfl).trans (hS 16 (by decide)).1
    replace H : Sp w0 ((Row 5 1 (.slice (some ad) (q + 1) vc1) (q + 1) cs) :: (Bk gp 60 [.slice (some ad) (q + 1) vc1, .int .i64 (N : Int)]) :: rest) wx := H
    have hK : Hid (∀ (v : Value) (w' : World), v = .int .i64 (N : Int) → Sp w0 ((Row 5 1 (.slice (some ad) (q + 1) vc1) (q + 1) cs) :: (Bk gp 60 [.slice (some ad) (q + 1) vc1, .int .i64 (N : Int)]) :: rest) w' → K (A.put (some 36) v) w') := Lib.hid hK0
    clear hK0 hN hS hE
    have c : wx.cell? ⟨gp, 1, none⟩ = some (.int .i64 (N : Int)) := H.cell 1 rfl 1
    change Oper.wp _ _ A wx K _
    go_step
    exact hK.out _ _ rfl (H)
   ·intro x wx A rest hN hS hE H K hK0
    have e36 : A.tmps[36]?.getD undef = .int .i64 (N : Int) := ((hS 17 (by decide)).2 36 rfl).trans (hS 17 (by decide)).1
    replace H : Sp w0 (rest) wx := H
    have hK : Hid (∀ (v : Value) (w' : World), v = .int .i64 (r : Int) → Sp w0 (rest) w' → K (A.put (some 37) v) w') := Lib.hid hK0
    clear hK0 hN hS hE
    change Oper.wp _ _ A wx K _
    go_step
    exact hK.out _ _ (by rw [y2]) H
   ·intro x wx A rest hN hS hE H K hK0
    have e32 : A.tmps[32]?.getD undef = .int .u8 (b : Int) := ((hS 13 (by decide)).2 32 rfl).trans (hS 13 (by decide)).1
    have e37 : A.tmps[37]?.getD undef = .int .i64 (r : Int) := ((hS 18 (by decide)).2 37 rfl).trans (hS 18 (by decide)).1
    replace H : Sp w0 (rest) wx := H
    have hK : Hid (∀ (v : Value) (w' : World), v = .int .u8 ((b * pw : Nat) : Int) → Sp w0 (rest) w' → K (A.put (some 38) v) w') := Lib.hid hK0
    clear hK0 hN hS hE
    have hw : IntKind.u8.wrap ((b : Int) * (pw : Int)) = ((b * pw : Nat) : Int) := by rw [← Int.natCast_mul, IntKind.wrap_u8']; omega
    have e := HPW.out
    change Oper.wp _ _ A wx K _
    go_step
    exact hK.out _ _ rfl (H)
   ·intro x wx A rest hN hS hE H K hK0
    have e29 : A.tmps[29]?.getD undef = .int .u8 (tp : Int) := ((hS 10 (by decide)).2 29 rfl).trans (hS 10 (by decide)).1
    have e38 : A.tmps[38]?.getD undef = .int .u8 ((b * pw : Nat) : Int) := ((hS 19 (by decide)).2 38 rfl).trans (hS 19 (by decide)).1
    replace H : Sp w0 (rest) wx := H
    have hK : Hid (∀ (v : Value) (w' : World), v = .int .u8 ((tp + b * pw : Nat) : Int) → Sp w0 (rest) w' → K (A.put (some 39) v) w') := Lib.hid hK0
    clear hK0 hN hS hE
    change Oper.wp _ _ A wx K _
    go_step
    exact hK.out _ _ (by rw [← Int.natCast_mul, HOR.out]) H
   ·intro x wx A rest hN hS hE H K hK0
    have e22 : A.tmps[22]?.getD undef = .slice (some ad) (q + 1) vc1 := ((hS 3 (by decide)).2 22 rfl).trans (hS 3 (by decide)).1
    have e27 : A.tmps[27]?.getD undef = .int .i64 (q : Int) := ((hS 8 (by decide)).2 27 rfl).trans (hS 8 (by decide)).1
    replace H : Sp w0 (rest) wx := H
    have hK : Hid (∀ (v : Value) (w' : World), v = .pointer (some (ad.add q)) → Sp w0 (rest) w' → K (A.put (some 40) v) w') := Lib.hid hK0
    clear hK0 hN hS hE
    change Oper.wp _ _ A wx K _
    go_step
    exact hK.out _ _ rfl (H)
   ·intro x wx A rest hN hS hE H K hK0
    have e40 : A.tmps[40]?.getD undef = .pointer (some (ad.add q)) := ((hS 21 (by decide)).2 40 rfl).trans (hS 21 (by decide)).1
    have e39 : A.tmps[39]?.getD undef = .int .u8 ((tp + b * pw : Nat) : Int) := ((hS 20 (by decide)).2 39 rfl).trans (hS 20 (by decide)).1
    replace H : Sp w0 ((Row 5 1 (.slice (some ad) (q + 1) vc1) (q + 1) cs) :: (Bk gp 60 [.slice (some ad) (q + 1) vc1, .int .i64 (N : Int)]) :: rest) wx := H
    have hK : Hid (∀ (v : Value) (w' : World), v = undef → Sp w0 ((Row 5 1 (.slice (some ad) (q + 1) vc1) (q + 1) (cs.set q (.int .u8 ((tp + b * pw : Nat) : Int)))) :: (Bk gp 60 [.slice (some ad) (q + 1) vc1, .int .i64 (N : Int)]) :: rest) w' → K (A.put none v) w') := Lib.hid hK0
    clear hK0 hN hS hE
    obtain ⟨ad9, c9, e9, _, ccell, cfrz, hset⟩ := Sp.rowSet H (i := q) (by omega)
    injection e9 with e9
    injection e9 with e9
    subst e9
    change Oper.wp _ _ A wx K _
    go_step
    exact hK.out _ _ rfl (hset (.int .u8 ((tp + b * pw : Nat) : Int)))
  case hend =>
   intro x wx A hA hS H
   replace H : Sp w0 ((Row 5 1 (.slice (some ad) (q + 1) vc1) (q + 1) (cs.set q (.int .u8 ((tp + b * pw : Nat) : Int)))) :: (Bk gp 60 [.slice (some ad) (q + 1) vc1, .int .i64 (N : Int)]) :: L) wx := H
   clear hS
   simp only [putAll, Act.put, List.setIfInBounds_toArray, List.set_cons_succ, List.set_cons_zero, Nat.reduceAdd] at hA
   subst hA
   have c1 : wx.cell? ⟨gp, 1, none⟩ = some (.int .i64 (N : Int)) := H.cell 1 rfl 1
   have z1 : wx.frozen? ⟨gp, 1, none⟩ = false := H.frozen 1 rfl 1
   have H6 := H.swap.set 1 (.int .i64 ((N + 1 : Nat) : Int))
   have HY := Lib.hid H6
   clear H H6 HX
   go_wp2_with fail
   go_end0
   refine ⟨rfl, pen_shut (v := .slice (some ad) (q + 1) vc1) ?_⟩
   have h8 := HY.out
   rw [HSET.out] at h8
   unfold PenB PenR
   rw [HLN.out, HPL.out]
   exact h8
 ·have k1 : ((r : Int) == 0) = false := by rw [beq_eq_false_iff_ne]; omega
  have k1' : ¬ (r : Int) = 0 := by omega
  have hpnq : pn = q + 1 := by have h1 := HPK.out; have h2 := HHR.out; have h3 := HHQ.out; omega
  rw [hpnq] at H0 hnc; clear hpnq HPK
  have hR := HR1.out h0
  rw [hR] at H0
  have HX := Lib.hid H0.swap
  clear hR H0
  go_wp2_with fail
  have hqn : q < (q + 1) := by omega
  obtain ⟨ad, rfl⟩ : ∃ ad, VA = some ad := by
   obtain ⟨ad, c9, e9, _⟩ := Sp.rowSet HX.out (i := q) hqn
   injection e9 with e9
   exact ⟨ad, e9⟩
  refine wp_region_sp (L := L) (fun ix vx => ([(· = .pointer (some ⟨gp, 0, none⟩)), (· = .pointer (some ⟨gp, 0, none⟩)), (· = .pointer (some ⟨gp, 0, none⟩)), (· = .slice (some ad) (q + 1) vc), (· = .pointer (some ⟨gp, 0, none⟩)), (· = .pointer (some ⟨gp, 0, none⟩)), (· = .pointer (some ⟨gp, 1, none⟩)), (· = .int .i64 (N : Int)), (· = .int .i64 (q : Int)), (· = .pointer (some (ad.add q))), (· = .int .u8 (tp : Int)), (· = .int .u32 (xv : Int)), (· = .int .u32 (b : Int)), (· = .int .u8 (b : Int)), (· = .pointer (some ⟨gp, 0, none⟩)), (· = .pointer (some ⟨gp, 0, none⟩)), (· = .pointer (some ⟨gp, 1, none⟩)), (· = .int .i64 (N : Int)), (· = .int .i64 (r : Int)), (· = .int .u8 ((b * pw : Nat) : Int)), (· = .int .u8 ((tp + b * pw : Nat) : Int)), (· = .pointer (some (ad.add q))), (· = undef)] : List (Value → Prop)).getD ix (fun _ => True) vx)
   (fun ix vx => ([fun _ => [], fun _ => [], fun _ => [], fun _ => [], fun _ => [], fun _ => [], fun _ => [], fun _ => [], fun _ => [], fun _ => [], fun _ => [], fun _ => [], fun _ => [], fun _ => [], fun _ => [], fun _ => [], fun _ => [], fun _ => [], fun _ => [], fun _ => [], fun _ => [], fun _ => [], fun _ => [Row 5 1 (.slice (some ad) (q + 1) vc) (q + 1) (cs.set q (.int .u8 ((tp + b * pw : Nat) : Int))), Bk gp 60 [.slice (some ad) (q + 1) vc, .int .i64 (N : Int)]]] : List (Value → List Pr)).getD ix (fun _ => []) vx) (fun ix => ([[], [], [], [], [], [], [], [], [], [], [], [], [], [], [], [], [], [], [], [], [], [], [Row 5 1 (.slice (some ad) (q + 1) vc) (q + 1) cs, Bk gp 60 [.slice (some ad) (q + 1) vc, .int .i64 (N : Int)]]] : List (List Pr)).getD ix []) 23 48
   [some 19, some 20, some 21, some 22, some 23, some 24, some 25, some 26, some 27, some 28, some 29, some 30, some 31, some 32, some 33, some 34, some 35, some 36, some 37, some 38, some 39, some 40, none]
   [[], [0], [1], [2], [], [4], [5], [6], [7], [3, 8], [9], [], [11], [12], [], [14], [15], [16], [17], [13, 18], [10, 19], [3, 8, 0, 1, 2, 3, 4, 5, 6, 7, 8, 9, 10, 11, 12, 13, 14, 15, 16, 17, 18, 19, 20], [21, 20, 0, 1, 2, 3, 4, 5, 6, 7, 8, 9, 10, 11, 12, 13, 14, 15, 16, 17, 18, 19, 20]]
   [[], [0], [0, 1], [0, 1, 2], [], [4], [4, 5], [4, 5, 6], [4, 5, 6, 7], [0, 1, 2, 3, 4, 5, 6, 7, 8], [0, 1, 2, 3, 4, 5, 6, 7, 8, 9], [], [11], [11, 12], [], [14], [14, 15], [14, 15, 16], [14, 15, 16, 17], [11, 12, 13, 14, 15, 16, 17, 18], [0, 1, 2, 3, 4, 5, 6, 7, 8, 9, 10, 11, 12, 13, 14, 15, 16, 17, 18, 19], [0, 1, 2, 3, 4, 5, 6, 7, 8, 9, 10, 11, 12, 13, 14, 15, 16, 17, 18, 19, 20], [0, 1, 2, 3, 4, 5, 6, 7, 8, 9, 10, 11, 12, 13, 14, 15, 16, 17, 18, 19, 20, 21]]
   [[], [], [], [], [], [], [], [], [], [], [], [], [], [], [], [], [], [], [], [], [], [], []]
   [[], [], [], [22], [], [], [], [22], [], [], [22], [], [], [], [], [], [], [22], [], [], [], [], []]
   [(0, .pointer (some ⟨gp, 0, none⟩)), (1, .int .u32 (xv : Int))]
   (by kernel_rfl) rfl (by decide) (by rfl) rfl (by decide +kernel) (by decide +kernel) (by rfl) rfl rfl (by decide) (by simp) (by rfl) (HX.out) ?hstep ?hend
  case hstep =>
   refine ⟨?_, ⟨?_, ⟨?_, ⟨?_, ⟨?_, ⟨?_, ⟨?_, ⟨?_, ⟨?_, ⟨?_, ⟨?_, ⟨?_, ⟨?_, ⟨?_, ⟨?_, ⟨?_, ⟨?_, ⟨?_, ⟨?_, ⟨?_, ⟨?_, ⟨?_, ⟨?_, trivial⟩⟩⟩⟩⟩⟩⟩⟩⟩⟩⟩⟩⟩⟩⟩⟩⟩⟩⟩⟩⟩⟩⟩
   ·intro x wx A rest hN hS hE H K hK0
    have e0 : A.tmps[0]?.getD undef = .pointer (some ⟨gp, 0, none⟩) := hN (0, .pointer (some ⟨gp, 0, none⟩)) (by simp)
    replace H : Sp w0 (rest) wx := H
    have hK : Hid (∀ (v : Value) (w' : World), v = .pointer (some ⟨gp, 0, none⟩) → Sp w0 (rest) w' → K (A.put (some 19) v) w') := Lib.hid hK0
    clear hK0 hN hS hE
    change Oper.wp _ _ A wx K _
    go_step
    exact hK.out _ _ rfl (H)
   ·intro x wx A rest hN hS hE H K hK0
    have e19 : A.tmps[19]?.getD undef = .pointer (some ⟨gp, 0, none⟩) := ((hS 0 (by decide)).2 19 rfl).trans (hS 0 (by decide)).1
    replace H : Sp w0 (rest) wx := H
    have hK : Hid (∀ (v : Value) (w' : World), v = .pointer (some ⟨gp, 0, none⟩) → Sp w0 (rest) w' → K (A.put (some 20) v) w') := Lib.hid hK0
    clear hK0 hN hS hE
    change Oper.wp _ _ A wx K _
    go_step
    exact hK.out _ _ rfl (H)
   ·intro x wx A rest hN hS hE H K hK0
    have e20 : A.tmps[20]?.getD undef = .pointer (some ⟨gp, 0, none⟩) := ((hS 1 (by decide)).2 20 rfl).trans (hS 1 (by decide)).1
    replace H : Sp w0 (rest) wx := H
    have hK : Hid (∀ (v : Value) (w' : World), v = .pointer (some ⟨gp, 0, none⟩) → Sp w0 (rest) w' → K (A.put (some 21) v) w') := Lib.hid hK0
    clear hK0 hN hS hE
    change Oper.wp _ _ A wx K _
    go_step
    exact hK.out _ _ rfl (H)
   ·intro x wx A rest hN hS hE H K hK0
    have e21 : A.tmps[21]?.getD undef = .pointer (some ⟨gp, 0, none⟩) := ((hS 2 (by decide)).2 21 rfl).trans (hS 2 (by decide)).1
    replace H : Sp w0 ((Row 5 1 (.slice (some ad) (q + 1) vc) (q + 1) cs) :: (Bk gp 60 [.slice (some ad) (q + 1) vc, .int .i64 (N : Int)]) :: rest) wx := H
    have hK : Hid (∀ (v : Value) (w' : World), v = .slice (some ad) (q + 1) vc → Sp w0 ((Row 5 1 (.slice (some ad) (q + 1) vc) (q + 1) cs) :: (Bk gp 60 [.slice (some ad) (q + 1) vc, .int .i64 (N : Int)]) :: rest) w' → K (A.put (some 22) v) w') := Lib.hid hK0
    clear hK0 hN hS hE
    have c : wx.cell? ⟨gp, 0, none⟩ = some (.slice (some ad) (q + 1) vc) := H.cell 1 rfl 0
    change Oper.wp _ _ A wx K _
    go_step
    exact hK.out _ _ rfl (H)
   ·intro x wx A rest hN hS hE H K hK0
    have e0 : A.tmps[0]?.getD undef = .pointer (some ⟨gp, 0, none⟩) := hN (0, .pointer (some ⟨gp, 0, none⟩)) (by simp)
    replace H : Sp w0 (rest) wx := H
    have hK : Hid (∀ (v : Value) (w' : World), v = .pointer (some ⟨gp, 0, none⟩) → Sp w0 (rest) w' → K (A.put (some 23) v) w') := Lib.hid hK0
    clear hK0 hN hS hE
    change Oper.wp _ _ A wx K _
    go_step
    exact hK.out _ _ rfl (H)
   ·intro x wx A rest hN hS hE H K hK0
    have e23 : A.tmps[23]?.getD undef = .pointer (some ⟨gp, 0, none⟩) := ((hS 4 (by decide)).2 23 rfl).trans (hS 4 (by decide)).1
    replace H : Sp w0 (rest) wx := H
    have hK : Hid (∀ (v : Value) (w' : World), v = .pointer (some ⟨gp, 0, none⟩) → Sp w0 (rest) w' → K (A.put (some 24) v) w') := Lib.hid hK0
    clear hK0 hN hS hE
    change Oper.wp _ _ A wx K _
    go_step
    exact hK.out _ _ rfl (H)
   ·intro x wx A rest hN hS hE H K hK0
    have e24 : A.tmps[24]?.getD undef = .pointer (some ⟨gp, 0, none⟩) := ((hS 5 (by decide)).2 24 rfl).trans (hS 5 (by decide)).1
    replace H : Sp w0 (rest) wx := H
    have hK : Hid (∀ (v : Value) (w' : World), v = .pointer (some ⟨gp, 1, none⟩) → Sp w0 (rest) w' → K (A.put (some 25) v) w') := Lib.hid hK0
    clear hK0 hN hS hE
    change Oper.wp _ _ A wx K _
    go_step
    exact hK.out _ _ rfl (H)
   ·intro x wx A rest hN hS hE H K hK0
    have e25 : A.tmps[25]?.getD undef = .pointer (some ⟨gp, 1, none⟩) := ((hS 6 (by decide)).2 25 rfl).trans (hS 6 (by decide)).1
    replace H : Sp w0 ((Row 5 1 (.slice (some ad) (q + 1) vc) (q + 1) cs) :: (Bk gp 60 [.slice (some ad) (q + 1) vc, .int .i64 (N : Int)]) :: rest) wx := H
    have hK : Hid (∀ (v : Value) (w' : World), v = .int .i64 (N : Int) → Sp w0 ((Row 5 1 (.slice (some ad) (q + 1) vc) (q + 1) cs) :: (Bk gp 60 [.slice (some ad) (q + 1) vc, .int .i64 (N : Int)]) :: rest) w' → K (A.put (some 26) v) w') := Lib.hid hK0
    clear hK0 hN hS hE
    have c : wx.cell? ⟨gp, 1, none⟩ = some (.int .i64 (N : Int)) := H.cell 1 rfl 1
    change Oper.wp _ _ A wx K _
    go_step
    exact hK.out _ _ rfl (H)
   ·intro x wx A rest hN hS hE H K hK0
    have e26 : A.tmps[26]?.getD undef = .int .i64 (N : Int) := ((hS 7 (by decide)).2 26 rfl).trans (hS 7 (by decide)).1
    replace H : Sp w0 (rest) wx := H
    have hK : Hid (∀ (v : Value) (w' : World), v = .int .i64 (q : Int) → Sp w0 (rest) w' → K (A.put (some 27) v) w') := Lib.hid hK0
    clear hK0 hN hS hE
    change Oper.wp _ _ A wx K _
    go_step
    exact hK.out _ _ rfl (H)
   ·intro x wx A rest hN hS hE H K hK0
    have e22 : A.tmps[22]?.getD undef = .slice (some ad) (q + 1) vc := ((hS 3 (by decide)).2 22 rfl).trans (hS 3 (by decide)).1
    have e27 : A.tmps[27]?.getD undef = .int .i64 (q : Int) := ((hS 8 (by decide)).2 27 rfl).trans (hS 8 (by decide)).1
    replace H : Sp w0 (rest) wx := H
    have hK : Hid (∀ (v : Value) (w' : World), v = .pointer (some (ad.add q)) → Sp w0 (rest) w' → K (A.put (some 28) v) w') := Lib.hid hK0
    clear hK0 hN hS hE
    change Oper.wp _ _ A wx K _
    go_step
    exact hK.out _ _ rfl (H)
   ·intro x wx A rest hN hS hE H K hK0
    have e28 : A.tmps[28]?.getD undef = .pointer (some (ad.add q)) := ((hS 9 (by decide)).2 28 rfl).trans (hS 9 (by decide)).1
    replace H : Sp w0 ((Row 5 1 (.slice (some ad) (q + 1) vc) (q + 1) cs) :: (Bk gp 60 [.slice (some ad) (q + 1) vc, .int .i64 (N : Int)]) :: rest) wx := H
    have hK : Hid (∀ (v : Value) (w' : World), v = .int .u8 (tp : Int) → Sp w0 ((Row 5 1 (.slice (some ad) (q + 1) vc) (q + 1) cs) :: (Bk gp 60 [.slice (some ad) (q + 1) vc, .int .i64 (N : Int)]) :: rest) w' → K (A.put (some 29) v) w') := Lib.hid hK0
    clear hK0 hN hS hE
    obtain ⟨ad9, c9, e9, _, ccell, _, _⟩ := Sp.rowSet H (i := q) (by omega)
    injection e9 with e9
    injection e9 with e9
    subst e9
    rw [HGET.out] at ccell
    change Oper.wp _ _ A wx K _
    go_step
    exact hK.out _ _ rfl (H)
   ·intro x wx A rest hN hS hE H K hK0
    have e1 : A.tmps[1]?.getD undef = .int .u32 (xv : Int) := hN (1, .int .u32 (xv : Int)) (by simp)
    replace H : Sp w0 (rest) wx := H
    have hK : Hid (∀ (v : Value) (w' : World), v = .int .u32 (xv : Int) → Sp w0 (rest) w' → K (A.put (some 30) v) w') := Lib.hid hK0
    clear hK0 hN hS hE
    change Oper.wp _ _ A wx K _
    go_step
    exact hK.out _ _ rfl (H)
   ·intro x wx A rest hN hS hE H K hK0
    have e30 : A.tmps[30]?.getD undef = .int .u32 (xv : Int) := ((hS 11 (by decide)).2 30 rfl).trans (hS 11 (by decide)).1
    replace H : Sp w0 (rest) wx := H
    have hK : Hid (∀ (v : Value) (w' : World), v = .int .u32 (b : Int) → Sp w0 (rest) w' → K (A.put (some 31) v) w') := Lib.hid hK0
    clear hK0 hN hS hE
    have e := HAND.out
    change Oper.wp _ _ A wx K _
    go_step
    exact hK.out _ _ rfl (H)
   ·intro x wx A rest hN hS hE H K hK0
    have e31 : A.tmps[31]?.getD undef = .int .u32 (b : Int) := ((hS 12 (by decide)).2 31 rfl).trans (hS 12 (by decide)).1
    replace H : Sp w0 (rest) wx := H
    have hK : Hid (∀ (v : Value) (w' : World), v = .int .u8 (b : Int) → Sp w0 (rest) w' → K (A.put (some 32) v) w') := Lib.hid hK0
    clear hK0 hN hS hE
    have hw : IntKind.u8.wrap (b : Int) = (b : Int) := by rw [IntKind.wrap_u8']; omega
    change Oper.wp _ _ A wx K _
    go_step
    exact hK.out _ _ rfl (H)
   ·intro x wx A rest hN hS hE H K hK0
    have e0 : A.tmps[0]?.getD undef = .pointer (some ⟨gp, 0, none⟩) := hN (0, .pointer (some ⟨gp, 0, none⟩)) (by simp)
    replace H : Sp w0 (rest) wx := H
    have hK : Hid (∀ (v : Value) (w' : World), v = .pointer (some ⟨gp, 0, none⟩) → Sp w0 (rest) w' → K (A.put (some 33) v) w') := Lib.hid hK0
    clear hK0 hN hS hE
    change Oper.wp _ _ A wx K _
    go_step
    exact hK.out _ _ rfl (H)
   ·intro x wx A rest hN hS hE H K hK0
    have e33 : A.tmps[33]?.getD undef = .pointer (some ⟨gp, 0, none⟩) := ((hS 14 (by decide)).2 33 rfl).trans (hS 14 (by decide)).1
    replace H : Sp w0 (rest) wx := H
    have hK : Hid (∀ (v : Value) (w' : World), v = .pointer (some ⟨gp, 0, none⟩) → Sp w0 (rest) w' → K (A.put (some 34) v) w') := Lib.hid hK0
    clear hK0 hN hS hE
    change Oper.wp _ _ A wx K _
    go_step
    exact hK.out _ _ rfl (H)
   ·intro x wx A rest hN hS hE H K hK0
    have e34 : A.tmps[34]?.getD undef = .pointer (some ⟨gp, 0, none⟩) := ((hS 15 (by decide)).2 34 rfl).trans (hS 15 (by decide)).1
    replace H : Sp w0 (rest) wx := H
    have hK : Hid (∀ (v : Value) (w' : World), v = .pointer (some ⟨gp, 1, none⟩) → Sp w0 (rest) w' → K (A.put (some 35) v) w') := Lib.hid hK0
    clear hK0 hN hS hE
    change Oper.wp _ _ A wx K _
    go_step
    exact hK.out _ _ rfl (H)
   ·intro x wx A rest hN hS hE H K hK0
    have e35 : A.tmps[35]?.getD undef = .pointer (some ⟨gp, 1, none⟩) := ((hS 16 (by decide)).2 35 rfl).trans (hS 16 (by decide)).1
    replace H : Sp w0 ((Row 5 1 (.slice (some ad) (q + 1) vc) (q + 1) cs) :: (Bk gp 60 [.slice (some ad) (q + 1) vc, .int .i64 (N : Int)]) :: rest) wx := H
    have hK : Hid (∀ (v : Value) (w' : World), v = .int .i64 (N : Int) → Sp w0 ((Row 5 1 (.slice (some ad) (q + 1) vc) (q + 1) cs) :: (Bk gp 60 [.slice (some ad) (q + 1) vc, .int .i64 (N : Int)]) :: rest) w' → K (A.put (some 36) v) w') := Lib.hid hK0
    clear hK0 hN hS hE
    have c : wx.cell? ⟨gp, 1, none⟩ = some (.int .i64 (N : Int)) := H.cell 1 rfl 1
    change Oper.wp _ _ A wx K _
    go_step
    exact hK.out _ _ rfl (H)
   ·intro x wx A rest hN hS hE H K hK0
    have e36 : A.tmps[36]?.getD undef = .int .i64 (N : Int) := ((hS 17 (by decide)).2 36 rfl).trans (hS 17 (by decide)).1
    replace H : Sp w0 (rest) wx := H
    have hK : Hid (∀ (v : Value) (w' : World), v = .int .i64 (r : Int) → Sp w0 (rest) w' → K (A.put (some 37) v) w') := Lib.hid hK0
    clear hK0 hN hS hE
    change Oper.wp _ _ A wx K _
    go_step
    exact hK.out _ _ (by rw [y2]) H
   ·intro x wx A rest hN hS hE H K hK0
    have e32 : A.tmps[32]?.getD undef = .int .u8 (b : Int) := ((hS 13 (by decide)).2 32 rfl).trans (hS 13 (by decide)).1
    have e37 : A.tmps[37]?.getD undef = .int .i64 (r : Int) := ((hS 18 (by decide)).2 37 rfl).trans (hS 18 (by decide)).1
    replace H : Sp w0 (rest) wx := H
    have hK : Hid (∀ (v : Value) (w' : World), v = .int .u8 ((b * pw : Nat) : Int) → Sp w0 (rest) w' → K (A.put (some 38) v) w') := Lib.hid hK0
    clear hK0 hN hS hE
    have hw : IntKind.u8.wrap ((b : Int) * (pw : Int)) = ((b * pw : Nat) : Int) := by rw [← Int.natCast_mul, IntKind.wrap_u8']; omega
    have e := HPW.out
    change Oper.wp _ _ A wx K _
    go_step
    exact hK.out _ _ rfl (H)
   ·intro x wx A rest hN hS hE H K hK0
    have e29 : A.tmps[29]?.getD undef = .int .u8 (tp : Int) := ((hS 10 (by decide)).2 29 rfl).trans (hS 10 (by decide)).1
    have e38 : A.tmps[38]?.getD undef = .int .u8 ((b * pw : Nat) : Int) := ((hS 19 (by decide)).2 38 rfl).trans (hS 19 (by decide)).1
    replace H : Sp w0 (rest) wx := H
    have hK : Hid (∀ (v : Value) (w' : World), v = .int .u8 ((tp + b * pw : Nat) : Int) → Sp w0 (rest) w' → K (A.put (some 39) v) w') := Lib.hid hK0
    clear hK0 hN hS hE
    change Oper.wp _ _ A wx K _
    go_step
    exact hK.out _ _ (by rw [← Int.natCast_mul, HOR.out]) H
   ·intro x wx A rest hN hS hE H K hK0
    have e22 : A.tmps[22]?.getD undef = .slice (some ad) (q + 1) vc := ((hS 3 (by decide)).2 22 rfl).trans (hS 3 (by decide)).1
    have e27 : A.tmps[27]?.getD undef = .int .i64 (q : Int) := ((hS 8 (by decide)).2 27 rfl).trans (hS 8 (by decide)).1
    replace H : Sp w0 (rest) wx := H
    have hK : Hid (∀ (v : Value) (w' : World), v = .pointer (some (ad.add q)) → Sp w0 (rest) w' → K (A.put (some 40) v) w') := Lib.hid hK0
    clear hK0 hN hS hE
    change Oper.wp _ _ A wx K _
    go_step
    exact hK.out _ _ rfl (H)
   ·intro x wx A rest hN hS hE H K hK0
    have e40 : A.tmps[40]?.getD undef = .pointer (some (ad.add q)) := ((hS 21 (by decide)).2 40 rfl).trans (hS 21 (by decide)).1
    have e39 : A.tmps[39]?.getD undef = .int .u8 ((tp + b * pw : Nat) : Int) := ((hS 20 (by decide)).2 39 rfl).trans (hS 20 (by decide)).1
    replace H : Sp w0 ((Row 5 1 (.slice (some ad) (q + 1) vc) (q + 1) cs) :: (Bk gp 60 [.slice (some ad) (q + 1) vc, .int .i64 (N : Int)]) :: rest) wx := H
    have hK : Hid (∀ (v : Value) (w' : World), v = undef → Sp w0 ((Row 5 1 (.slice (some ad) (q + 1) vc) (q + 1) (cs.set q (.int .u8 ((tp + b * pw : Nat) : Int)))) :: (Bk gp 60 [.slice (some ad) (q + 1) vc, .int .i64 (N : Int)]) :: rest) w' → K (A.put none v) w') := Lib.hid hK0
    clear hK0 hN hS hE
    obtain ⟨ad9, c9, e9, _, ccell, cfrz, hset⟩ := Sp.rowSet H (i := q) (by omega)
    injection e9 with e9
    injection e9 with e9
    subst e9
    change Oper.wp _ _ A wx K _
    go_step
    exact hK.out _ _ rfl (hset (.int .u8 ((tp + b * pw : Nat) : Int)))
  case hend =>
   intro x wx A hA hS H
   replace H : Sp w0 ((Row 5 1 (.slice (some ad) (q + 1) vc) (q + 1) (cs.set q (.int .u8 ((tp + b * pw : Nat) : Int)))) :: (Bk gp 60 [.slice (some ad) (q + 1) vc, .int .i64 (N : Int)]) :: L) wx := H
   clear hS
   simp only [putAll, Act.put, List.setIfInBounds_toArray, List.set_cons_succ, List.set_cons_zero, Nat.reduceAdd] at hA
   subst hA
   have c1 : wx.cell? ⟨gp, 1, none⟩ = some (.int .i64 (N : Int)) := H.cell 1 rfl 1
   have z1 : wx.frozen? ⟨gp, 1, none⟩ = false := H.frozen 1 rfl 1
   have H6 := H.swap.set 1 (.int .i64 ((N + 1 : Nat) : Int))
   have HY := Lib.hid H6
   clear H H6 HX
   go_wp2_with fail
   go_end0
   refine ⟨rfl, pen_shut (v := .slice (some ad) (q + 1) vc) ?_⟩
   have h8 := HY.out
   rw [HSET.out] at h8
   unfold PenB PenR
   rw [HLN.out, HPL.out]
   exact h8
end Go.Proofs.YtiogaejfcenooaaDoor

