/- BitsJ: the document's own answer for bits: Lay, Reverse. -/
import Derived.Test.YtkgnihpcldgedaaBitsI
namespace Go.Proofs.Ytkgnihpcldgedaa
open Go.RowKit
def ptrOf : Value → Nat
  | .pointer (some ⟨g, _, _⟩) => g
  | _ => 0
theorem flay_bad (g : Nat) (b : Value) (l : List Bool) (at_ : Nat) {w0 w : World} {L : List Pr} (H : Sp w0 (Rw g l at_ :: L) w) (hl : l.length ≤ 1000000) (h8 : l.length % 8 ≠ 0) :
    Calls Try.prog 47 #[.pointer (some ⟨g, 0, none⟩), b] w fun e w' => e = .returned (.int .i64 1) ∧ w = w' := by
  obtain ⟨A, c, H, _, c0, _, _, _, hc1, hc2⟩ := rw_open H
  obtain ⟨n, hn⟩ : ∃ n, l.length = n := ⟨_, rfl⟩
  rw [hn] at hl h8 c0
  have h8' : ((n : Int) % 8 != 0) = true := by rw [bne_iff_ne]; omega
  clear hn
  go_enter Try.func47, Try.ntmps47
  go_wp2
  go_ret
  exact ⟨rfl, rfl⟩
set_option maxRecDepth 100000 in
set_option maxHeartbeats 1000000 in
theorem flay_ok (g : Nat) (l : List Bool) (at_ : Nat) (A0 : Option Addr) (ca n : Nat) (b : List UInt8) {w0 w : World} {L : List Pr} (H : Sp w0 (Rw g l at_ :: L) w) (hn : n = b.length) (hB : Ent L (fun w' => Byt w' (.slice A0 n ca) b)) (hb : b.length ≤ 100000) (hl : l.length ≤ 1000000) (h8 : l.length % 8 = 0) :
    Calls Try.prog 47 #[.pointer (some ⟨g, 0, none⟩), .slice A0 n ca] w fun e w' => e = .returned (.int .i64 0) ∧ Sp w0 (Rw g (l ++ PBits.ofB b) at_ :: L) w' := by
  obtain ⟨i0, hi, hz0, hz1, hz2⟩ := info_parts infoB
  obtain ⟨U, c, H, _, c0, _, _, _, hc1, hc2⟩ := rw_open H
  obtain ⟨N, hN⟩ : ∃ N, l.length = N := ⟨_, rfl⟩
  rw [hN] at hl h8 c0 H hc1
  have h8' : ((N : Int) % 8 != 0) = false := by rw [bne_eq_false_iff_eq]; omega
  have HN := Lib.hid hN
  clear hN
  obtain ⟨bs, hbs⟩ : ∃ bs, PBits.ofB b = bs := ⟨_, rfl⟩
  have hbl : bs.length ≤ 800000 := by rw [← hbs, PBits.ofB_length]; omega
  obtain ⟨ys, hys⟩ : ∃ ys, cellsB l = ys := ⟨_, rfl⟩
  rw [hys] at H
  have HYS := Lib.hid hys
  have HBS := Lib.hid hbs
  have HNB := Lib.hid hn
  have HBB := Lib.hid hB
  clear hys hbs hn hB
  go_enter Try.func47, Try.ntmps47
  go_wp2_with fail
  clear c0
  refine wp_region_sp (L := L) (fun ix vx => ([(· = .pointer (some ⟨g, 0, none⟩)), (· = .pointer (some ⟨g, 0, none⟩)), (· = .pointer (some ⟨g, 0, none⟩)), (· = .pointer (some ⟨g, 0, none⟩)), (· = .slice U N c), (· = .slice A0 n ca), (fun v => v = .pointer (some ⟨ptrOf v, 0, none⟩)), (fun v => v = .pointer (some ⟨ptrOf v, 0, none⟩)), (fun v => v = .pointer (some ⟨ptrOf v, 0, none⟩)), (fun _ => True), (fun _ => True), (· = .pointer (some ⟨g, 0, none⟩)), (· = .pointer (some ⟨g, 0, none⟩)), (· = undef)] : List (Value → Prop)).getD ix (fun _ => True) vx)
    (fun ix vx => ([fun _ => [], fun _ => [], fun _ => [], fun _ => [], fun _ => [], fun _ => [], fun v => [Rw (ptrOf v) bs 0], fun v => [Rw (ptrOf v) bs 0], fun v => [Rw (ptrOf v) bs 0], fun v => [Row 4 1 v bs.length (cellsB bs)], fun v => [Row 4 1 v (N + bs.length) (ys ++ cellsB bs)], fun _ => [], fun _ => [], fun _ => [Ex fun u => Star (RwB g u at_) (Row 4 1 u (N + bs.length) (ys ++ cellsB bs))]] : List (Value → List Pr)).getD ix (fun _ => []) vx) (fun ix => ([[], [], [], [], [], [], [], [], [], [], [Row 4 1 (.slice U N c) N ys], [], [], [RwB g (.slice U N c) at_]] : List (List Pr)).getD ix []) 14 25
    [some 12, some 13, some 14, some 15, some 16, some 17, some 18, some 19, some 20, some 21, some 22, some 23, some 24, none]
    [[], [], [1], [2], [3], [], [5], [6], [7], [8], [4, 9, 6], [0, 0, 1, 2, 3, 4, 5, 6, 7, 8, 9, 10], [11, 0, 1, 2, 3, 4, 5, 6, 7, 8, 9, 10], [12, 10, 10, 0, 1, 2, 3, 4, 5, 6, 7, 8, 9, 10]]
    [[], [], [1], [1, 2], [1, 2, 3], [], [5], [5, 6], [5, 6, 7], [5, 6, 7, 8], [1, 2, 3, 4, 5, 6, 7, 8, 9], [0, 1, 2, 3, 4, 5, 6, 7, 8, 9, 10], [0, 1, 2, 3, 4, 5, 6, 7, 8, 9, 10, 11], [0, 1, 2, 3, 4, 5, 6, 7, 8, 9, 10, 11, 12]]
    [[], [], [], [], [], [], [], [6], [7], [8], [9], [], [], [10]]
    [[], [], [], [], [13], [], [], [], [], [], [], [], [], []]
    [(0, .pointer (some ⟨g, 0, none⟩)), (1, .slice A0 n ca)]
    (by kernel_rfl) rfl (by decide) (by rfl) rfl (by decide +kernel) (by decide +kernel) (by rfl) rfl rfl (by decide) (by simp) (by rfl) (H.pick 2 [1, 0]) ?hstep ?hend
  case hstep =>
    refine ⟨?_, ⟨?_, ⟨?_, ⟨?_, ⟨?_, ⟨?_, ⟨?_, ⟨?_, ⟨?_, ⟨?_, ⟨?_, ⟨?_, ⟨?_, ⟨?_, trivial⟩⟩⟩⟩⟩⟩⟩⟩⟩⟩⟩⟩⟩⟩
    · intro x wx A rest hN hS hE H K hK0
      have e0 : A.tmps[0]?.getD undef = .pointer (some ⟨g, 0, none⟩) := hN (0, .pointer (some ⟨g, 0, none⟩)) (by simp)
      replace H : Sp w0 (rest) wx := H
      have hK : Hid (∀ (v : Value) (w' : World), v = .pointer (some ⟨g, 0, none⟩) → Sp w0 (rest) w' → K (A.put (some 12) v) w') := Lib.hid hK0
      clear hK0 hN hS hE
      change Oper.wp _ _ A wx K _
      go_step
      exact hK.out _ _ rfl (H)
    · intro x wx A rest hN hS hE H K hK0
      have e0 : A.tmps[0]?.getD undef = .pointer (some ⟨g, 0, none⟩) := hN (0, .pointer (some ⟨g, 0, none⟩)) (by simp)
      replace H : Sp w0 (rest) wx := H
      have hK : Hid (∀ (v : Value) (w' : World), v = .pointer (some ⟨g, 0, none⟩) → Sp w0 (rest) w' → K (A.put (some 13) v) w') := Lib.hid hK0
      clear hK0 hN hS hE
      change Oper.wp _ _ A wx K _
      go_step
      exact hK.out _ _ rfl (H)
    · intro x wx A rest hN hS hE H K hK0
      have e13 : A.tmps[13]?.getD undef = .pointer (some ⟨g, 0, none⟩) := ((hS 1 (by decide)).2 13 rfl).trans (hS 1 (by decide)).1
      replace H : Sp w0 (rest) wx := H
      have hK : Hid (∀ (v : Value) (w' : World), v = .pointer (some ⟨g, 0, none⟩) → Sp w0 (rest) w' → K (A.put (some 14) v) w') := Lib.hid hK0
      clear hK0 hN hS hE
      change Oper.wp _ _ A wx K _
      go_step
      exact hK.out _ _ rfl (H)
    · intro x wx A rest hN hS hE H K hK0
      have e14 : A.tmps[14]?.getD undef = .pointer (some ⟨g, 0, none⟩) := ((hS 2 (by decide)).2 14 rfl).trans (hS 2 (by decide)).1
      replace H : Sp w0 (rest) wx := H
      have hK : Hid (∀ (v : Value) (w' : World), v = .pointer (some ⟨g, 0, none⟩) → Sp w0 (rest) w' → K (A.put (some 15) v) w') := Lib.hid hK0
      clear hK0 hN hS hE
      change Oper.wp _ _ A wx K _
      go_step
      exact hK.out _ _ rfl (H)
    · intro x wx A rest hN hS hE H K hK0
      have e15 : A.tmps[15]?.getD undef = .pointer (some ⟨g, 0, none⟩) := ((hS 3 (by decide)).2 15 rfl).trans (hS 3 (by decide)).1
      replace H : Sp w0 ((RwB g (.slice U N c) at_) :: rest) wx := H
      have hK : Hid (∀ (v : Value) (w' : World), v = .slice U N c → Sp w0 ((RwB g (.slice U N c) at_) :: rest) w' → K (A.put (some 16) v) w') := Lib.hid hK0
      clear hK0 hN hS hE
      have c : wx.cell? ⟨g, 0, none⟩ = some (.slice U N c) := H.cell 0 rfl 0
      change Oper.wp _ _ A wx K _
      go_step
      exact hK.out _ _ rfl (H)
    · intro x wx A rest hN hS hE H K hK0
      have e1 : A.tmps[1]?.getD undef = .slice A0 n ca := hN (1, .slice A0 n ca) (by simp)
      replace H : Sp w0 (rest) wx := H
      have hK : Hid (∀ (v : Value) (w' : World), v = .slice A0 n ca → Sp w0 (rest) w' → K (A.put (some 17) v) w') := Lib.hid hK0
      clear hK0 hN hS hE
      change Oper.wp _ _ A wx K _
      go_step
      exact hK.out _ _ rfl (H)
    · intro x wx A rest hN hS hE H K hK0
      have e17 : A.tmps[17]?.getD undef = .slice A0 n ca := ((hS 5 (by decide)).2 17 rfl).trans (hS 5 (by decide)).1
      replace H : Sp w0 (rest) wx := H
      have hK : Hid (∀ (v : Value) (w' : World), (fun v => v = .pointer (some ⟨ptrOf v, 0, none⟩)) v → Sp w0 ((Rw (ptrOf v) bs 0) :: rest) w' → K (A.put (some 18) v) w') := Lib.hid hK0
      clear hK0 hN hS
      have HE2 := Lib.hid (hE _ HBB.out)
      clear hE
      change Oper.wp _ _ A wx K _
      go_wp2_with fail
      refine (of_ok A0 ca n b H HNB.out (fun w9 H9 => HE2.out _ _ H9) (by omega)).mono ?_
      rintro _ w9 ⟨_, rfl, g6, rfl, H6⟩
      rw [HBS.out] at H6
      exact hK.out _ _ rfl H6
    · intro x wx A rest hN hS hE H K hK0
      have q18 := (hS 6 (by decide)).1
      have e18 : A.tmps[18]?.getD undef = x 6 := (hS 6 (by decide)).2 18 rfl
      replace H : Sp w0 ((Rw (ptrOf (x 6)) bs 0) :: rest) wx := H
      have hK : Hid (∀ (v : Value) (w' : World), (fun v => v = .pointer (some ⟨ptrOf v, 0, none⟩)) v → Sp w0 ((Rw (ptrOf v) bs 0) :: rest) w' → K (A.put (some 19) v) w') := Lib.hid hK0
      clear hK0 hN hS hE
      have q : x 6 = .pointer (some ⟨ptrOf (x 6), 0, none⟩) := q18
      clear q18
      obtain ⟨g6, e6⟩ : ∃ g6, ptrOf (x 6) = g6 := ⟨_, rfl⟩
      rw [e6] at q H
      rw [q] at e18
      clear q e6
      change Oper.wp _ _ A wx K _
      go_step
      exact hK.out _ _ rfl H
    · intro x wx A rest hN hS hE H K hK0
      have q19 := (hS 7 (by decide)).1
      have e19 : A.tmps[19]?.getD undef = x 7 := (hS 7 (by decide)).2 19 rfl
      replace H : Sp w0 ((Rw (ptrOf (x 7)) bs 0) :: rest) wx := H
      have hK : Hid (∀ (v : Value) (w' : World), (fun v => v = .pointer (some ⟨ptrOf v, 0, none⟩)) v → Sp w0 ((Rw (ptrOf v) bs 0) :: rest) w' → K (A.put (some 20) v) w') := Lib.hid hK0
      clear hK0 hN hS hE
      have q : x 7 = .pointer (some ⟨ptrOf (x 7), 0, none⟩) := q19
      clear q19
      obtain ⟨g6, e6⟩ : ∃ g6, ptrOf (x 7) = g6 := ⟨_, rfl⟩
      rw [e6] at q H
      rw [q] at e19
      clear q e6
      change Oper.wp _ _ A wx K _
      go_step
      exact hK.out _ _ rfl H
    · intro x wx A rest hN hS hE H K hK0
      have q20 := (hS 8 (by decide)).1
      have e20 : A.tmps[20]?.getD undef = x 8 := (hS 8 (by decide)).2 20 rfl
      replace H : Sp w0 ((Rw (ptrOf (x 8)) bs 0) :: rest) wx := H
      have hK : Hid (∀ (v : Value) (w' : World), (fun _ => True) v → Sp w0 ((Row 4 1 v bs.length (cellsB bs)) :: rest) w' → K (A.put (some 21) v) w') := Lib.hid hK0
      clear hK0 hN hS hE
      have q : x 8 = .pointer (some ⟨ptrOf (x 8), 0, none⟩) := q20
      clear q20
      obtain ⟨g6, e6⟩ : ∃ g6, ptrOf (x 8) = g6 := ⟨_, rfl⟩
      rw [e6] at q H
      rw [q] at e20
      clear q e6
      obtain ⟨B, d, H, _, c0, _, _, _, _, _⟩ := rw_open H
      change Oper.wp _ _ A wx K _
      go_step
      exact hK.out _ _ trivial H.tail
    · intro x wx A rest hN hS hE H K hK0
      have e16 : A.tmps[16]?.getD undef = .slice U N c := ((hS 4 (by decide)).2 16 rfl).trans (hS 4 (by decide)).1
      have q21 := (hS 9 (by decide)).1
      have e21 : A.tmps[21]?.getD undef = x 9 := (hS 9 (by decide)).2 21 rfl
      replace H : Sp w0 ((Row 4 1 (.slice U N c) N ys) :: (Row 4 1 (x 9) bs.length (cellsB bs)) :: rest) wx := H
      have hK : Hid (∀ (v : Value) (w' : World), (fun _ => True) v → Sp w0 ((Row 4 1 v (N + bs.length) (ys ++ cellsB bs)) :: rest) w' → K (A.put (some 22) v) w') := Lib.hid hK0
      clear hK0 hN hS hE
      obtain ⟨B, d, e9, hr, _, _⟩ := H.row_rd 1 rfl
      rw [e9] at e21
      change Oper.wp _ _ A wx K _
      refine wp_append_sp _ _ 64 rfl 4 i0 (.bool false) 1 1 Try.underlying64 hi hz0 hz1 hz2 rfl (by decide) (.slice U N c) N ys (ev e16) H B bs.length d (cellsB bs) (ev e21) (by simp [cellsB]) hr (cellsB_one _) (by simp only [maxLen]; omega) (by omega) ?_
      intro v1 w2 H2 _
      exact hK.out _ _ trivial (H2.pick 2 [0])
    · intro x wx A rest hN hS hE H K hK0
      have e12 : A.tmps[12]?.getD undef = .pointer (some ⟨g, 0, none⟩) := ((hS 0 (by decide)).2 12 rfl).trans (hS 0 (by decide)).1
      replace H : Sp w0 (rest) wx := H
      have hK : Hid (∀ (v : Value) (w' : World), v = .pointer (some ⟨g, 0, none⟩) → Sp w0 (rest) w' → K (A.put (some 23) v) w') := Lib.hid hK0
      clear hK0 hN hS hE
      change Oper.wp _ _ A wx K _
      go_step
      exact hK.out _ _ rfl (H)
    · intro x wx A rest hN hS hE H K hK0
      have e23 : A.tmps[23]?.getD undef = .pointer (some ⟨g, 0, none⟩) := ((hS 11 (by decide)).2 23 rfl).trans (hS 11 (by decide)).1
      replace H : Sp w0 (rest) wx := H
      have hK : Hid (∀ (v : Value) (w' : World), v = .pointer (some ⟨g, 0, none⟩) → Sp w0 (rest) w' → K (A.put (some 24) v) w') := Lib.hid hK0
      clear hK0 hN hS hE
      change Oper.wp _ _ A wx K _
      go_step
      exact hK.out _ _ rfl (H)
    · intro x wx A rest hN hS hE H K hK0
      have e24 : A.tmps[24]?.getD undef = .pointer (some ⟨g, 0, none⟩) := ((hS 12 (by decide)).2 24 rfl).trans (hS 12 (by decide)).1
      have q22 := (hS 10 (by decide)).1
      have e22 : A.tmps[22]?.getD undef = x 10 := (hS 10 (by decide)).2 22 rfl
      replace H : Sp w0 ((RwB g (.slice U N c) at_) :: (Row 4 1 (x 10) (N + bs.length) (ys ++ cellsB bs)) :: rest) wx := H
      have hK : Hid (∀ (v : Value) (w' : World), v = undef → Sp w0 ((Ex fun u => Star (RwB g u at_) (Row 4 1 u (N + bs.length) (ys ++ cellsB bs))) :: rest) w' → K (A.put none v) w') := Lib.hid hK0
      clear hK0 hN hS hE
      have c : wx.cell? ⟨g, 0, none⟩ = some (.slice U N c) := H.cell 0 rfl 0
      have z : wx.frozen? ⟨g, 0, none⟩ = false := H.frozen 0 rfl 0
      obtain ⟨A1, c1, ea, _, _⟩ := Row.form H 1 rfl
      change Oper.wp _ _ A wx K _
      rw [ea] at e22 H
      go_step
      exact hK.out _ _ rfl (Sp.ex (.slice A1 (N + bs.length) c1) (Sp.star (H.set 0 (.slice A1 (N + bs.length) c1))))
  case hend =>
    intro x wx A hA hS H
    replace H : Sp w0 ((Ex fun u => Star (RwB g u at_) (Row 4 1 u (N + bs.length) (ys ++ cellsB bs))) :: L) wx := H
    clear hS
    simp only [putAll, Act.put, List.setIfInBounds_toArray, List.set_cons_succ, List.set_cons_zero, Nat.reduceAdd] at hA
    subst hA
    obtain ⟨u, H⟩ := H.unex
    replace H := H.unstar
    go_wp2
    go_ret
    refine ⟨rfl, rw_shut (v := u) ?_⟩
    rw [List.length_append, HN.out, HBS.out, cellsB_append, HYS.out]
    exact H
set_option maxRecDepth 100000 in
set_option maxHeartbeats 1000000 in
theorem freverse_ok (n : Nat) (m : Int) (k : Nat) {w0 w : World} {L : List Pr} (H : Sp w0 L w) (hn : n < 18446744073709551616) (hk : (k : Int) = min (max m 0) 64) :
    Calls Try.prog 50 #[.int .u64 (n : Int), .int .i64 m] w fun e w' => e = .returned (.int .u64 (PBits.rev n k : Nat)) ∧ Sp w0 L w' := by
  obtain ⟨i0, hi, hz0, hz1, hz2⟩ := info_parts infoB
  obtain ⟨m', hm'⟩ : ∃ m' : Int, m' = if 64 < m then 64 else m := ⟨_, rfl⟩
  have hk' : (k : Int) = max m' 0 := by rw [hm', hk]; split <;> omega
  have hk64 : k ≤ 64 := by omega
  have HM := Lib.hid hm'
  have HK := Lib.hid hk'
  clear hm' hk' hk
  go_enter Try.func50, Try.ntmps50
  obtain ⟨bs, hbs⟩ : ∃ bs, bs = PBits.bitsOf n k := ⟨_, rfl⟩
  have hbl : bs.length = k := by rw [hbs]; exact PBits.bitsOf_length _ _
  have HBS := Lib.hid hbs
  have HBL := Lib.hid hbl
  clear hbs hbl
  have key : ∀ (u : Value) (w2 : World), Sp w0 (Row 4 1 u k (cellsB bs) :: L) w2 → True := fun _ _ _ => trivial
  clear key
  by_cases h64 : 64 < m
  · have e : m' = 64 := by rw [HM.out, if_pos h64]
    go_wp2_with fail
    refine (bits_ok n k 64 H hn (by rw [HK.out, e]) (by omega)).mono ?_
    rintro _ w2 ⟨_, rfl, u, rfl, H2⟩
    rw [← HBS.out] at H2
    obtain ⟨U, d, rfl, _, _⟩ := Row.form H2 0 rfl
    go_wp2
    go_loopw [7, 8] (fun o i wr => ∃ (j : Nat) (v : Value), j ≤ k ∧ v = o ∧ i = .int .i64 ((j : Int) - 1) ∧ Sp w0 (Row 4 1 v (k - j) (cellsB (bs.drop j).reverse) :: Row 4 1 (.slice U k d) k (cellsB bs) :: L) wr) (fun _ i _ => (intOf i + 1).toNat)
    case atStart => exact ⟨k, .slice none 0 0, Nat.le_refl _, rfl, rfl, by rw [List.drop_of_length_le (by rw [HBL.out]; exact Nat.le_refl _), Nat.sub_self]; exact H2.rowNil _ _⟩
    case round =>
      obtain ⟨j, v', hj, rfl, rfl, H3⟩ := hrel
      by_cases hlt : 0 < j
      · obtain ⟨i, rfl⟩ : ∃ i, j = i + 1 := ⟨j - 1, by omega⟩
        have ei : (((i + 1 : Nat) : Int) - 1) = (i : Int) := by omega
        rw [ei]
        have hil : i < bs.length := by rw [HBL.out]; omega
        have h0 : (0 : Int) ≤ (i : Int) := by omega
        have h1 : (i : Int) < k := by omega
        obtain ⟨ad, eU, hc⟩ : ∃ ad, U = some ad ∧ wr.cell? (ad.add i) = some (.bool bs[i]) := by
          obtain ⟨A, c, e, hr, _, _⟩ := H3.row_rd 1 rfl
          obtain ⟨ad, e2, hc⟩ := hr.atB hil
          injection e with e
          exact ⟨ad, e.trans e2, hc⟩
        subst eU
        obtain ⟨b, hb⟩ : ∃ b, bs[i] = b := ⟨_, rfl⟩
        have hrv := rev_snoc bs i hil
        rw [hb] at hrv hc
        have HRV := Lib.hid hrv
        obtain ⟨ys, hys⟩ : ∃ ys, ys = (bs.drop (i + 1)).reverse := ⟨_, rfl⟩
        rw [← hys] at H3 HRV
        obtain ⟨q, hq⟩ : ∃ q, q = k - (i + 1) := ⟨_, rfl⟩
        rw [← hq] at H3
        have HQ := Lib.hid hq
        have hq64 : q ≤ 64 := by omega
        clear hb hrv hys ei hq
        obtain ⟨V, c, rfl, _, _⟩ := Row.form H3 0 rfl
        go_wp2_with (at_builtin; refine wpList_append_sp rfl _ _ 64 rfl 4 i0 (.bool false) 1 1 Try.underlying64 hi hz0 hz1 hz2 rfl (by decide) (.slice V q c) q (cellsB ys) rfl ((H3.newBk [.bool b] _).pick 3 [1, 0, 2]) (some ⟨wr.heap.size, 0, none⟩) 1 1 [.bool b] rfl rfl (Rd.of_blk ((H3.newBk [.bool b] _).blk 0 rfl)) (by intro u hu; rw [List.mem_singleton.1 hu]; rfl) (by unfold maxLen; omega) (by omega) ?_)
        intro v1 w3 H4 _
        clear hc
        replace H4 : Sp w0 (Row 4 1 v1 (q + 1) (cellsB ys ++ [.bool b]) :: Row 4 1 (.slice (some ad) k d) k (cellsB bs) :: L) w3 := H4.pick 2 [0]
        go_wp2
        go_roundw
        case rel =>
          refine ⟨i, v1, by omega, rfl, rfl, ?_⟩
          have e1 : k - i = q + 1 := by rw [HQ.out]; omega
          have e2 : cellsB (bs.drop i).reverse = cellsB ys ++ [.bool b] := by rw [HRV.out, cellsB_append]; rfl
          rw [e1, e2]
          exact H4
        case measure => simp [intOf]
      · obtain rfl : j = 0 := by omega
        rw [List.drop_zero, Nat.sub_zero] at H3
        have hb : Bls wr v' bs.reverse := H3.row_bls 0 (by rw [List.length_reverse, HBL.out]; rfl)
        go_wp2_with fail
        refine (number_ok _ _ _ hb (by rw [List.length_reverse, HBL.out]; exact hk64)).mono ?_
        rintro _ w9 ⟨rfl, rfl⟩
        go_wp2
        go_ret
        refine ⟨?_, H3.tail2⟩
        rw [HBS.out, PBits.num_rev_bitsOf]
        rfl
  · have e : m' = m := by rw [HM.out, if_neg h64]
    go_wp2_with fail
    refine (bits_ok n k m H hn (by rw [HK.out, e]) (by omega)).mono ?_
    rintro _ w2 ⟨_, rfl, u, rfl, H2⟩
    rw [← HBS.out] at H2
    obtain ⟨U, d, rfl, _, _⟩ := Row.form H2 0 rfl
    go_wp2
    go_loopw [7, 8] (fun o i wr => ∃ (j : Nat) (v : Value), j ≤ k ∧ v = o ∧ i = .int .i64 ((j : Int) - 1) ∧ Sp w0 (Row 4 1 v (k - j) (cellsB (bs.drop j).reverse) :: Row 4 1 (.slice U k d) k (cellsB bs) :: L) wr) (fun _ i _ => (intOf i + 1).toNat)
    case atStart => exact ⟨k, .slice none 0 0, Nat.le_refl _, rfl, rfl, by rw [List.drop_of_length_le (by rw [HBL.out]; exact Nat.le_refl _), Nat.sub_self]; exact H2.rowNil _ _⟩
    case round =>
      obtain ⟨j, v', hj, rfl, rfl, H3⟩ := hrel
      by_cases hlt : 0 < j
      · obtain ⟨i, rfl⟩ : ∃ i, j = i + 1 := ⟨j - 1, by omega⟩
        have ei : (((i + 1 : Nat) : Int) - 1) = (i : Int) := by omega
        rw [ei]
        have hil : i < bs.length := by rw [HBL.out]; omega
        have h0 : (0 : Int) ≤ (i : Int) := by omega
        have h1 : (i : Int) < k := by omega
        obtain ⟨ad, eU, hc⟩ : ∃ ad, U = some ad ∧ wr.cell? (ad.add i) = some (.bool bs[i]) := by
          obtain ⟨A, c, e, hr, _, _⟩ := H3.row_rd 1 rfl
          obtain ⟨ad, e2, hc⟩ := hr.atB hil
          injection e with e
          exact ⟨ad, e.trans e2, hc⟩
        subst eU
        obtain ⟨b, hb⟩ : ∃ b, bs[i] = b := ⟨_, rfl⟩
        have hrv := rev_snoc bs i hil
        rw [hb] at hrv hc
        have HRV := Lib.hid hrv
        obtain ⟨ys, hys⟩ : ∃ ys, ys = (bs.drop (i + 1)).reverse := ⟨_, rfl⟩
        rw [← hys] at H3 HRV
        obtain ⟨q, hq⟩ : ∃ q, q = k - (i + 1) := ⟨_, rfl⟩
        rw [← hq] at H3
        have HQ := Lib.hid hq
        have hq64 : q ≤ 64 := by omega
        clear hb hrv hys ei hq
        obtain ⟨V, c, rfl, _, _⟩ := Row.form H3 0 rfl
        go_wp2_with (at_builtin; refine wpList_append_sp rfl _ _ 64 rfl 4 i0 (.bool false) 1 1 Try.underlying64 hi hz0 hz1 hz2 rfl (by decide) (.slice V q c) q (cellsB ys) rfl ((H3.newBk [.bool b] _).pick 3 [1, 0, 2]) (some ⟨wr.heap.size, 0, none⟩) 1 1 [.bool b] rfl rfl (Rd.of_blk ((H3.newBk [.bool b] _).blk 0 rfl)) (by intro u hu; rw [List.mem_singleton.1 hu]; rfl) (by unfold maxLen; omega) (by omega) ?_)
        intro v1 w3 H4 _
        clear hc
        replace H4 : Sp w0 (Row 4 1 v1 (q + 1) (cellsB ys ++ [.bool b]) :: Row 4 1 (.slice (some ad) k d) k (cellsB bs) :: L) w3 := H4.pick 2 [0]
        go_wp2
        go_roundw
        case rel =>
          refine ⟨i, v1, by omega, rfl, rfl, ?_⟩
          have e1 : k - i = q + 1 := by rw [HQ.out]; omega
          have e2 : cellsB (bs.drop i).reverse = cellsB ys ++ [.bool b] := by rw [HRV.out, cellsB_append]; rfl
          rw [e1, e2]
          exact H4
        case measure => simp [intOf]
      · obtain rfl : j = 0 := by omega
        rw [List.drop_zero, Nat.sub_zero] at H3
        have hb : Bls wr v' bs.reverse := H3.row_bls 0 (by rw [List.length_reverse, HBL.out]; rfl)
        go_wp2_with fail
        refine (number_ok _ _ _ hb (by rw [List.length_reverse, HBL.out]; exact hk64)).mono ?_
        rintro _ w9 ⟨rfl, rfl⟩
        go_wp2
        go_ret
        refine ⟨?_, H3.tail2⟩
        rw [HBS.out, PBits.num_rev_bitsOf]
        rfl
end Go.Proofs.Ytkgnihpcldgedaa
