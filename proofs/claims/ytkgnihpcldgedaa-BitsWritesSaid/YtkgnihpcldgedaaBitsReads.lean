/- BitsReads: the walk of the law. -/
import Derived.Test.YtkgnihpcldgedaaBitsActs
import Derived.Test.YtkgnihpcldgedaaBitsN
namespace Go.Proofs.Ytkgnihpcldgedaa
open Go.RowKit
def U8s (xs : List Value) : Prop := ∀ u ∈ xs, ∃ z : Int, u = .int .u8 z
theorem U8s.cells (l : List UInt8) : U8s (cells8 l) := fun u hu => by
  obtain ⟨x, _, rfl⟩ := List.mem_map.1 hu
  exact ⟨_, rfl⟩
theorem U8s.set_ {xs : List Value} (h : U8s xs) (i : Nat) (z : Int) : U8s (xs.set i (.int .u8 z)) := fun u hu => by
  rcases List.mem_or_eq_of_mem_set hu with h1 | h1
  · exact h u h1
  · exact ⟨z, h1⟩
theorem left_q (g : Nat) (l : List UInt8) (at_ : Nat) {w0 w : World} {L : List Pr} (H : Sp w0 (Rr g l at_ :: L) w) (ha : at_ ≤ 8 * l.length) (hl : l.length ≤ 1000000000) :
    Calls Try.prog 41 #[.pointer (some ⟨g, 0, none⟩)] w fun e w' => e = .returned (.int .i64 ((8 * l.length - at_ : Nat) : Int)) ∧ ∃ m, w' = w.drewN m := by
  obtain ⟨A, c, _, _, c0, c1, c2⟩ := rr_open H
  clear H
  obtain ⟨n, hn⟩ : ∃ n, l.length = n := ⟨_, rfl⟩
  rw [hn] at c0 ha hl ⊢
  clear hn
  have h8 : (at_ : Int) ≤ 8 * n := by omega
  go_enter Try.func41, Try.ntmps41
  go_wp2_with fail
  refine (rnone_any g _ c2).mono ?_
  rintro e w2 ⟨rfl, rfl⟩
  go_wp2
  go_quiet (fail)
  go_wp2
  go_ret
  exact ⟨ret_i64 (by omega), _, rfl⟩
theorem fleft_q (g : Nat) (l : List Bool) (at_ : Nat) {w0 w : World} {L : List Pr} (H : Sp w0 (Rw g l at_ :: L) w) (ha : at_ ≤ l.length) (hl : l.length ≤ 1000000000) :
    Calls Try.prog 59 #[.pointer (some ⟨g, 0, none⟩)] w fun e w' => e = .returned (.int .i64 ((l.length - at_ : Nat) : Int)) ∧ ∃ m, w' = w.drewN m := by
  obtain ⟨A, c, _, _, c0, c1, _⟩ := rw_open H
  clear H
  obtain ⟨n, hn⟩ : ∃ n, l.length = n := ⟨_, rfl⟩
  rw [hn] at c0 ha hl ⊢
  clear hn
  have h8 : (at_ : Int) ≤ n := by omega
  go_enter Try.func59, Try.ntmps59
  go_wp2
  go_quiet (fail)
  go_wp2
  go_ret
  exact ⟨ret_i64 (by omega), _, rfl⟩
theorem fpeek_eq (l : List UInt8) (a k : Nat) (h : a + k ≤ 8 * l.length) : PBits.num (((PBits.ofB l).drop a).take k) = PBits.peek l a k := by
  rw [PBits.num_mid _ _ _ (by rw [PBits.ofB_length]; exact h), PBits.num_ofB]; rfl
theorem ofB_bytes (l : List UInt8) : PBits.bytesOf (PBits.num (PBits.ofB l)) (((PBits.ofB l).length + 7) / 8) = l := by
  rw [PBits.num_ofB, PBits.ofB_length, show (8 * l.length + 7) / 8 = l.length by omega, PBits.bytesOf_le]
/-- What a call has left: the same of both. -/
def ReadsMid (w0 : World) (L : List Pr) (r f : Nat) (l : List UInt8) (i : Nat) (s11 s12 s13 s14 s15 s16 s46 : Value) (wx : World) : Prop :=
  ∃ (z : Nat) (e : Int) (bl : List UInt8) (a : Nat), s11 = .int .u64 (z : Int) ∧ s12 = .int .u64 (z : Int) ∧ Byt wx s13 bl ∧ Byt wx s14 bl ∧ s15 = .int .i64 e ∧ s16 = .int .i64 e ∧ s46 = .int .i64 (i : Int) ∧ a ≤ 8 * l.length ∧
    Sp w0 (Rr r l a :: Rw f (PBits.ofB l) a :: L) wx
set_option maxRecDepth 100000 in
set_option maxHeartbeats 8000000 in
theorem reads_any (A : Option Addr) (ca : Nat) (b0 : List UInt8) (A2 : Option Addr) (len ca2 : Nat) (ts : List BAct) {w0 w : World} {L : List Pr} (H : Sp w0 L w) (hE : ∀ w', Sp w0 L w' → Byt w' (.slice A b0.length ca) b0) (hE2 : ∀ w', Sp w0 L w' → Acts w' A2 ts) (hlen : len = ts.length) (hlm0 : len ≤ maxLen) :
    Calls Try.prog 9 #[.slice A b0.length ca, .slice A2 len ca2] w fun e w' => e = .returned (.bool true) ∧ Sp w0 L w' := by
  obtain ⟨hb1, hb2⟩ : b0.length ≤ ca ∧ ca ≤ maxLen := by
    obtain ⟨_, _, e, _, h1, h2⟩ := hE w H
    injection e with _ _ e
    subst e
    exact ⟨h1, h2⟩
  have hlm := hlm0
  unfold maxLen at hb2 hlm
  obtain ⟨n, hn⟩ : ∃ n : Nat, n = min b0.length 200 := ⟨_, rfl⟩
  have hmn : ∀ W : World, (Builtin.min_ #[3, 3] 3 #[.int .i64 (b0.length : Int), .int .i64 200]).run Try.prog W = .ok (.int .i64 (n : Int)) W := fun W => by
    simp [Builtin.min_, Builtin.min2]
    split <;> omega
  have hna : n ≤ b0.length := by omega
  have hnk : n ≤ 200 := by omega
  have hnc : (n : Int) ≤ ca := by omega
  clear hn
  obtain ⟨l, hl⟩ : ∃ l, b0.take n = l := ⟨_, rfl⟩
  have hll : l.length = n := by rw [← hl]; simp; omega
  have hB : ∀ w', Sp w0 L w' → Byt w' (.slice A n ca) l := fun w' H' => by rw [← hl]; exact (hE w' H').take n hna
  have HL := Lib.hid hll
  have HB := Lib.hid hB
  have HE2 := Lib.hid hE2
  have HLEN := Lib.hid hlen
  clear hl hll hE hE2 hlen hB
  go_enter Try.func9, Try.ntmps9
  go_wp2_with fail
  refine (clone_ok H (HB.out _ H) (by rw [HL.out]; omega)).mono ?_
  rintro _ w1 ⟨v, rfl, H1⟩
  rw [HL.out] at H1
  clear hmn
  go_wp2_with fail
  refine (newReader_ok (l := l) H1 (H1.row_byt 0 (by rw [HL.out]; rfl)) (by rw [HL.out]; omega)).mono ?_
  rintro _ w2 ⟨_, rfl, r, rfl, H2⟩
  go_wp2_with fail
  refine (of_ok A ca n l H2 HL.out.symm (fun w' H' => HB.out _ (H'.pick 2 [])) (by rw [HL.out]; omega)).mono ?_
  rintro _ w3 ⟨_, rfl, f, rfl, H3⟩
  replace H3 : Sp w0 (Row 5 1 v n (cells8 l) :: Rr r l 0 :: Rw f (PBits.ofB l) 0 :: L) w3 := H3.pick 3 [2, 1, 0]
  obtain ⟨B, cb, rfl, _, hcb⟩ := Row.form H3 0 rfl
  unfold maxLen at hcb
  go_wp2_with fail
  go_loopw [34] (fun i wr => ∃ (j : Nat) (xs : List Value), j ≤ n ∧ i = .int .i64 (j : Int) ∧ U8s xs ∧ Sp w0 (Row 5 1 (.slice B n cb) n xs :: Rr r l 0 :: Rw f (PBits.ofB l) 0 :: L) wr) (fun i _ => n - (intOf i).toNat)
  case atStart => exact ⟨0, _, Nat.zero_le _, rfl, U8s.cells l, H3⟩
  case round =>
    obtain ⟨j, xs, hj, rfl, hu, H4⟩ := hrel
    by_cases hlt : j < n
    · have hlt' : (j : Int) < n := by omega
      obtain ⟨ad, c9, ev, _, hc, hz, hset⟩ := H4.rowSet hlt
      injection ev with ev e2 e3
      subst ev
      clear e2 e3
      have hjx : j < xs.length := by
        have := (H4.owns 0 rfl).1
        omega
      rw [List.getElem?_eq_getElem hjx] at hc
      obtain ⟨z, hzz⟩ := hu _ (List.getElem_mem hjx)
      rw [hzz] at hc
      have HU := Lib.hid hu
      have HS := Lib.hid hset
      clear hu hset hzz
      go_wp2
      go_roundw
      case rel => exact ⟨j + 1, _, by omega, by go_num, HU.out.set_ j _, HS.out _⟩
      case measure => simp [intOf]; omega
    · have hlt' : ¬ (j : Int) < n := by omega
      replace H4 : Sp w0 (Rr r l 0 :: Rw f (PBits.ofB l) 0 :: L) wr := H4.tail
      clear hu
      go_wp2_with fail
      go_loopw [46] (fun i wr => ∃ (j a : Nat), j ≤ len ∧ j ≤ 60 ∧ a ≤ 8 * n ∧ i = .int .i64 (j : Int) ∧ Sp w0 (Rr r l a :: Rw f (PBits.ofB l) a :: L) wr) (fun i _ => len - (intOf i).toNat)
      case atStart => exact ⟨0, 0, Nat.zero_le _, Nat.zero_le _, Nat.zero_le _, rfl, H4⟩
      case round =>
        obtain ⟨i, a, hi, hi6, ha, rfl, H5⟩ := hrel
        by_cases hit : i < len
        · have hit' : (i : Int) < len := by omega
          have hil : i < ts.length := by rw [← HLEN.out]; exact hit
          obtain ⟨ad, eA, t0c, t1c, t2c, t3c, tb, tn, tm⟩ := HE2.out _ (H5.pick 2 []) i hil
          obtain ⟨x, hx⟩ : ∃ x, ts[i] = x := ⟨_, rfl⟩
          rw [hx] at t0c t1c t2c t3c tb tn tm
          subst eA
          obtain ⟨tw, tm0, tn0, tb0, tv0⟩ := x
          simp only at t0c t1c t2c t3c tb tn tm
          rw [← field_addr ad (i * 4) 1 (by decide)] at t1c
          rw [← field_addr ad (i * 4) 2 (by decide)] at t2c
          rw [← field_addr ad (i * 4) 3 (by decide)] at t3c
          obtain ⟨B3, cb3, rfl, _, _, _⟩ := id tb
          clear hx tb
          have H6 := H5.newBk [.int .i64 tw, .int .i64 tm0, .int .u64 (tn0 : Int), .slice B3 tb0.length cb3] 68
          by_cases hi60 : i = 60
          · have hi60' : ((i : Int) == 60) = true := by rw [beq_iff_eq]; omega
            clear hi60
            go_wp2_with fail
            have H7 : Sp w0 L _ := H6.pick 3 []
            refine (wakes_ok H7).mono ?_
            rintro e w14 ⟨rfl, H14⟩
            go_wp2
            go_ret
            exact ⟨rfl, H14⟩
          · have hi60' : ((i : Int) == 60) = false := by rw [beq_eq_false_iff_ne]; omega
            have hi59 : i + 1 ≤ 60 := by omega
            clear hi60
            go_upto_block 4 with (fail)
            generalize wr.alloc _ = w5 at H6 ⊢
            generalize wr.heap.size = ga at H6 ⊢
            clear t0c t1c t2c t3c
            go_cut [11, 12, 13, 14, 15, 16, 46] from 46 to 160 (fun s11 s12 s13 s14 s15 s16 s46 wx => ReadsMid w0 L r f l i s11 s12 s13 s14 s15 s16 s46 wx)
            case first =>
              have hl2 : (PBits.ofB l).length = 8 * l.length := PBits.ofB_length l
              have hl3 : l.length ≤ 200 := by rw [HL.out]; exact hnk
              have ha2 : a ≤ 8 * l.length := by rw [HL.out]; exact ha
              have HL2 := Lib.hid hl2
              clear hl2
              have x0 : w5.cell? ⟨ga, 1, none⟩ = some (.int .i64 tm0) := H6.cell 0 rfl 1
              by_cases e0 : tw = 0
              · subst e0
                by_cases hbad : tm0 < 0 ∨ 57 < tm0
                · go_wp2_with fail
                  refine (get_bad r l a tm0 (H6.pick 3 [1, 0, 2]) ha2 hbad (by omega)).mono ?_
                  rintro _ w6 ⟨rfl, K⟩
                  replace H6 := K.sep H6
                  clear K x0
                  have x0 : w6.cell? ⟨ga, 1, none⟩ = some (.int .i64 tm0) := H6.cell 0 rfl 1
                  go_wp2_with fail
                  refine (fget_bad f tm0 _ hbad).mono ?_
                  rintro _ w7 ⟨rfl, rfl⟩
                  go_wp2_with fail
                  go_meet
                  exact ⟨0, 1, [], a, rfl, rfl, Byt.nil _, Byt.nil _, rfl, rfl, rfl, ha2, H6.tail⟩
                · obtain ⟨k, rfl⟩ : ∃ k : Nat, tm0 = (k : Int) := ⟨tm0.toNat, by omega⟩
                  have hk : k ≤ 57 := by omega
                  by_cases hs : 8 * l.length < a + k
                  · go_wp2_with fail
                    refine (get_short r l a k (H6.pick 3 [1, 0, 2]) ha2 hs hk (by omega)).mono ?_
                    rintro _ w6 ⟨rfl, K⟩
                    replace H6 := K.sep H6
                    clear K x0
                    have x0 : w6.cell? ⟨ga, 1, none⟩ = some (.int .i64 (k : Int)) := H6.cell 0 rfl 1
                    go_wp2_with fail
                    refine (fget_short f (PBits.ofB l) a k (H6.pick 3 [2, 0, 1]) (by rw [HL2.out]; exact ha2) (by rw [HL2.out]; exact hs) hk (by rw [HL2.out]; omega)).mono ?_
                    rintro _ w7 ⟨rfl, K⟩
                    replace H6 := K.sep H6
                    go_wp2_with fail
                    go_meet
                    exact ⟨0, 4, [], a, rfl, rfl, Byt.nil _, Byt.nil _, rfl, rfl, rfl, ha2, H6.tail⟩
                  · have hle : a + k ≤ 8 * l.length := by omega
                    go_wp2_with fail
                    refine (get_ok r l a k (H6.pick 3 [1, 0, 2]) hle hk (by omega)).mono ?_
                    rintro _ w6 ⟨rfl, H7⟩
                    clear x0
                    have x0 : w6.cell? ⟨ga, 1, none⟩ = some (.int .i64 (k : Int)) := H7.cell 1 rfl 1
                    go_wp2_with fail
                    refine (fget_ok f (PBits.ofB l) a k (H7.pick 3 [2, 0, 1]) (by rw [HL2.out]; exact hle) hk (by rw [HL2.out]; omega)).mono ?_
                    rintro _ w7 ⟨rfl, H8⟩
                    rw [fpeek_eq l a k hle]
                    go_wp2_with fail
                    go_meet
                    exact ⟨_, 0, [], a + k, rfl, rfl, Byt.nil _, Byt.nil _, rfl, rfl, rfl, hle, H8.pick 3 [1, 0]⟩
              · have e0' : (tw == 0) = false := by rw [beq_eq_false_iff_ne]; exact e0
                by_cases e1 : tw = 1
                · subst e1
                  by_cases hbad : tm0 < 0 ∨ 57 < tm0
                  · obtain ⟨_, _, _, _, _, _, c2⟩ := rr_open (H6.pick 3 [1, 0, 2])
                    go_wp2_with fail
                    refine (skip_bad r tm0 c2 hbad).mono ?_
                    rintro _ w6 ⟨rfl, rfl⟩
                    clear c2
                    go_wp2_with fail
                    refine (fget_bad f tm0 _ hbad).mono ?_
                    rintro _ w7 ⟨rfl, rfl⟩
                    go_wp2_with fail
                    go_meet
                    exact ⟨0, 1, [], a, rfl, rfl, Byt.nil _, Byt.nil _, rfl, rfl, rfl, ha2, H6.tail⟩
                  · obtain ⟨k, rfl⟩ : ∃ k : Nat, tm0 = (k : Int) := ⟨tm0.toNat, by omega⟩
                    have hk : k ≤ 57 := by omega
                    by_cases hs : 8 * l.length < a + k
                    · go_wp2_with fail
                      refine (skip_short r l a k (H6.pick 3 [1, 0, 2]) ha2 hs hk (by omega)).mono ?_
                      rintro _ w6 ⟨rfl, K⟩
                      replace H6 := K.sep H6
                      clear K x0
                      have x0 : w6.cell? ⟨ga, 1, none⟩ = some (.int .i64 (k : Int)) := H6.cell 0 rfl 1
                      go_wp2_with fail
                      refine (fget_short f (PBits.ofB l) a k (H6.pick 3 [2, 0, 1]) (by rw [HL2.out]; exact ha2) (by rw [HL2.out]; exact hs) hk (by rw [HL2.out]; omega)).mono ?_
                      rintro _ w7 ⟨rfl, K⟩
                      replace H6 := K.sep H6
                      go_wp2_with fail
                      go_meet
                      exact ⟨0, 4, [], a, rfl, rfl, Byt.nil _, Byt.nil _, rfl, rfl, rfl, ha2, H6.tail⟩
                    · have hle : a + k ≤ 8 * l.length := by omega
                      go_wp2_with fail
                      refine (skip_ok r l a k (H6.pick 3 [1, 0, 2]) hle hk (by omega)).mono ?_
                      rintro _ w6 ⟨rfl, H7⟩
                      clear x0
                      have x0 : w6.cell? ⟨ga, 1, none⟩ = some (.int .i64 (k : Int)) := H7.cell 1 rfl 1
                      go_wp2_with fail
                      refine (fget_ok f (PBits.ofB l) a k (H7.pick 3 [2, 0, 1]) (by rw [HL2.out]; exact hle) hk (by rw [HL2.out]; omega)).mono ?_
                      rintro _ w7 ⟨rfl, H8⟩
                      go_wp2_with fail
                      go_meet
                      exact ⟨0, 0, [], a + k, rfl, rfl, Byt.nil _, Byt.nil _, rfl, rfl, rfl, hle, H8.pick 3 [1, 0]⟩
                · have e1' : (tw == 1) = false := by rw [beq_eq_false_iff_ne]; exact e1
                  by_cases e2 : tw = 2
                  · subst e2
                    go_wp2_with fail
                    refine (ralign_ok r l a (H6.pick 3 [1, 0, 2]) ha2 (by omega)).mono ?_
                    rintro _ w6 ⟨rfl, H7⟩
                    clear x0
                    go_wp2_with fail
                    refine (falign_ok f (PBits.ofB l) a (H7.pick 3 [2, 0, 1]) (by omega)).mono ?_
                    rintro _ w7 ⟨rfl, H8⟩
                    go_wp2_with fail
                    go_meet
                    exact ⟨0, 0, [], (a + 7) / 8 * 8, rfl, rfl, Byt.nil _, Byt.nil _, rfl, rfl, rfl, by omega, H8.pick 3 [1, 0]⟩
                  · have e2' : (tw == 2) = false := by rw [beq_eq_false_iff_ne]; exact e2
                    by_cases e3 : tw = 3
                    · subst e3
                      by_cases hm0 : tm0 < 0
                      · obtain ⟨_, _, _, _, _, c1, c2⟩ := rr_open (H6.pick 3 [1, 0, 2])
                        obtain ⟨_, _, _, _, _, d1, _⟩ := rw_open (H6.pick 3 [2, 0, 1])
                        go_wp2_with fail
                        refine (rbytes_neg r tm0 _ c2 hm0).mono ?_
                        rintro _ w6 ⟨rfl, rfl⟩
                        go_wp2_with fail
                        refine (fbytes_bad f tm0 a _ d1 (.inl hm0)).mono ?_
                        rintro _ w7 ⟨rfl, rfl⟩
                        go_wp2_with fail
                        go_meet
                        exact ⟨0, 1, [], a, rfl, rfl, Byt.nil _, Byt.nil _, rfl, rfl, rfl, ha2, H6.tail⟩
                      · obtain ⟨k, rfl⟩ : ∃ k : Nat, tm0 = (k : Int) := ⟨tm0.toNat, by omega⟩
                        by_cases ha8 : a % 8 = 0
                        · obtain ⟨q, rfl⟩ : ∃ q, a = 8 * q := ⟨a / 8, by omega⟩
                          by_cases hs : l.length < q + k
                          · go_wp2_with fail
                            refine (rbytes_short r l q k (H6.pick 3 [1, 0, 2]) (by omega) hs (by omega)).mono ?_
                            rintro _ w6 ⟨rfl, K⟩
                            replace H6 := K.sep H6
                            clear K x0
                            have x0 : w6.cell? ⟨ga, 1, none⟩ = some (.int .i64 (k : Int)) := H6.cell 0 rfl 1
                            go_wp2_with fail
                            refine (fbytes_short f (PBits.ofB l) q k (H6.pick 3 [2, 0, 1]) (by rw [HL2.out]; omega) (by rw [HL2.out]; omega) (by rw [HL2.out]; omega)).mono ?_
                            rintro _ w7 ⟨rfl, K⟩
                            replace H6 := K.sep H6
                            go_wp2_with fail
                            go_meet
                            exact ⟨0, 4, [], 8 * q, rfl, rfl, Byt.nil _, Byt.nil _, rfl, rfl, rfl, ha2, H6.tail⟩
                          · go_wp2_with fail
                            refine (rbytes_ok r l q k (H6.pick 3 [1, 0, 2]) (by omega) (by omega)).mono ?_
                            rintro _ w6 ⟨_, rfl, u, rfl, H7⟩
                            clear x0
                            obtain ⟨A9, c9, rfl, _, _⟩ := Row.form H7 0 rfl
                            have x0 : w6.cell? ⟨ga, 1, none⟩ = some (.int .i64 (k : Int)) := H7.cell 2 rfl 1
                            go_wp2_with fail
                            refine (fbytes_ok f (PBits.ofB l) q k (H7.pick 4 [3, 0, 1, 2]) (by rw [HL2.out]; omega) (by rw [HL2.out]; omega)).mono ?_
                            rintro _ w7 ⟨_, rfl, u2, rfl, H8, hb8⟩
                            rw [ofB_bytes] at hb8
                            obtain ⟨A10, c10, e10, _⟩ := id hb8
                            have hlk : ((l.drop q).take k).length = k := by rw [List.length_take, List.length_drop]; omega
                            rw [hlk] at e10
                            subst e10
                            have hb9 : Byt w7 (.slice A9 k c9) ((l.drop q).take k) := H8.row_byt 1 (by rw [hlk]; rfl)
                            have HB8 := Lib.hid hb8
                            have HB9 := Lib.hid hb9
                            clear hb8 hb9 hlk
                            go_wp2_with fail
                            go_meet
                            exact ⟨0, 0, _, 8 * (q + k), rfl, rfl, HB9.out, HB8.out, rfl, rfl, rfl, by omega, H8.pick 4 [2, 0]⟩
                        · obtain ⟨_, _, _, _, _, c1, c2⟩ := rr_open (H6.pick 3 [1, 0, 2])
                          obtain ⟨_, _, _, _, _, d1, _⟩ := rw_open (H6.pick 3 [2, 0, 1])
                          go_wp2_with fail
                          refine (rbytes_mid r k a _ c2 c1 ha8).mono ?_
                          rintro _ w6 ⟨rfl, rfl⟩
                          go_wp2_with fail
                          refine (fbytes_bad f k a _ d1 (.inr ha8)).mono ?_
                          rintro _ w7 ⟨rfl, rfl⟩
                          go_wp2_with fail
                          go_meet
                          exact ⟨0, 1, [], a, rfl, rfl, Byt.nil _, Byt.nil _, rfl, rfl, rfl, ha2, H6.tail⟩
                    · have e3' : (tw == 3) = false := by rw [beq_eq_false_iff_ne]; exact e3
                      by_cases e4 : tw = 4
                      · subst e4
                        obtain ⟨k, hk⟩ : ∃ k : Nat, (k : Int) = min (min (max tm0 0) 57) ((8 * l.length - a : Nat) : Int) := ⟨(min (min (max tm0 0) 57) ((8 * l.length - a : Nat) : Int)).toNat, by omega⟩
                        have hle : a + k ≤ 8 * l.length := by omega
                        have HK := Lib.hid hk
                        clear hk
                        go_wp2_with fail
                        refine (peek_ok r l a tm0 k (H6.pick 3 [1, 0, 2]) ha2 (by omega) HK.out).mono ?_
                        rintro _ w6 ⟨rfl, K⟩
                        replace H6 := K.sep H6
                        clear K x0
                        have x0 : w6.cell? ⟨ga, 1, none⟩ = some (.int .i64 tm0) := H6.cell 0 rfl 1
                        go_wp2_with fail
                        refine (fpeek_ok f (PBits.ofB l) a tm0 k (H6.pick 3 [2, 0, 1]) (by rw [HL2.out]; exact ha2) (by rw [HL2.out]; omega) (by rw [HL2.out]; exact HK.out)).mono ?_
                        rintro _ w7 ⟨rfl, H8⟩
                        rw [fpeek_eq l a k hle]
                        go_wp2_with fail
                        go_meet
                        exact ⟨0, 0, [], a, rfl, rfl, Byt.nil _, Byt.nil _, rfl, rfl, rfl, ha2, H8.pick 3 [2, 0]⟩
                      · have e4' : (tw == 4) = false := by rw [beq_eq_false_iff_ne]; exact e4
                        go_wp2_with fail
                        go_meet
                        exact ⟨0, 0, [], a, rfl, rfl, Byt.nil _, Byt.nil _, rfl, rfl, rfl, ha2, H6.tail⟩
            case rest =>
              obtain ⟨z, e, bl, a, rfl, rfl, hb1, hb2, rfl, rfl, rfl, ha2, H7⟩ := hcut
              have hl2 : (PBits.ofB l).length = 8 * l.length := PBits.ofB_length l
              have hl3 : l.length ≤ 200 := by rw [HL.out]; exact hnk
              obtain ⟨A10, c10, rfl, _⟩ := id hb1
              obtain ⟨A11, c11, rfl, _⟩ := id hb2
              have HB1 := Lib.hid hb1
              have HB2 := Lib.hid hb2
              have HL2 := Lib.hid hl2
              obtain ⟨_, _, _, _, _, d1, _⟩ := rw_open (H7.pick 2 [1, 0])
              clear hb1 hb2 hl2 hi60'
              go_wp2_with fail
              obtain ⟨_, _, _, _, _, g1, g2⟩ := rr_open H7
              have EQ : Hid (∀ m, Calls Try.prog 27 #[.slice A10 bl.length c10, .slice A11 bl.length c11] (wc.drewN m) fun e w' => e = .returned (.bool true) ∧ w' = wc.drewN m) := fun m => (equal_ok (HB1.out.keep_ (Keep.drewN _ m)) (HB2.out.keep_ (Keep.drewN _ m))).mono fun _ _ h => ⟨by rw [beq_self_eq_true] at h; exact h.1, h.2.symm⟩
              have LE : Hid (∀ m, Calls Try.prog 41 #[.pointer (some ⟨r, 0, none⟩)] (wc.drewN m) fun e w' => e = .returned (.int .i64 ((8 * l.length - a : Nat) : Int)) ∧ ∃ k, w' = (wc.drewN m).drewN k) := fun m => left_q r l a (H7.drewN m) ha2 (by omega)
              have FL : Hid (∀ m, Calls Try.prog 59 #[.pointer (some ⟨f, 0, none⟩)] (wc.drewN m) fun e w' => e = .returned (.int .i64 ((8 * l.length - a : Nat) : Int)) ∧ ∃ k, w' = (wc.drewN m).drewN k) := fun m => by
                have := fleft_q f (PBits.ofB l) a ((Sp.swap H7).drewN m) (by rw [HL2.out]; exact ha2) (by rw [HL2.out]; omega)
                rwa [HL2.out] at this
              have AT : Hid (∀ m, Calls Try.prog 40 #[.pointer (some ⟨r, 0, none⟩)] (wc.drewN m) fun e w' => e = .returned (.int .i64 (a : Int)) ∧ w' = wc.drewN m) := fun m => (at_ok r a (w := wc.drewN m) g1 g2).mono fun _ _ h => ⟨h.1, h.2.symm⟩
              clear g1 g2
              go_quiet ((first
                | (go_at_call 27; exact Calls.quiet_of_same (EQ.out _))
                | (go_at_call 41; exact Calls.quiet_of (LE.out _))
                | (go_at_call 59; exact Calls.quiet_of (FL.out _))
                | (go_at_call 40; exact Calls.quiet_of_same (AT.out _))))
              clear EQ LE FL AT d1
              go_wp2
              go_roundw
              case rel => exact ⟨i + 1, a, by omega, hi59, by rw [← HL.out]; exact ha2, by go_num, H7.drewN _⟩
              case measure => simp [intOf]; omega
        · have hit' : ¬ (i : Int) < len := by omega
          go_wp2_with fail
          refine (wakes_ok (H5.pick 2 [])).mono ?_
          rintro e w14 ⟨rfl, H14⟩
          go_wp2
          go_ret
          exact ⟨rfl, H14⟩
end Go.Proofs.Ytkgnihpcldgedaa
