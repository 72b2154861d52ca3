/- BitsBack: the walk of the law. -/
import Derived.Test.YtkgnihpcldgedaaBitsThing
namespace Go.Proofs.Ytkgnihpcldgedaa
open Go.RowKit
/-- Things that lie side by side. -/
def Things (w : World) (A : Option Addr) (ts : List Thing) : Prop := ∀ (i : Nat) (h : i < ts.length), ∃ ad, A = some ad ∧ w.cell? (ad.add (i * 4)) = some (.int .u64 (ts[i].n : Int)) ∧ w.cell? (ad.add (i * 4 + 1)) = some (.int .u8 (ts[i].m : Int)) ∧
  w.cell? (ad.add (i * 4 + 2)) = some (.bool ts[i].c) ∧ w.cell? (ad.add (i * 4 + 3)) = some ts[i].v ∧ Byt w ts[i].v ts[i].b ∧ ts[i].n < 18446744073709551616 ∧ ts[i].m < 256
set_option maxRecDepth 100000 in
set_option maxHeartbeats 4000000 in
theorem back_any (A : Option Addr) (ca len : Nat) (t0 : List Thing) {w0 w : World} {L : List Pr} (H : Sp w0 L w) (hE : ∀ w', Sp w0 L w' → Things w' A t0) (hlen : len = t0.length) (hca : len ≤ ca) (hcm0 : ca ≤ maxLen) :
    Calls Try.prog 10 #[.slice A len ca] w fun e w' => e = .returned (.bool true) ∧ Sp w0 L w' := by
  have hcm := hcm0
  unfold maxLen at hcm
  obtain ⟨n, hn⟩ : ∃ n : Nat, n = min len 60 := ⟨_, rfl⟩
  have hmn : ∀ W : World, (Builtin.min_ #[3, 3] 3 #[.int .i64 (len : Int), .int .i64 60]).run Try.prog W = .ok (.int .i64 (n : Int)) W := fun W => by
    simp [Builtin.min_, Builtin.min2]
    split <;> omega
  have hna : n ≤ t0.length := by omega
  have hnk : n ≤ 60 := by omega
  have hnc : (n : Int) ≤ ca := by omega
  clear hn
  obtain ⟨ts, hts⟩ : ∃ ts, t0.take n = ts := ⟨_, rfl⟩
  have htl : ts.length = n := by rw [← hts]; simp; omega
  have hT : ∀ w', Sp w0 L w' → Things w' A ts := fun w' H' i hi => by
    subst hts
    have hi' : i < t0.length := by simp at hi; omega
    have e : (t0.take n)[i] = t0[i] := by simp
    rw [e]
    exact hE w' H' i hi'
  have HL := Lib.hid htl
  have HN := Lib.hid hlen
  clear hts htl hE hlen
  go_enter Try.func10, Try.ntmps10
  go_wp2_with fail
  refine (newWriter_ok H).mono ?_
  rintro e w1 ⟨_, rfl, g, rfl, H1⟩
  clear hmn
  go_wp2_with fail
  go_loopw [4, 36] (fun t i wr => ∃ j : Nat, j ≤ n ∧ i = .int .i64 (j : Int) ∧ t = .int .i64 ((Thing.st (ts.take j)).2 : Nat) ∧ Sp w0 (Wr g (Thing.st (ts.take j)).1 (Thing.st (ts.take j)).2 :: L) wr) (fun _ i _ => n - (intOf i).toNat)
  case atStart => exact ⟨0, Nat.zero_le _, rfl, rfl, H1⟩
  case round =>
    obtain ⟨j, hj, rfl, rfl, H2⟩ := hrel
    obtain ⟨N, hN⟩ : ∃ N, (Thing.st (ts.take j)).2 = N := ⟨_, rfl⟩
    obtain ⟨V, hV⟩ : ∃ V, (Thing.st (ts.take j)).1 = V := ⟨_, rfl⟩
    have hVN := Thing.st_lt (ts.take j)
    have hNb := Thing.st_le (ts.take j)
    have hNb2 : N ≤ 10020 := by rw [hN] at hNb; simp at hNb; omega
    rw [hN, hV] at hVN
    rw [hN]
    rw [hN, hV] at H2
    by_cases hlt : j < n
    · have hlt' : (j : Int) < n := by omega
      have hjl : j < ts.length := by rw [HL.out]; exact hlt
      obtain ⟨ad, eA, t0c, t1c, t2c, t3c, tb, tn, tm⟩ := hT wr H2.tail j hjl
      have hst := Thing.st_snoc ts j hjl
      rw [show Thing.stp (Thing.st (ts.take j)) ts[j] = (V + ts[j].lies * 2 ^ ts[j].from_ N, ts[j].from_ N + ts[j].size) by unfold Thing.stp; rw [hN, hV]] at hst
      obtain ⟨x, hx⟩ : ∃ x, ts[j] = x := ⟨_, rfl⟩
      rw [hx] at t0c t1c t2c t3c tb tn tm hst
      have HS := Lib.hid hst
      have hT' := Lib.hid hT
      have hBall : Hid (∀ w', Sp w0 L w' → Byt w' x.v x.b) := fun w' H' => by
        obtain ⟨_, _, _, _, _, _, h, _⟩ := hT w' H' j hjl
        rw [hx] at h
        exact h
      clear hst hx hT
      subst eA
      obtain ⟨tn0, tm0, tc0, tb0, tv0⟩ := x
      simp only at t0c t1c t2c t3c tb tn tm
      rw [← field_addr ad (j * 4) 1 (by decide)] at t1c
      rw [← field_addr ad (j * 4) 2 (by decide)] at t2c
      rw [← field_addr ad (j * 4) 3 (by decide)] at t3c
      clear hN hV hNb
      obtain ⟨B, cb, rfl, hbr, hb1, hb2⟩ := id tb
      have HBR := Lib.hid hbr
      unfold maxLen at hb2
      clear hbr
      obtain ⟨k, hk⟩ : ∃ k, tm0 % 58 = k := ⟨_, rfl⟩
      have hk1 : (tm0 : Int) % 58 = (k : Int) := by omega
      have hk57 : k ≤ 57 := by omega
      have hms := u64_mask tn0 k tn (by omega)
      obtain ⟨y, hy⟩ : ∃ y, tn0 % 2 ^ k = y := ⟨_, rfl⟩
      rw [hy] at hms
      have hyk : y < 2 ^ k := by rw [← hy]; exact Nat.mod_lt _ (Nat.two_pow_pos k)
      have hy64 : y < 18446744073709551616 := Nat.lt_of_lt_of_le hyk (two64 _ (by omega))
      obtain ⟨d, hd⟩ : ∃ d : Nat, d = min tb0.length 20 := ⟨_, rfl⟩
      have hmd : ∀ W : World, (Builtin.min_ #[3, 3] 3 #[.int .i64 (tb0.length : Int), .int .i64 20]).run Try.prog W = .ok (.int .i64 (d : Int)) W := fun W => by
        simp [Builtin.min_, Builtin.min2]
        split <;> omega
      have hd1 : d ≤ tb0.length := by omega
      have hd2 : d ≤ 20 := by omega
      have hd3 : (d : Int) ≤ cb := by omega
      have hby : (Thing.mk tn0 tm0 tc0 tb0 (.slice B tb0.length cb)).by_ = tb0.take d := by
        unfold Thing.by_
        rw [hd]
        exact (List.take_eq_take_min ..).trans (by rw [Nat.min_comm])
      have HD := Lib.hid hd
      have HY := Lib.hid hy
      have HK := Lib.hid hk
      have HBY := Lib.hid hby
      clear hd hy hk hby
      have H3 := H2.newBk [.int .u64 (tn0 : Int), .int .u8 (tm0 : Int), .bool tc0, .slice B tb0.length cb] 83
      have hTB := Lib.hid (tb.alloc (.cells #[.int .u64 (tn0 : Int), .int .u8 (tm0 : Int), .bool tc0, .slice B tb0.length cb] 83))
      clear tb
      go_wp2_with fail
      generalize wr.alloc _ = wx at H3 hTB ⊢
      generalize wr.heap.size = gx at H3 ⊢
      clear t0c t1c t2c t3c
      have x0 : wx.cell? ⟨gx, 0, none⟩ = some (.int .u64 (tn0 : Int)) := H3.cell 0 rfl 0
      have x2 : wx.cell? ⟨gx, 2, none⟩ = some (.bool tc0) := H3.cell 0 rfl 2
      have x3 : wx.cell? ⟨gx, 3, none⟩ = some (.slice B tb0.length cb) := H3.cell 0 rfl 3
      go_quiet (fail)
      have H4 := H3.drewN nq
      have hTq : Hid (Byt (wx.drewN nq) (.slice B tb0.length cb) tb0) := hTB.out.keep_ (Keep.drewN _ _)
      clear x0 x2 x3 hTB hk1 hms
      generalize wx.drewN nq = wq at H4 hTq ⊢
      have x2 : wq.cell? ⟨gx, 2, none⟩ = some (.bool tc0) := H4.cell 0 rfl 2
      have x3 : wq.cell? ⟨gx, 3, none⟩ = some (.slice B tb0.length cb) := H4.cell 0 rfl 3
      by_cases hd0 : 0 < d
      · have hd0' : (0 : Int) < d := by omega
        have hne : (Thing.mk tn0 tm0 tc0 tb0 (.slice B tb0.length cb)).by_ ≠ [] := by
          rw [HBY.out]
          intro h0
          have := congrArg List.length h0
          rw [List.length_take, List.length_nil] at this
          omega
        have hbl : (Thing.mk tn0 tm0 tc0 tb0 (.slice B tb0.length cb)).by_.length = d := by rw [HBY.out, List.length_take]; omega
        have HST : Hid (Thing.st (ts.take (j + 1)) = (V + PBits.le (tb0.take d) * 2 ^ ((N + 7) / 8 * 8), (N + 7) / 8 * 8 + 8 * d)) := by
          show _ = _
          rw [HS.out]
          unfold Thing.lies Thing.from_ Thing.size
          rw [if_pos hne, if_pos hne, if_pos hne, hbl, HBY.out]
        clear HS hne hbl
        go_wp2_with fail
        refine (align_ok g V N H4.swap hVN (by omega)).mono ?_
        rintro _ w4 ⟨rfl, H5⟩
        clear x2 x3 hmd
        obtain ⟨N1, hN1⟩ : ∃ N1, N1 = (N + 7) / 8 * 8 := ⟨_, rfl⟩
        rw [← hN1] at H5 HST
        have hN1a : N1 % 8 = 0 := by omega
        have hN1b : N1 ≤ 10032 := by omega
        have hN1c : ((N : Int) + 7) / 8 * 8 = (N1 : Int) := by omega
        have hVN1 : V < 2 ^ N1 := Nat.lt_of_lt_of_le hVN (Nat.pow_le_pow_right (by decide) (by omega))
        have HN1 := Lib.hid hN1
        clear hN1
        have htd : (tb0.take d).length = d := by rw [List.length_take]; omega
        have hB4 := (hBall.out _ (H5.pick 2 [])).take d hd1
        go_wp2_with fail
        refine (bytes_ok g V N1 H5 hB4 hN1a hVN1 (by omega) (by rw [htd]; omega)).mono ?_
        rintro _ w5 ⟨rfl, H6⟩
        rw [htd] at H6
        clear hB4 htd
        go_wp2_with fail
        refine (len_ok g _ _ H6 (by omega)).mono ?_
        rintro _ w6 ⟨rfl, K6⟩
        have H7 := K6.sep H6
        clear K6
        have et : (((N1 + 8 * d : Nat) : Int) != (N1 : Int) + 8 * d) = false := by simp
        go_wp2
        go_roundw
        case rel =>
          refine ⟨j + 1, by omega, by go_num, ?_, ?_⟩
          · rw [HST.out]; go_num
          · rw [HST.out]; exact H7.pick 2 [0]
        case measure => simp [intOf]; omega
      · obtain rfl : d = 0 := by omega
        have hne : ¬ (Thing.mk tn0 tm0 tc0 tb0 (.slice B tb0.length cb)).by_ ≠ [] := by
          rw [HBY.out]; simp
        have hkk : (Thing.mk tn0 tm0 tc0 tb0 (.slice B tb0.length cb)).k = k := HK.out
        have hyy : (Thing.mk tn0 tm0 tc0 tb0 (.slice B tb0.length cb)).num = y := by unfold Thing.num; rw [hkk]; exact HY.out
        have HST : Hid (Thing.st (ts.take (j + 1)) = (V + (if tc0 = true then PBits.rev y k else y) * 2 ^ N, N + k)) := by
          show _ = _
          rw [HS.out]
          unfold Thing.lies Thing.from_ Thing.size
          rw [if_neg hne, if_neg hne, if_neg hne, hkk, hyy]
        clear HS hne hkk hyy
        cases tc0 with
        | true =>
          go_wp2_with fail
          refine (code_ok g V N y k H4.swap hVN hk57 hyk (by omega)).mono ?_
          rintro _ w5 ⟨rfl, H6⟩
          clear x2 x3 hmd
          go_wp2_with fail
          refine (len_ok g _ _ H6 (by omega)).mono ?_
          rintro _ w6 ⟨rfl, K6⟩
          have H7 := K6.sep H6
          clear K6
          have et : (((N + k : Nat) : Int) != (N : Int) + k) = false := by simp
          go_wp2
          go_roundw
          case rel =>
            refine ⟨j + 1, by omega, by go_num, ?_, ?_⟩
            · rw [HST.out]; go_num
            · rw [HST.out]; exact H7.pick 2 [0]
          case measure => simp [intOf]; omega
        | false =>
          go_wp2_with fail
          refine (put_ok g V N y k H4.swap hVN hk57 hyk (by omega)).mono ?_
          rintro _ w5 ⟨rfl, H6⟩
          clear x2 x3 hmd
          go_wp2_with fail
          refine (len_ok g _ _ H6 (by omega)).mono ?_
          rintro _ w6 ⟨rfl, K6⟩
          have H7 := K6.sep H6
          clear K6
          have et : (((N + k : Nat) : Int) != (N : Int) + k) = false := by simp
          go_wp2
          go_roundw
          case rel =>
            refine ⟨j + 1, by omega, by go_num, ?_, ?_⟩
            · rw [HST.out]; go_num
            · rw [HST.out]; exact H7.pick 2 [0]
          case measure => simp [intOf]; omega
    · have hlt' : ¬ (j : Int) < n := by omega
      obtain rfl : j = n := by omega
      have htk : ts.take j = ts := by rw [List.take_of_length_le]; rw [HL.out]; exact Nat.le_refl _
      have HTK := Lib.hid htk
      rw [htk] at hN hV
      clear htk hNb
      go_wp2_with fail
      refine (done_ok g V N H2 (by omega)).mono ?_
      rintro _ w2 ⟨v, rfl, H3⟩
      obtain ⟨R, hR⟩ : ∃ R, R = Thing.row ts := ⟨_, rfl⟩
      have hRe : PBits.bytesOf V ((N + 7) / 8) = R := by rw [hR]; unfold Thing.row; rw [hN, hV]
      have hRl : R.length = (N + 7) / 8 := by rw [← hRe]; exact PBits.bytesOf_length _ _
      rw [hRe, ← hRl] at H3
      obtain ⟨M, hM⟩ : ∃ M, M = R.length := ⟨_, rfl⟩
      rw [← hM] at H3
      have HM := Lib.hid hM
      have HRL := Lib.hid hRl
      have hMN : M = (N + 7) / 8 := by rw [hM, hRl]
      have hM1 : ((M : Int) != ((N : Int) + 7) / 8) = false := by rw [bne_eq_false_iff_eq]; omega
      have hMb : M ≤ 1300 := by omega
      have hMN2 := Lib.hid hMN
      have HNN := Lib.hid hN
      have HR := Lib.hid hR
      clear hMN hRl hM hN hV hR hRe
      obtain ⟨A1, c1, rfl, hc1, hc2⟩ := Row.form H3 0 rfl
      go_wp2_with fail
      refine (newReader_ok (l := R) (H3.pick 2 [0]) (H3.row_byt 0 (by rw [HM.out]; rfl)) (by rw [← HM.out]; omega)).mono ?_
      rintro _ w3 ⟨_, rfl, r, rfl, H4⟩
      replace H4 : Sp w0 (Rr r R 0 :: L) w3 := H4.pick 2 [0]
      go_wp2_with fail
      refine (left_ok r R 0 H4 (by omega) (by rw [← HM.out]; omega)).mono ?_
      rintro _ w4 ⟨rfl, K4⟩
      replace H4 := K4.sep H4
      clear K4
      rw [← HM.out, Nat.sub_zero]
      have hM2 : (((8 * M : Nat) : Int) != (8 : Int) * M) = false := by simp
      go_wp2_with fail
      clear hM1 hM2
      go_loopw [121] (fun t wr => ∃ i : Nat, i ≤ j ∧ t = .int .i64 (i : Int) ∧ Sp w0 (Rr r R (Thing.st (ts.take i)).2 :: L) wr) (fun t _ => j - (intOf t).toNat)
      case atStart => exact ⟨0, Nat.zero_le _, rfl, H4⟩
      case round =>
        rename_i wr0 _ _ _ wr
        obtain ⟨i, hi, rfl, H9⟩ := hrel
        by_cases hit : i < j
        · obtain ⟨Ni, hNi⟩ : ∃ Ni, (Thing.st (ts.take i)).2 = Ni := ⟨_, rfl⟩
          have hit' : (i : Int) < j := by omega
          have hil : i < ts.length := by rw [HL.out]; exact hit
          rw [hNi] at H9
          have hR := HR.out
          obtain ⟨ad, eA, t0c, t1c, t2c, t3c, tb, tn, tm⟩ := hT wr H9.tail i hil
          have hpk := Thing.row_peek ts i hil
          have hby0 := Thing.row_bytes ts i hil
          have hen := Thing.st_end ts i hil
          rw [HNN.out] at hen
          have hst := Thing.st_snoc ts i hil
          unfold Thing.stp at hst
          rw [hNi] at hpk hby0 hen hst
          rw [← hR] at hpk hby0
          obtain ⟨x, hx⟩ : ∃ x, ts[i] = x := ⟨_, rfl⟩
          rw [hx] at t0c t1c t2c t3c tb tn tm hst hpk hby0 hen
          clear hR hNi
          have HS := Lib.hid (congrArg Prod.snd hst)
          have HPK := Lib.hid hpk
          have HBY0 := Lib.hid hby0
          have HEN := Lib.hid hen
          have hT' := Lib.hid hT
          have hBall : Hid (∀ w', Sp w0 L w' → Byt w' x.v x.b) := fun w' H' => by
            obtain ⟨_, _, _, _, _, _, h, _⟩ := hT w' H' i hil
            rw [hx] at h
            exact h
          clear hst hx hT hpk hby0 hen
          subst eA
          obtain ⟨tn0, tm0, tc0, tb0, tv0⟩ := x
          simp only at t0c t1c t2c t3c tb tn tm
          rw [← field_addr ad (i * 4) 1 (by decide)] at t1c
          rw [← field_addr ad (i * 4) 2 (by decide)] at t2c
          rw [← field_addr ad (i * 4) 3 (by decide)] at t3c
          obtain ⟨B, cb, rfl, hbr, hb1, hb2⟩ := id tb
          have HBR := Lib.hid hbr
          unfold maxLen at hb2
          clear hbr
          obtain ⟨k, hk⟩ : ∃ k, tm0 % 58 = k := ⟨_, rfl⟩
          have hk1 : (tm0 : Int) % 58 = (k : Int) := by omega
          have hk57 : k ≤ 57 := by omega
          have hms := u64_mask tn0 k tn (by omega)
          obtain ⟨y, hy⟩ : ∃ y, tn0 % 2 ^ k = y := ⟨_, rfl⟩
          rw [hy] at hms
          have hyk : y < 2 ^ k := by rw [← hy]; exact Nat.mod_lt _ (Nat.two_pow_pos k)
          have hy64 : y < 18446744073709551616 := Nat.lt_of_lt_of_le hyk (two64 _ (by omega))
          obtain ⟨d, hd⟩ : ∃ d : Nat, d = min tb0.length 20 := ⟨_, rfl⟩
          have hmd : ∀ W : World, (Builtin.min_ #[3, 3] 3 #[.int .i64 (tb0.length : Int), .int .i64 20]).run Try.prog W = .ok (.int .i64 (d : Int)) W := fun W => by
            simp [Builtin.min_, Builtin.min2]
            split <;> omega
          have hd1 : d ≤ tb0.length := by omega
          have hd2 : d ≤ 20 := by omega
          have hd3 : (d : Int) ≤ cb := by omega
          have hby : (Thing.mk tn0 tm0 tc0 tb0 (.slice B tb0.length cb)).by_ = tb0.take d := by
            unfold Thing.by_
            rw [hd]
            exact (List.take_eq_take_min ..).trans (by rw [Nat.min_comm])
          have HD := Lib.hid hd
          have HY := Lib.hid hy
          have HK := Lib.hid hk
          have HBY := Lib.hid hby
          clear hd hy hk hby
          have H3 := H9.newBk [.int .u64 (tn0 : Int), .int .u8 (tm0 : Int), .bool tc0, .slice B tb0.length cb] 83
          have hTB := Lib.hid (tb.alloc (.cells #[.int .u64 (tn0 : Int), .int .u8 (tm0 : Int), .bool tc0, .slice B tb0.length cb] 83))
          clear tb
          go_wp2_with fail
          generalize wr.alloc _ = wx at H3 hTB ⊢
          generalize wr.heap.size = gx at H3 ⊢
          clear t0c t1c t2c t3c
          have x0 : wx.cell? ⟨gx, 0, none⟩ = some (.int .u64 (tn0 : Int)) := H3.cell 0 rfl 0
          have x2 : wx.cell? ⟨gx, 2, none⟩ = some (.bool tc0) := H3.cell 0 rfl 2
          have x3 : wx.cell? ⟨gx, 3, none⟩ = some (.slice B tb0.length cb) := H3.cell 0 rfl 3
          go_quiet (fail)
          have H4 := H3.drewN nq
          have hTq : Hid (Byt (wx.drewN nq) (.slice B tb0.length cb) tb0) := hTB.out.keep_ (Keep.drewN _ _)
          clear x0 x2 x3 hTB hk1 hms
          generalize wx.drewN nq = wq at H4 hTq ⊢
          have x2 : wq.cell? ⟨gx, 2, none⟩ = some (.bool tc0) := H4.cell 0 rfl 2
          have x3 : wq.cell? ⟨gx, 3, none⟩ = some (.slice B tb0.length cb) := H4.cell 0 rfl 3
          by_cases hd0 : 0 < d
          · have hd0' : (0 : Int) < d := by omega
            have hne : (Thing.mk tn0 tm0 tc0 tb0 (.slice B tb0.length cb)).by_ ≠ [] := by
              rw [HBY.out]
              intro h0
              have := congrArg List.length h0
              rw [List.length_take, List.length_nil] at this
              omega
            have hbl : (Thing.mk tn0 tm0 tc0 tb0 (.slice B tb0.length cb)).by_.length = d := by rw [HBY.out, List.length_take]; omega
            obtain ⟨q, hq⟩ : ∃ q, q = (Ni + 7) / 8 := ⟨_, rfl⟩
            have hfr : (Thing.mk tn0 tm0 tc0 tb0 (.slice B tb0.length cb)).from_ Ni = 8 * q := by unfold Thing.from_; rw [if_pos hne]; omega
            have hsz : (Thing.mk tn0 tm0 tc0 tb0 (.slice B tb0.length cb)).size = 8 * d := by unfold Thing.size; rw [if_pos hne, hbl]
            have hbyt := HBY0.out hne
            have hend := HEN.out
            have hsn := HS.out
            rw [hfr, hsz] at hend hsn
            rw [hbl, HBY.out, ← hq] at hbyt
            have HST := Lib.hid hsn
            have HBT := Lib.hid hbyt
            have hqd : q + d ≤ R.length := by rw [← HM.out, hMN2.out]; omega
            have hqM : Ni ≤ 8 * R.length := by rw [← HM.out, hMN2.out]; omega
            have hRs : R.length ≤ 1300 := by rw [← HM.out]; exact hMb
            have hq2 : (Ni + 7) / 8 * 8 = 8 * q := by omega
            have HQ := Lib.hid hq2
            clear HS hne hbl hfr hsz hbyt hend hsn hq hq2
            go_wp2_with fail
            refine (ralign_ok r R Ni H4.swap hqM (by omega)).mono ?_
            rintro _ w5 ⟨rfl, H5⟩
            rw [HQ.out] at H5
            clear x2 x3 hmd
            go_wp2_with fail
            refine (rbytes_ok r R q d H5 hqd (by omega)).mono ?_
            rintro _ w6 ⟨_, rfl, u, rfl, H6⟩
            rw [HBT.out] at H6
            have htd : (tb0.take d).length = d := by rw [List.length_take]; omega
            have hB4 := (hBall.out _ (H6.pick 3 [])).take d hd1
            have hB5 := H6.row_byt 0 (l := tb0.take d) (by rw [htd]; rfl)
            obtain ⟨A2, c2, rfl, _, _⟩ := Row.form H6 0 rfl
            go_wp2_with fail
            refine (equal_ok hB4 hB5).mono ?_
            rintro _ w7 ⟨rfl, rfl⟩
            rw [beq_self_eq_true]
            clear htd hB4 hB5
            go_wp2
            go_roundw
            case rel =>
              refine ⟨i + 1, by omega, by go_num, ?_⟩
              rw [HST.out, ← Nat.mul_add]
              exact H6.pick 3 [1]
            case measure => simp [intOf]; omega
          · obtain rfl : d = 0 := by omega
            have hne : ¬ (Thing.mk tn0 tm0 tc0 tb0 (.slice B tb0.length cb)).by_ ≠ [] := by
              rw [HBY.out]; simp
            have hkk : (Thing.mk tn0 tm0 tc0 tb0 (.slice B tb0.length cb)).k = k := HK.out
            have hyy : (Thing.mk tn0 tm0 tc0 tb0 (.slice B tb0.length cb)).num = y := by unfold Thing.num; rw [hkk]; exact HY.out
            have hfr : (Thing.mk tn0 tm0 tc0 tb0 (.slice B tb0.length cb)).from_ Ni = Ni := by unfold Thing.from_; rw [if_neg hne]
            have hsz : (Thing.mk tn0 tm0 tc0 tb0 (.slice B tb0.length cb)).size = k := by unfold Thing.size; rw [if_neg hne, hkk]
            have hli : (Thing.mk tn0 tm0 tc0 tb0 (.slice B tb0.length cb)).lies = if tc0 = true then PBits.rev y k else y := by unfold Thing.lies; rw [if_neg hne, hkk, hyy]
            have hend := HEN.out
            have hsn := HS.out
            have hpk := HPK.out
            rw [hfr, hsz] at hend hsn hpk
            rw [hli] at hpk
            obtain ⟨z, hz⟩ : ∃ z, z = (if tc0 = true then PBits.rev y k else y) := ⟨_, rfl⟩
            rw [← hz] at hpk
            have HZ := Lib.hid hz
            clear hz
            have HST := Lib.hid hsn
            have HPP := Lib.hid hpk
            have hqk : Ni + k ≤ 8 * R.length := by rw [← HM.out, hMN2.out]; omega
            have hRs : R.length ≤ 1300 := by rw [← HM.out]; exact hMb
            clear HS hne hkk hyy hfr hsz hli hend hsn hpk
            go_wp2_with fail
            refine (peek_ok r R Ni k k H4.swap (by omega) (by omega) (by omega)).mono ?_
            rintro _ w5 ⟨rfl, K5⟩
            have H5 := K5.sep H4
            rw [HPP.out]
            clear x2 x3 hmd K5
            go_wp2_with fail
            refine (get_ok r R Ni k H5.swap hqk hk57 (by omega)).mono ?_
            rintro _ w6 ⟨rfl, H6⟩
            rw [HPP.out]
            have x2 : w6.cell? ⟨gx, 2, none⟩ = some (.bool tc0) := H6.cell 1 rfl 2
            cases tc0 with
            | true =>
              obtain rfl : z = PBits.rev y k := by have := HZ.out; rwa [if_pos rfl] at this
              go_wp2_with fail
              refine (reverse_any y k (k : Int) _ hy64 (by omega)).mono ?_
              rintro _ w7 ⟨rfl, rfl⟩
              clear x2
              go_wp2
              go_roundw
              case rel =>
                refine ⟨i + 1, by omega, by go_num, ?_⟩
                rw [HST.out]
                exact H6.pick 2 [0]
              case measure => simp [intOf]; omega
            | false =>
              obtain rfl : z = y := by have := HZ.out; rwa [if_neg (by decide)] at this
              go_wp2
              go_roundw
              case rel =>
                refine ⟨i + 1, by omega, by go_num, ?_⟩
                rw [HST.out]
                exact H6.pick 2 [0]
              case measure => simp [intOf]; omega
        · have hit' : ¬ (i : Int) < j := by omega
          obtain rfl : i = j := by omega
          rw [HTK.out, HNN.out] at H9
          have hNM : N ≤ 8 * R.length := by rw [← HM.out, hMN2.out]; omega
          have hRs : R.length ≤ 1300 := by rw [← HM.out]; exact hMb
          obtain ⟨e, he⟩ : ∃ e, 8 * R.length - N = e := ⟨_, rfl⟩
          have he8 : e < 8 := by rw [← HM.out, hMN2.out] at he; omega
          have hee : N + e = 8 * M := by rw [HM.out]; omega
          go_wp2_with fail
          refine (left_ok r R N H9 hNM (by omega)).mono ?_
          rintro _ w5 ⟨rfl, K5⟩
          replace H9 := K5.sep H9
          clear K5
          rw [he]
          have HE := Lib.hid hee
          have he7 : bits .and .i64 (e : Int) 7 = (e : Int) := by rw [i64_and7]; omega
          have he8' : (e : Int) < 8 := by omega
          have hNe : N + e ≤ 8 * R.length := by omega
          clear he hee
          go_wp2_with fail
          refine (get_ok r R N e H9 hNe (by omega) (by omega)).mono ?_
          rintro _ w6 ⟨rfl, H10⟩
          have hz : PBits.peek R N e = 0 := by rw [HR.out, ← HNN.out]; exact Thing.row_rest ts e
          rw [hz]
          clear hz he7
          obtain ⟨_, _, _, _, _, d1, d2⟩ := rr_open H10
          go_wp2_with fail
          refine (at_ok r _ d1 d2).mono ?_
          rintro _ w7 ⟨rfl, rfl⟩
          rw [HE.out]
          have ht : (((8 * M : Nat) : Int) == (8 : Int) * M) = true := by simp
          clear d1 d2
          go_wp2_with fail
          refine (wakes_ok H10.tail).mono ?_
          rintro _ w14 ⟨rfl, H14⟩
          go_wp2
          go_ret
          exact ⟨rfl, H14⟩
end Go.Proofs.Ytkgnihpcldgedaa
