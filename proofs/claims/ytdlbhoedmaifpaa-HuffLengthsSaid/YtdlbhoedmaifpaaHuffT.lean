/- HuffT: the document's Next. -/
import Derived.Test.YtdlbhoedmaifpaaHuffS
import Derived.Deep.CutRange
namespace Go.Proofs.Ytdlbhoedmaifpaa
set_option linter.unusedVariables false
open Go.RowKit
namespace PH
theorem mayBook_sum (m : List Nat) (h : mayBook m = true) : sum m ≤ 32768 := by
  rcases Nat.lt_or_ge 32768 (sum m) with q | q
  · have : PH.state m = 1 := by
      unfold PH.state
      rw [if_neg (by omega), if_pos q]
    rw [many_no_book m this] at h; cases h
  · exact q
/-- One bit more. -/
theorem numb_succ (l : List Bool) (q : Nat) (b : Bool) (h : l[q]? = some b) : numb (l.take (q + 1)) = 2 * numb (l.take q) + bitV b := by
  rw [List.take_add_one, h]; exact numb_snoc _ _
theorem next_hit1 (m : List Nat) (l : List Bool) (k q i : Nat) (hq : q < 15) (hl : q < l.length) (hi : i < m.length) (hm : m.getD i 0 = q + 1) (hc : codeAt m i = numb (l.take (q + 1))) :
    nextFrom m l (k + 1) q = (q + 1, 0, i) := by
  obtain ⟨h1, h2⟩ := codeAt_lt m i (q + 1) hi hm (by omega)
  rw [hc] at h1 h2
  obtain ⟨j, hj, hjm, hjc, hjr⟩ := code_sym m q _ hq h1 h2
  have e := code_inj m j i hj hi (by omega) (by rw [hjm, hm]) (by rw [hjc, hc])
  subst e
  rw [nextFrom, if_neg (by omega), if_pos h2, hjr]
theorem next_miss1 (m : List Nat) (l : List Bool) (k q : Nat) (hq : q < 15) (hl : q < l.length) (hge : fst m (q + 1) ≤ numb (l.take (q + 1))) (hno : ∀ i, i < m.length → ¬ (m.getD i 0 = q + 1 ∧ codeAt m i = numb (l.take (q + 1)))) :
    nextFrom m l (k + 1) q = nextFrom m l k (q + 1) ∧ fst m (q + 1) + tal m (q + 1) ≤ numb (l.take (q + 1)) := by
  have h2 : ¬ numb (l.take (q + 1)) < fst m (q + 1) + tal m (q + 1) := fun h => by
    obtain ⟨j, hj, hjm, hjc, _⟩ := code_sym m q _ hq hge h
    exact hno j hj ⟨hjm, hjc⟩
  rw [nextFrom, if_neg (by omega), if_neg h2]
  exact ⟨rfl, by omega⟩
end PH
/-- What the document's Next says of the same. -/
def rfault (e : Int) : Int := if e = 4 then -1 else e
set_option maxRecDepth 100000 in
set_option maxHeartbeats 4000000 in
theorem rnext_ok (A B : Option Addr) (n c k d : Nat) (m : List Nat) (l : List Bool) (mo : Nat) {w0 w : World} {L : List Pr} (H : Sp w0 L w) (hn : n = m.length) (hk : k = l.length) (ha : Ent L fun w => Rd w A (cells64 (castI m))) (hb : Ent L fun w => Rd w B (cellsBo l)) (hl : n ≤ 1024) (hkl : k ≤ 1000000) (h15 : ∀ x ∈ m, x ≤ 15) (hmb : mayBook m = true) (hmo : mostOf m = (mo : Int)) :
    Calls Try.prog 43 #[.slice A n c, .slice B k d] w fun e w' =>
      e = .returned (.tuple #[.int .i64 ((PH.nextFrom m l mo 0).2.2 : Int), .int .i64 ((PH.nextFrom m l mo 0).1 : Int), .int .i64 (rfault (PH.nextFrom m l mo 0).2.1)]) ∧ ∃ v, Sp w0 (Row 70 1 v n (rowU (PH.codeAt m) n) :: L) w' := by
  have hsum := PH.mayBook_sum m hmb
  have hst := rstate_ok A n c m H hn ha hl h15
  have hcd := fun w (H : Sp w0 L w) => rcodes_ok A n c m H hn ha hl h15 hsum
  obtain ⟨st, hst2⟩ : ∃ st, PH.state m = st := ⟨_, rfl⟩
  rw [hst2] at hst
  unfold mostOf at hmo
  rw [hst2] at hmo
  obtain ⟨T, hT⟩ : ∃ T, PH.nextFrom m l mo 0 = T := ⟨_, rfl⟩
  rw [hT]
  have hcase : (st = 0 ∧ mo = 15) ∨ ((st != 0) = true ∧ mo = 1) := by
    by_cases h0 : st = 0
    · rw [if_pos h0] at hmo
      exact .inl ⟨h0, by omega⟩
    · rw [if_neg h0] at hmo
      exact .inr ⟨by simpa using h0, by omega⟩
  have hmo15 : mo ≤ 15 := by omega
  have HN := Lib.hid hn
  have HK := Lib.hid hk
  have HA := Lib.hid ha
  have HB := Lib.hid hb
  have H15 := Lib.hid h15
  have HST := Lib.hid hst
  have HCD := Lib.hid hcd
  have HT := Lib.hid hT
  clear hn hk ha hb h15 hmb hmo hsum hst hcd hst2 hT
  go_enter Try.func43, Try.ntmps43
  go_wp2_with fail
  refine HST.out.mono ?_
  rintro _ w1 ⟨rfl, H1⟩
  clear HST H
  have HC1 := Lib.hid (HCD.out _ H1)
  clear HCD
  go_wp2_with fail
  refine HC1.out.mono ?_
  rintro _ w2 ⟨vc, rfl, H2⟩
  clear HC1 H1
  obtain ⟨VC, Cc, hvc, _, _⟩ := Row.form H2 0 rfl
  subst hvc
  go_upto_if 26 with (fail)
  go_cut [11] from 15 (fun s11 wx => s11 = .int .i64 (mo : Int) ∧ Sp w0 (Row 70 1 (.slice VC n Cc) n (rowU (PH.codeAt m) n) :: L) wx)
  case first =>
    rcases hcase with ⟨h0, hm⟩ | ⟨h0, hm⟩
    · subst h0 hm
      go_wp2_with fail
      go_meet
      exact ⟨rfl, H2⟩
    · subst hm
      go_wp2_with fail
      go_meet
      exact ⟨rfl, H2⟩
  case rest =>
    clear H2 hcase
    obtain ⟨rfl, H2⟩ := hcut
    go_wp2_with fail
    go_loopw [12, 13] (fun cv nv wr => ∃ (q C : Nat), nv = .int .i64 ((q + 1 : Nat) : Int) ∧ cv = .int .u32 (C : Int) ∧ q ≤ mo ∧ q ≤ k ∧ C < 2 ^ q ∧ Hid (C = PH.numb (l.take q) ∧ PH.fst m q + PH.tal m q ≤ C ∧ PH.nextFrom m l (mo - q) q = T) ∧ Sp w0 (Row 70 1 (.slice VC n Cc) n (rowU (PH.codeAt m) n) :: L) wr) (fun _ nv _ => mo + 1 - (intOf nv).toNat)
    case atStart => exact ⟨0, 0, rfl, rfl, Nat.zero_le _, Nat.zero_le _, by omega, Lib.hid ⟨rfl, Nat.zero_le _, HT.out⟩, H2⟩
    case round =>
      clear H2
      obtain ⟨q, C, rfl, rfl, hq, hqk, hC, HQ, H⟩ := hrel
      have e1 : ((q + 1 : Nat) : Int) = (q : Int) + 1 := by omega
      rw [e1]
      have hC2 : C < 32768 := by
        have : (2 : Nat) ^ q ≤ 2 ^ 15 := Nat.pow_le_pow_right (by omega) (by omega)
        omega
      clear hC
      by_cases hqm : q < mo
      · have k1 : (q : Int) + 1 ≤ (mo : Int) := by omega
        by_cases hqk2 : q < k
        · have k2 : ¬ (k : Int) < (q : Int) + 1 := by omega
          have hql : q < l.length := by rw [← HK.out]; exact hqk2
          obtain ⟨b, hbq⟩ : ∃ b, l[q]? = some b := ⟨_, List.getElem?_eq_getElem hql⟩
          obtain ⟨bl, hbl, hcb⟩ := (HB.out _ _ H.tail).atB hql
          have hbb : l[q] = b := by rw [List.getElem?_eq_getElem hql] at hbq; injection hbq
          rw [hbb] at hcb
          subst hbl
          have hnum := PH.numb_succ l q b hbq
          rw [← HQ.out.1] at hnum
          have hge : PH.fst m (q + 1) ≤ 2 * C := by
            rw [PH.fst_next]
            have := HQ.out.2.1
            omega
          have hTq : PH.nextFrom m l ((mo - (q + 1)) + 1) q = T := by
            rw [show mo - (q + 1) + 1 = mo - q by omega]; exact HQ.out.2.2
          obtain ⟨D, hD⟩ : ∃ D, 2 * C + bitV b = D := ⟨_, rfl⟩
          rw [hD] at hnum
          have hDl : D < 2 ^ (q + 1) := by
            rw [← hnum]
            have h := PH.numb_lt (l.take (q + 1))
            rwa [List.length_take, Nat.min_eq_left (by omega)] at h
          have HNUM := Lib.hid hnum
          have HGE : Hid (PH.fst m (q + 1) ≤ D) := Lib.hid (by omega)
          have HTQ := Lib.hid hTq
          have HD := Lib.hid hD
          have HDL := Lib.hid hDl
          have y1 : (q : Int) + 1 - 1 = (q : Int) := by omega
          have k3 : (q : Int) < (k : Int) := by omega
          have hD65 : D < 65536 := by
            have : (2 : Nat) ^ (q + 1) ≤ 2 ^ 16 := Nat.pow_le_pow_right (by omega) (by omega)
            omega
          clear hbq hbb hnum hge hTq hD hDl
          go_upto_if 44 with (fail)
          go_cut [12] from 27 to 68 (fun s12 wx => s12 = .int .u32 (D : Int) ∧ Sp w0 (Row 70 1 (.slice VC n Cc) n (rowU (PH.codeAt m) n) :: L) wx)
          case first =>
            cases b
            · have hd : D = C * 2 := by have := HD.out; simp [bitV] at this; omega
              subst hd
              go_wp2_with fail
              go_meet
              exact ⟨by first | rfl | exact congrArg (Value.int .u32) (by omega), H⟩
            · have hd : D = C * 2 + 1 := by have := HD.out; simp [bitV] at this; omega
              subst hd
              go_wp2_with fail
              go_meet
              exact ⟨by first | rfl | exact congrArg (Value.int .u32) (by omega), H⟩
          case rest =>
            clear H
            obtain ⟨rfl, H⟩ := hcut
            go_wp2_with fail
            go_loopw [14] (fun iv wr => ∃ (i : Nat), iv = .int .i64 (i : Int) ∧ i ≤ n ∧ Hid (∀ j, j < i → ¬ (m.getD j 0 = q + 1 ∧ PH.codeAt m j = D)) ∧ Sp w0 (Row 70 1 (.slice VC n Cc) n (rowU (PH.codeAt m) n) :: L) wr) (fun iv _ => n - (intOf iv).toNat)
            case atStart => exact ⟨0, rfl, Nat.zero_le _, Lib.hid (fun j hj => absurd hj (Nat.not_lt_zero _)), H⟩
            case round =>
              clear H
              obtain ⟨i, rfl, hi, HNO, H⟩ := hrel
              by_cases hin : i < n
              · have k4 : (i : Int) < (n : Int) := by omega
                have hiX : i < m.length := by rw [← HN.out]; exact hin
                obtain ⟨al, hal, hc⟩ := (HA.out _ _ H.tail).at64 (k := i) (by simpa [castI] using hiX)
                obtain ⟨t, ht⟩ : ∃ t, m[i] = t := ⟨_, rfl⟩
                replace hc : wr.cell? (al.add i) = some (.int .i64 (t : Int)) := by
                  rw [hc]
                  simp [castI, ht]
                subst hal
                have hgd : m.getD i 0 = t := by rw [List.getD_eq_getElem?_getD, List.getElem?_eq_getElem hiX, ht]; rfl
                have HGD := Lib.hid hgd
                clear ht hgd
                by_cases htq : t = q + 1
                · have k5 : ((t : Int) == (q : Int) + 1) = true := by rw [beq_iff_eq]; omega
                  obtain ⟨A9, c9, e9, hr9, _, _⟩ := H.row_rd 0 rfl
                  injection e9 with e9 e10 e11
                  obtain ⟨ac, hac, hcl⟩ := hr9 (by intro h; have := congrArg List.length h; simp [rowU] at this; omega)
                  have hc2 := hcl i _ (rowU_get _ _ _ hin)
                  obtain ⟨cd, hcd⟩ : ∃ cd, PH.codeAt m i = cd := ⟨_, rfl⟩
                  rw [hcd] at hc2
                  rw [hac] at e9
                  subst e9
                  have HCDX := Lib.hid hcd
                  clear hr9 hcl e10 e11 hac hcd
                  by_cases hcq : cd = D
                  · have k6 : ((cd : Int) == (D : Int)) = true := by rw [beq_iff_eq]; omega
                    have hres : T = (q + 1, 0, i) := by
                      rw [← HTQ.out]
                      refine PH.next_hit1 m l (mo - (q + 1)) q i (by omega) hql hiX (by rw [HGD.out]; exact htq) ?_
                      rw [HCDX.out, HNUM.out]; exact hcq
                    have HRES := Lib.hid hres
                    clear hres
                    go_wp2_with fail
                    rw [HRES.out]
                    refine bodyPost_ret (v := .tuple #[.int .i64 (i : Int), .int .i64 ((q : Int) + 1), .int .i64 0]) (by simp [results, Try.results43, go_sem]) rfl ?_
                    exact ⟨rfl, _, H⟩
                  · have k6 : ((cd : Int) == (D : Int)) = false := by rw [beq_eq_false_iff_ne]; omega
                    go_wp2_with fail
                    go_roundw
                    case rel =>
                      refine ⟨i + 1, by go_num, by omega, Lib.hid (fun j hj => ?_), H⟩
                      rcases Nat.lt_or_eq_of_le (Nat.le_of_lt_succ hj) with h | rfl
                      · exact HNO.out j h
                      · rintro ⟨_, h⟩
                        rw [HCDX.out] at h
                        exact hcq h
                    case measure => first | (simp [intOf]; omega) | simp [intOf]
                · have k5 : ((t : Int) == (q : Int) + 1) = false := by rw [beq_eq_false_iff_ne]; omega
                  go_wp2_with fail
                  go_roundw
                  case rel =>
                    refine ⟨i + 1, by go_num, by omega, Lib.hid (fun j hj => ?_), H⟩
                    rcases Nat.lt_or_eq_of_le (Nat.le_of_lt_succ hj) with h | rfl
                    · exact HNO.out j h
                    · rintro ⟨h, _⟩
                      rw [HGD.out] at h
                      exact htq h
                  case measure => first | (simp [intOf]; omega) | simp [intOf]
              · have k4 : ¬ (i : Int) < (n : Int) := by omega
                obtain rfl : i = n := by omega
                have hms := PH.next_miss1 m l (mo - (q + 1)) q (by omega) hql (by rw [HNUM.out]; exact HGE.out) (fun j hj => by rw [HNUM.out]; exact HNO.out j (by rw [HN.out]; exact hj))
                rw [HTQ.out, HNUM.out] at hms
                have HMS := Lib.hid hms
                clear hms
                go_wp2_with fail
                go_roundw
                case rel => exact ⟨q + 1, D, by first | (go_num; done) | exact congrArg (Value.int .i64) (by omega), rfl, by omega, by omega, HDL.out, Lib.hid ⟨HNUM.out.symm, HMS.out.2, HMS.out.1.symm⟩, H⟩
                case measure => first | (simp [intOf]; omega) | simp [intOf]
        · have k2 : (k : Int) < (q : Int) + 1 := by omega
          have hres : T = (q, 4, 0) := by
            rw [← HQ.out.2.2, show mo - q = (mo - (q + 1)) + 1 by omega, PH.nextFrom, if_pos (by rw [← HK.out]; omega)]
          have HRES := Lib.hid hres
          have y1 : (q : Int) + 1 - 1 = (q : Int) := by omega
          clear hres
          go_wp2_with fail
          rw [HRES.out]
          refine bodyPost_ret (v := .tuple #[.int .i64 0, .int .i64 (q : Int), .int .i64 (-1)]) (by simp [results, Try.results43, go_sem]) rfl ?_
          exact ⟨rfl, _, H⟩
      · have k1 : ¬ (q : Int) + 1 ≤ (mo : Int) := by omega
        obtain rfl : q = mo := by omega
        have hres : T = (q, 20, 0) := by
          rw [← HQ.out.2.2, Nat.sub_self]; rfl
        have HRES := Lib.hid hres
        clear hres
        go_wp2_with fail
        rw [HRES.out]
        refine bodyPost_ret (v := .tuple #[.int .i64 0, .int .i64 (q : Int), .int .i64 20]) (by simp [results, Try.results43, go_sem]) rfl ?_
        exact ⟨rfl, _, H⟩
end Go.Proofs.Ytdlbhoedmaifpaa
