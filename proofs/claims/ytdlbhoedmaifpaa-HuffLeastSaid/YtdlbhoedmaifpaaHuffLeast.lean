/- HuffLeast: the walk: least. -/
import Derived.Test.YtdlbhoedmaifpaaHuffBr
namespace Go.Proofs.Ytdlbhoedmaifpaa
set_option linter.unusedVariables false
set_option linter.unusedSimpArgs false
open Go.RowKit
theorem row_some {w0 w : World} {M : List Pr} {V : Option Addr} {n kk : Nat} {l : List Nat} (H : Sp w0 M w) (j : Nat) (hj : M[j]? = some (Row 3 1 (.slice V n kk) n (cellsN l))) (h : 0 < l.length) : ∃ a, V = some a := by
  obtain ⟨a, e, _⟩ := (rowN_rdM j hj _ _ H).at_ (k := 0) (by simpa [cellsN] using h)
  exact ⟨a, e⟩
theorem rowN_at {M : List Pr} {a : Addr} {n kk : Nat} {l : List Nat} (j : Nat) (hj : M[j]? = some (Row 3 1 (.slice (some a) n kk) n (cellsN l))) {i x : Nat} (hi : i < l.length) (hx : l.getD i 0 = x) : Ent M fun w => w.cell? (a.add i) = some (.int .i64 (x : Int)) := fun _ _ H => by
  obtain ⟨a9, e, h⟩ := (rowN_rdM j hj _ _ H).at_ (k := i) (by simpa [cellsN] using hi)
  injection e with e
  rw [e, h]
  rw [List.getD_eq_getElem?_getD, List.getElem?_eq_getElem hi] at hx
  simp only [Option.getD_some] at hx
  simp [cellsN, hx]
/-- The other lengths, brought to where they may be. -/
def oth (cs : List Nat) (bs : List UInt8) (mo z : Nat) : Nat := if 0 < cs.getD z 0 then (if z < bs.length then 1 + (bs.getD z 0).toNat % mo else mo) else 0
def upTo (o : Nat → Nat) (n i : Nat) : List Nat := (List.range n).map fun z => if z < i then o z else 0
theorem upTo_len (o : Nat → Nat) (n i : Nat) : (upTo o n i).length = n := by simp [upTo]
theorem upTo_get (o : Nat → Nat) (n i z : Nat) (h : z < n) : (upTo o n i).getD z 0 = if z < i then o z else 0 := by
  unfold upTo; rw [List.getD_eq_getElem?_getD, List.getElem?_map, List.getElem?_range h]; rfl
theorem upTo_zero (o : Nat → Nat) (n : Nat) : List.replicate n (Value.int .i64 0) = cellsN (upTo o n 0) := by
  refine List.ext_getElem (by simp [cellsN, upTo]) fun i h1 h2 => ?_
  simp [cellsN, upTo]
theorem upTo_set (o : Nat → Nat) (n i v : Nat) (hi : i < n) (h : o i = v) : (cellsN (upTo o n i)).set i (.int .i64 (v : Int)) = cellsN (upTo o n (i + 1)) := by
  refine List.ext_getElem (by simp [cellsN, upTo]) fun z h1 h2 => ?_
  rw [List.getElem_set]
  simp only [cellsN, upTo, List.getElem_map, List.getElem_range]
  by_cases e : i = z
  · subst e
    rw [if_pos rfl, if_pos (by omega), h]
  · rw [if_neg e]
    by_cases q : z < i
    · rw [if_pos q, if_pos (by omega)]
    · rw [if_neg q, if_neg (by omega)]
theorem upTo_skip (o : Nat → Nat) (n i : Nat) (h : o i = 0) : upTo o n i = upTo o n (i + 1) := by
  unfold upTo
  refine List.map_congr_left fun z _ => ?_
  by_cases q : z < i
  · rw [if_pos q, if_pos (by omega)]
  · by_cases e : z = i
    · subst e; rw [if_neg q, if_pos (by omega), h]
    · rw [if_neg q, if_neg (by omega)]
theorem oth_in (cs : List Nat) (bs : List UInt8) (mo z : Nat) (hm : 1 ≤ mo) : (0 < cs.getD z 0 → 1 ≤ oth cs bs mo z ∧ oth cs bs mo z ≤ mo) ∧ (cs.getD z 0 = 0 → oth cs bs mo z = 0) := by
  unfold oth
  refine ⟨fun h => ?_, fun h => by rw [if_neg (by omega)]⟩
  rw [if_pos h]
  have := Nat.mod_lt (bs.getD z 0).toNat (show 0 < mo by omega)
  split <;> omega
theorem getD_mem_le {l : List Nat} {c : Nat} (h : ∀ z, z < l.length → l.getD z 0 ≤ c) : ∀ x ∈ l, x ≤ c := by
  intro x hx
  obtain ⟨z, hz, rfl⟩ := List.getElem_of_mem hx
  have := h z hz
  rwa [List.getD_eq_getElem?_getD, List.getElem?_eq_getElem hz] at this
set_option maxRecDepth 100000 in
set_option maxHeartbeats 40000000 in
theorem least_law (A B : Option Addr) (la ca cb : Nat) (ps : List Nat) (lim : Nat) (bs : List UInt8) {w0 w : World} {L : List Pr} (H : Sp w0 L w) (ha : Ent L fun w => Rd w A (cellsU ps)) (hla : la = ps.length) (hac : la ≤ ca) (hcm : ca ≤ maxLen) (hp : ∀ p ∈ ps, p < 4294967296) (hb : Ent L fun w' => Byt w' (.slice B bs.length cb) bs) (hlim : lim < 256) :
    Calls Try.prog 9 #[.slice A la ca, .int .u8 (lim : Int), .slice B bs.length cb] w fun e w' => e = .returned (.bool true) ∧ Sp w0 L w' := by
  obtain ⟨i1, hj, hj0, hj1, hj2⟩ := info_parts infoJ
  have hcap : bs.length ≤ cb ∧ cb ≤ maxLen := by
    obtain ⟨_, _, e, _, h1, h2⟩ := hb _ _ H
    injection e with _ _ e
    subst e
    exact ⟨h1, h2⟩
  have hcbm := hcap.2
  unfold maxLen at hcbm
  have c1 := brought_ok A la ca ps H hla ha hac hcm hp
  obtain ⟨cs, hcs⟩ : ∃ cs, bro ps = cs := ⟨_, rfl⟩
  have hle : ∀ x ∈ cs, x ≤ 1000000 := by rw [← hcs]; exact bro_le ps
  have hn40 : cs.length ≤ 40 := by rw [← hcs, bro_len]; omega
  rw [hcs] at c1
  obtain ⟨n, hn⟩ : ∃ n, cs.length = n := ⟨_, rfl⟩
  rw [hn] at c1 hn40
  obtain ⟨bn, hbn⟩ : ∃ bn, bs.length = bn := ⟨_, rfl⟩
  have hbc : bn ≤ cb := by rw [← hbn]; exact hcap.1
  have hrd : Ent L fun w' => Rd w' B (cells8 bs) := fun w0' w' H' => by
    obtain ⟨A', c', e, hr, _, _⟩ := hb w0' w' H'
    injection e with e
    rw [e]; exact hr
  rw [hbn]
  have C1 := Lib.hid c1
  have HN := Lib.hid hn
  have HBN := Lib.hid hbn
  have HLE := Lib.hid hle
  have HBS := Lib.hid hrd
  clear ha hla hac hcm hp hb c1 hcs hn hbn hle hrd hcap
  go_enter Try.func9, Try.ntmps9
  go_wp2_with fail
  refine C1.out.mono ?_
  rintro _ w2 ⟨v2, rfl, H2⟩
  clear C1 H
  obtain ⟨VA, Vc, hv2, hvc, _⟩ := Row.form H2 0 rfl
  subst hv2
  go_wp2_with fail
  go_loopw [8, 9] (fun mv iv wr => ∃ (i k : Nat), iv = .int .i64 (i : Int) ∧ mv = .int .i64 (k : Int) ∧ i ≤ n ∧ k ≤ i ∧ Hid ((PL.itemsTo cs i).length = k) ∧ Sp w0 (Row 3 1 (.slice VA n Vc) n (cellsN cs) :: L) wr) (fun _ iv _ => n - (intOf iv).toNat)
  case atStart => exact ⟨0, 0, rfl, rfl, Nat.zero_le _, Nat.zero_le _, Lib.hid rfl, H2⟩
  case round =>
    clear H2
    obtain ⟨i, k, rfl, rfl, hin, hki, HK, H⟩ := hrel
    by_cases hlt : i < n
    · have k1 : (i : Int) < (n : Int) := by omega
      obtain ⟨al, hal⟩ := row_some H 0 rfl (by rw [HN.out]; omega)
      subst hal
      obtain ⟨x, hx⟩ : ∃ x, cs.getD i 0 = x := ⟨_, rfl⟩
      have hcell := rowN_at 0 rfl (by rw [HN.out]; exact hlt) hx _ _ H
      have hnext := congrArg List.length (PL.itemsTo_succ cs i)
      rw [hx] at hnext
      have HNX := Lib.hid hnext
      clear hx hnext
      by_cases hx0 : 0 < x
      · have k4 : (0 : Int) < (x : Int) := by omega
        go_wp2_with fail
        go_roundw
        case rel => exact ⟨i + 1, k + 1, by go_num, by go_num, by omega, by omega, Lib.hid (by rw [HNX.out, if_pos hx0, List.length_append, HK.out]; rfl), H⟩
        case measure => first | (simp [intOf]; omega) | simp [intOf]
      · have k4 : ¬ (0 : Int) < (x : Int) := by omega
        go_wp2_with fail
        go_roundw
        case rel => exact ⟨i + 1, k, by go_num, rfl, by omega, by omega, Lib.hid (by rw [HNX.out, if_neg hx0]; exact HK.out), H⟩
        case measure => first | (simp [intOf]; omega) | simp [intOf]
    · have k1 : ¬ (i : Int) < (n : Int) := by omega
      obtain rfl : i = n := by omega
      have hkk : (PL.items cs).length = k := by
        have h := HK.out
        unfold PL.items
        rw [HN.out]; exact h
      have HKK := Lib.hid hkk
      clear hkk HK
      go_wp2_with fail
      go_loopw [10] (fun jv wr => ∃ (j : Nat), jv = .int .i64 (j : Int) ∧ 1 ≤ j ∧ j ≤ 6 ∧ Sp w0 (Row 3 1 (.slice VA i Vc) i (cellsN cs) :: L) wr) (fun jv _ => 7 - (intOf jv).toNat)
      case atStart => exact ⟨1, rfl, by omega, by omega, H⟩
      case round =>
        clear H
        obtain ⟨j, rfl, hj1x, hj6, H⟩ := hrel
        obtain ⟨pw, hpw⟩ : ∃ p, 2 ^ j = p := ⟨_, rfl⟩
        have y1 : (2 : Int) ^ j = (pw : Int) := by rw [← hpw]; simp
        have hpwl : pw ≤ 64 := by
          rw [← hpw]
          exact Nat.pow_le_pow_right (by omega) hj6
        have hj5 : pw < k → j ≤ 5 := fun h => by
          rcases Nat.lt_or_eq_of_le hj6 with q | q
          · omega
          · subst q
            have : pw = 64 := hpw.symm
            omega
        have HPW := Lib.hid hpw
        clear hpw
        by_cases hlt : pw < k
        · have k2 : (pw : Int) < (k : Int) := by omega
          have hj5 := hj5 hlt
          go_wp2_with fail
          go_roundw
          case rel => exact ⟨j + 1, by go_num, by omega, by omega, H⟩
          case measure => first | (simp [intOf]; omega) | simp [intOf]
        · have k2 : ¬ (pw : Int) < (k : Int) := by omega
          clear hj5
          obtain ⟨d, hd⟩ : ∃ d, 16 - j = d := ⟨_, rfl⟩
          have hd0 : 10 ≤ d := by omega
          obtain ⟨r, hr⟩ : ∃ r, lim % d = r := ⟨_, rfl⟩
          have hrd : r < d := by rw [← hr]; exact Nat.mod_lt _ (by omega)
          have y2 : (16 : Int) - (j : Int) = (d : Int) := by omega
          have y3 : (lim : Int).tmod (d : Int) = (r : Int) := by rw [Int.tmod_eq_emod_of_nonneg (by omega), ← hr]; simp
          have y3b : (lim : Int) % (d : Int) = (r : Int) := by rw [← hr]; simp
          have y3c : ((d : Int) == 0) = false := by rw [beq_eq_false_iff_ne]; omega
          have y3d : (d : Int) ≠ 0 := by omega
          obtain ⟨mo, hmo⟩ : ∃ mo, j + r = mo := ⟨_, rfl⟩
          have y4 : (j : Int) + (r : Int) = (mo : Int) := by omega
          have hm1 : 1 ≤ mo := by omega
          have hm15 : mo ≤ 15 := by omega
          have hkp : (PL.items cs).length ≤ 2 ^ mo := by
            have h1 : 2 ^ j ≤ 2 ^ mo := Nat.pow_le_pow_right (by omega) (by omega)
            have h2 := HPW.out
            have h3 := HKK.out
            omega
          obtain ⟨ls, hls⟩ : ∃ ls, PL.lens cs mo = ls := ⟨_, rfl⟩
          have hlsl : ls.length = i := by rw [← hls, PL.lens_len]; exact HN.out
          have hin := fun z (hz : z < cs.length) => PL.lens_in cs mo z hm1 hkp hz
          rw [hls] at hin
          have hfall := fun y z hy hz h0 h => PL.lens_falls cs mo y z hm1 hkp hy hz h0 h
          rw [hls] at hfall
          have hsum := PL.lens_sum cs mo hm1 hm15 hkp
          rw [hls, HKK.out] at hsum
          have hl15 : ∀ x ∈ ls, x ≤ 15 := getD_mem_le fun z hz => Nat.le_trans (hin z (by rw [HN.out, ← hlsl]; exact hz)).2.2 hm15
          have c1 := lengths_ok VA i Vc cs mo H HN.out.symm (rowN_rd 0 rfl) (by omega) hm1 hm15 (fun x hx => by have := HLE.out x hx; omega) hkp
          rw [hls] at c1
          have hbest := fun (other : List Nat) h1 h2 h3 => PL.least cs other mo hm1 hm15 hkp h1 h2 h3
          rw [hls] at hbest
          have C1 := Lib.hid c1
          have HIN := Lib.hid hin
          have HFALL := Lib.hid hfall
          have HL15 := Lib.hid hl15
          have HLSL := Lib.hid hlsl
          have HBEST := Lib.hid hbest
          have HHR := Lib.hid hr
          clear hd hr hls hlsl hin hfall hl15 c1 hbest hkp
          have hsl : ls.length = i := HLSL.out
          by_cases hk2 : 2 ≤ k
          · have hst : PH.state ls = 0 := by
              rw [if_pos hk2] at hsum
              unfold PH.state
              rw [hsum]; rfl
            have kx2 : (2 : Int) ≤ (k : Int) := by omega
            have kx3 : ¬ (k : Int) < 2 := by omega
            clear hsum hsl
            go_wp2_with fail
            refine C1.out.mono ?_
            rintro _ w3 ⟨v3, rfl, H3⟩
            clear C1 H
            obtain ⟨LA, Lc, hv3, hlc, _⟩ := Row.form H3 0 rfl
            subst hv3
            have c2 := state_ok LA i Lc ls H3 HLSL.out.symm (rowN_rdJ 0 rfl) (by omega) HL15.out
            rw [hst] at c2
            have C2 := Lib.hid c2
            clear c2 hst
            go_wp2_with fail
            refine C2.out.mono ?_
            rintro _ w4 ⟨rfl, H4⟩
            clear C2 H3
            go_wp2_with (at_make; refine wpList_make_sp rfl _ _ _ rfl 3 i1 (.int .i64 0) Try.underlying52 hj hj0 hj1 rfl i rfl rfl (by rw [hj2]; omega) (by unfold maxLen; omega) H4 ?_)
            intro ad w5 H5
            rw [upTo_zero (oth cs bs mo)] at H5
            clear H4
            go_wp2_with fail
            go_loopw [17] (fun zv wr => ∃ (z : Nat), zv = .int .i64 (z : Int) ∧ z ≤ i ∧ Sp w0 (Row 3 1 (.slice (some ad) i i) i (cellsN (upTo (oth cs bs mo) i z)) :: Row 3 1 (.slice LA i Lc) i (cellsN ls) :: Row 3 1 (.slice VA i Vc) i (cellsN cs) :: L) wr) (fun zv _ => i - (intOf zv).toNat)
            case atStart => exact ⟨0, rfl, Nat.zero_le _, H5⟩
            case round =>
              clear H5
              obtain ⟨z, rfl, hzi, H⟩ := hrel
              by_cases hlt2 : z < i
              · have q1 : (z : Int) < (i : Int) := by omega
                obtain ⟨al, hal⟩ := row_some H 2 rfl (by rw [HN.out]; omega)
                obtain ⟨ll, hll⟩ := row_some H 1 rfl (by rw [HLSL.out]; omega)
                subst hal hll
                obtain ⟨x, hx⟩ : ∃ x, cs.getD z 0 = x := ⟨_, rfl⟩
                obtain ⟨y, hy⟩ : ∃ y, ls.getD z 0 = y := ⟨_, rfl⟩
                have hzc : z < cs.length := by rw [HN.out]; exact hlt2
                have hzl : z < ls.length := by rw [HLSL.out]; exact hlt2
                have hcx := rowN_at 2 rfl hzc hx _ _ H
                have hcy := rowN_at 1 rfl hzl hy _ _ H
                have hxy := HIN.out z hzc
                rw [hx, hy] at hxy
                have hym : y ≤ mo := hxy.2.2
                have q2 : ¬ (mo : Int) < (y : Int) := by omega
                have hxl : x ≤ 1000000 := by
                  rw [← hx, List.getD_eq_getElem?_getD, List.getElem?_eq_getElem hzc]
                  exact HLE.out _ (List.getElem_mem hzc)
                have HX := Lib.hid hx
                have HY := Lib.hid hy
                have HXY := Lib.hid hxy
                clear hx hy hxy
                by_cases hx0 : 0 < x
                · have q3 : (0 : Int) < (x : Int) := by omega
                  have hy0 := HXY.out.1 hx0
                  have q4 : (0 : Int) < (y : Int) := by omega
                  have n1 : decide (mo < y) = false := by simp; omega
                  have n2 : decide (0 < y) = true := by simp; omega
                  have n3 : decide (0 < x) = true := by simp; omega
                  go_wp2_with fail
                  go_quiet (fail)
                  try simp only [n1, n2, n3, Bool.not_true, Bool.not_false, Bool.or_false, Bool.false_or, Bool.and_false, Bool.false_and, Bool.and_true, Bool.true_and]
                  go_wp2_with fail
                  go_loopw [18] (fun kv wr => ∃ (kk : Nat), kv = .int .i64 (kk : Int) ∧ kk ≤ z ∧ Sp w0 (Row 3 1 (.slice (some ad) i i) i (cellsN (upTo (oth cs bs mo) i z)) :: Row 3 1 (.slice (some ll) i Lc) i (cellsN ls) :: Row 3 1 (.slice (some al) i Vc) i (cellsN cs) :: L) wr) (fun kv _ => z - (intOf kv).toNat)
                  case atStart => exact ⟨0, rfl, Nat.zero_le _, H.drewN _⟩
                  case round =>
                    clear H hcx hcy
                    obtain ⟨kk, rfl, hkz, H⟩ := hrel
                    have hcx := rowN_at 2 rfl hzc HX.out _ _ H
                    have hcy := rowN_at 1 rfl hzl HY.out _ _ H
                    by_cases hlt3 : kk < z
                    · have p1 : (kk : Int) < (z : Int) := by omega
                      have p2 : (kk : Int) < (i : Int) := by omega
                      obtain ⟨xk, hxk⟩ : ∃ x, cs.getD kk 0 = x := ⟨_, rfl⟩
                      obtain ⟨yk, hyk⟩ : ∃ y, ls.getD kk 0 = y := ⟨_, rfl⟩
                      have hcx2 := rowN_at 2 rfl (by rw [HN.out]; omega) hxk _ _ H
                      have hcy2 := rowN_at 1 rfl (by rw [HLSL.out]; omega) hyk _ _ H
                      by_cases hgt : x < xk
                      · have p5 : (x : Int) < (xk : Int) := by omega
                        have p6 : yk ≤ y := by
                          have h := HFALL.out kk z (by rw [HN.out]; omega) hzc (by rw [HX.out]; exact hx0) (by rw [HX.out, hxk]; omega)
                          rw [hyk, HY.out] at h
                          exact h
                        have p7 : ¬ (y : Int) < (yk : Int) := by omega
                        clear hxk hyk
                        go_wp2_with fail
                        go_quiet (fail)
                        have n4 : decide (y < yk) = false := by simp; omega
                        try simp only [n3, n4, Bool.not_true, Bool.not_false, Bool.or_false, Bool.false_or, Bool.and_false, Bool.false_and, Bool.and_true, Bool.true_and]
                        go_wp2_with fail
                        go_roundw
                        case rel => exact ⟨kk + 1, by go_num, by omega, H.drewN _⟩
                        case measure => first | (simp [intOf]; omega) | simp [intOf]
                      · have p5 : ¬ (x : Int) < (xk : Int) := by omega
                        clear hxk hyk
                        go_wp2_with fail
                        go_quiet (fail)
                        have n4 : decide (x < xk) = false := by simp; omega
                        try simp only [n4, Bool.not_true, Bool.not_false, Bool.or_false, Bool.false_or, Bool.and_false, Bool.false_and, Bool.and_true, Bool.true_and]
                        go_wp2_with fail
                        go_roundw
                        case rel => exact ⟨kk + 1, by go_num, by omega, H.drewN _⟩
                        case measure => first | (simp [intOf]; omega) | simp [intOf]
                    · have p1 : ¬ (kk : Int) < (z : Int) := by omega
                      obtain rfl : kk = z := by omega
                      obtain ⟨ad2, c2, ev, _, hcz, hz0, hset⟩ := H.rowSet hlt2
                      injection ev with ev ev2 ev3
                      injection ev with ev
                      subst ev
                      clear ev2 ev3
                      rw [show (cellsN (upTo (oth cs bs mo) i kk))[kk]? = some (.int .i64 0) by
                        unfold cellsN upTo
                        rw [List.getElem?_map, List.getElem?_map, List.getElem?_range hlt2]
                        simp] at hcz
                      have hs1 := hset (.int .i64 (mo : Int))
                      by_cases hbk : kk < bn
                      · have p8 : (kk : Int) < (bn : Int) := by omega
                        obtain ⟨ad3, c3, ev, _, hcz2, hz2, hset2⟩ := hs1.rowSet hlt2
                        injection ev with ev ev2 ev3
                        injection ev with ev
                        subst ev
                        clear ev2 ev3
                        rw [List.getElem?_set_self (by simpa [cellsN, upTo] using hlt2)] at hcz2
                        have hkb : kk < bs.length := by rw [HBN.out]; exact hbk
                        obtain ⟨bl, hbl, hcb⟩ := (HBS.out _ _ hs1.tail.tail.tail).at8 hkb
                        subst hbl
                        obtain ⟨u, hu⟩ : ∃ u : Nat, bs[kk].toNat = u := ⟨_, rfl⟩
                        rw [hu] at hcb
                        have hul : u < 256 := by rw [← hu]; exact UInt8.toNat_lt _
                        obtain ⟨t, ht⟩ : ∃ t, u % mo = t := ⟨_, rfl⟩
                        have htl : t < mo := by rw [← ht]; exact Nat.mod_lt _ (by omega)
                        have z1 : (u : Int).tmod (mo : Int) = (t : Int) := by rw [Int.tmod_eq_emod_of_nonneg (by omega), ← ht]; simp
                        have z1b : (u : Int) % (mo : Int) = (t : Int) := by rw [← ht]; simp
                        have z1c : ((mo : Int) == 0) = false := by rw [beq_eq_false_iff_ne]; omega
                        have z1d : (mo : Int) ≠ 0 := by omega
                        obtain ⟨t1, ht1⟩ : ∃ t1, 1 + t = t1 := ⟨_, rfl⟩
                        have z2 : (1 : Int) + (t : Int) = (t1 : Int) := by omega
                        have hs2 := hset2 (.int .i64 (t1 : Int))
                        rw [List.set_set, upTo_set (oth cs bs mo) i kk t1 hlt2 (by
                          unfold oth
                          rw [if_pos (by rw [HX.out]; exact hx0), if_pos hkb, List.getD_eq_getElem?_getD, List.getElem?_eq_getElem hkb]
                          show 1 + bs[kk].toNat % mo = t1
                          rw [hu, ht, ht1])] at hs2
                        have HS2 := Lib.hid hs2
                        clear hset hset2 hs1 hs2 hu ht ht1
                        go_wp2_with fail
                        go_roundw
                        case rel => exact ⟨kk + 1, by go_num, by omega, HS2.out⟩
                        case measure => first | (simp [intOf]; omega) | simp [intOf]
                      · have p8 : ¬ (kk : Int) < (bn : Int) := by omega
                        rw [upTo_set (oth cs bs mo) i kk mo hlt2 (by
                          unfold oth
                          rw [if_pos (by rw [HX.out]; exact hx0), if_neg (by rw [HBN.out]; exact hbk)])] at hs1
                        have HS1 := Lib.hid hs1
                        clear hset hs1
                        go_wp2_with fail
                        go_roundw
                        case rel => exact ⟨kk + 1, by go_num, by omega, HS1.out⟩
                        case measure => first | (simp [intOf]; omega) | simp [intOf]
                · have q3 : ¬ (0 : Int) < (x : Int) := by omega
                  have hy0 := HXY.out.2.1 (by omega)
                  have q4 : ¬ (0 : Int) < (y : Int) := by omega
                  have n1 : decide (mo < y) = false := by simp; omega
                  have n2 : decide (0 < y) = false := by simp; omega
                  have n3 : decide (0 < x) = false := by simp; omega
                  go_wp2_with fail
                  go_quiet (fail)
                  try simp only [n1, n2, n3, Bool.not_true, Bool.not_false, Bool.or_false, Bool.false_or, Bool.and_false, Bool.false_and, Bool.and_true, Bool.true_and]
                  go_wp2_with fail
                  go_loopw [18] (fun kv wr => ∃ (kk : Nat), kv = .int .i64 (kk : Int) ∧ kk ≤ z ∧ Sp w0 (Row 3 1 (.slice (some ad) i i) i (cellsN (upTo (oth cs bs mo) i z)) :: Row 3 1 (.slice (some ll) i Lc) i (cellsN ls) :: Row 3 1 (.slice (some al) i Vc) i (cellsN cs) :: L) wr) (fun kv _ => z - (intOf kv).toNat)
                  case atStart => exact ⟨0, rfl, Nat.zero_le _, H.drewN _⟩
                  case round =>
                    clear H hcx hcy
                    obtain ⟨kk, rfl, hkz, H⟩ := hrel
                    have hcx := rowN_at 2 rfl hzc HX.out _ _ H
                    have hcy := rowN_at 1 rfl hzl HY.out _ _ H
                    by_cases hlt3 : kk < z
                    · have p1 : (kk : Int) < (z : Int) := by omega
                      have p2 : (kk : Int) < (i : Int) := by omega
                      obtain ⟨xk, hxk⟩ : ∃ x, cs.getD kk 0 = x := ⟨_, rfl⟩
                      obtain ⟨yk, hyk⟩ : ∃ y, ls.getD kk 0 = y := ⟨_, rfl⟩
                      have hcx2 := rowN_at 2 rfl (by rw [HN.out]; omega) hxk _ _ H
                      have hcy2 := rowN_at 1 rfl (by rw [HLSL.out]; omega) hyk _ _ H
                      by_cases hgt : x < xk
                      · have p5 : (x : Int) < (xk : Int) := by omega
                        clear hxk hyk
                        go_wp2_with fail
                        go_quiet (fail)
                        try simp only [n3, Bool.not_true, Bool.not_false, Bool.or_false, Bool.false_or, Bool.and_false, Bool.false_and, Bool.and_true, Bool.true_and]
                        go_wp2_with fail
                        go_roundw
                        case rel => exact ⟨kk + 1, by go_num, by omega, H.drewN _⟩
                        case measure => first | (simp [intOf]; omega) | simp [intOf]
                      · have p5 : ¬ (x : Int) < (xk : Int) := by omega
                        clear hxk hyk
                        go_wp2_with fail
                        go_quiet (fail)
                        have n4 : decide (x < xk) = false := by simp; omega
                        try simp only [n4, Bool.not_true, Bool.not_false, Bool.or_false, Bool.false_or, Bool.and_false, Bool.false_and, Bool.and_true, Bool.true_and]
                        go_wp2_with fail
                        go_roundw
                        case rel => exact ⟨kk + 1, by go_num, by omega, H.drewN _⟩
                        case measure => first | (simp [intOf]; omega) | simp [intOf]
                    · have p1 : ¬ (kk : Int) < (z : Int) := by omega
                      obtain rfl : kk = z := by omega
                      have hsk := upTo_skip (oth cs bs mo) i kk ((oth_in cs bs mo kk hm1).2 (by rw [HX.out]; omega))
                      rw [hsk] at H
                      clear hsk
                      go_wp2_with fail
                      go_roundw
                      case rel => exact ⟨kk + 1, by go_num, by omega, H⟩
                      case measure => first | (simp [intOf]; omega) | simp [intOf]
              · have q1 : ¬ (z : Int) < (i : Int) := by omega
                obtain rfl : z = i := by omega
                obtain ⟨ol, hol⟩ : ∃ ol, upTo (oth cs bs mo) z z = ol := ⟨_, rfl⟩
                have holl : ol.length = z := by rw [← hol]; exact upTo_len _ _ _
                have hog : ∀ q, q < z → ol.getD q 0 = oth cs bs mo q := fun q hq => by rw [← hol, upTo_get _ _ _ _ hq, if_pos hq]
                have ho15 : ∀ x ∈ ol, x ≤ 15 := getD_mem_le fun q hq => by
                  rw [holl] at hq
                  rw [hog q hq]
                  have h := oth_in cs bs mo q hm1
                  rcases Nat.eq_zero_or_pos (cs.getD q 0) with h0 | h0
                  · rw [h.2 h0]; omega
                  · have := (h.1 h0).2; omega
                rw [hol] at H
                have c2 := state_ok (some ad) z z ol H holl.symm (rowN_rdJ 0 rfl) (by omega) ho15
                obtain ⟨s2, hs2⟩ : ∃ s, PH.state ol = s := ⟨_, rfl⟩
                rw [hs2] at c2
                have C2 := Lib.hid c2
                have hbb : s2 ≠ 1 → PL.cost cs ls ≤ PL.cost cs ol := fun h => by
                  unfold PL.cost
                  rw [HN.out, HLSL.out, holl, Nat.min_self]
                  have h9 := HBEST.out ol (by rw [holl, HN.out]) (fun q hq => by
                    rw [hog q (by rw [← HN.out]; exact hq)]
                    exact oth_in cs bs mo q hm1) (by
                    unfold PH.state at hs2
                    by_cases g1 : PH.sum ol < 32768
                    · omega
                    · rw [if_neg g1] at hs2
                      by_cases g2 : 32768 < PH.sum ol
                      · rw [if_pos g2] at hs2; omega
                      · omega)
                  rw [HN.out] at h9
                  exact h9
                have HBB := Lib.hid hbb
                have HOLL := Lib.hid holl
                have HO15 := Lib.hid ho15
                clear c2 hol hog holl ho15 hs2 hbb
                go_wp2_with fail
                refine C2.out.mono ?_
                rintro _ w6 ⟨rfl, H6⟩
                clear C2 H
                by_cases hs1 : s2 = 1
                · subst hs1
                  have HT := Lib.hid (tells_ok H6)
                  go_wp2_with fail
                  refine HT.out.mono ?_
                  rintro _ w7 ⟨rfl, H7⟩
                  clear HT
                  go_wp2_with fail
                  go_ret
                  exact ⟨rfl, H7.tail.tail.tail⟩
                · have g1 : (s2 != 1) = true := by simpa using hs1
                  have hcc := HBB.out hs1
                  have c3 := cost_ok VA (some ad) z Vc z z cs ol H6 HN.out.symm HOLL.out.symm (rowN_rd 2 rfl) (rowN_rdM 0 rfl) (by omega) (by omega) (fun x hx => by have := HLE.out x hx; omega) (fun x hx => by have := HO15.out x hx; omega)
                  obtain ⟨u1, hu1⟩ : ∃ u, PL.cost cs ol = u := ⟨_, rfl⟩
                  obtain ⟨u2, hu2⟩ : ∃ u, PL.cost cs ls = u := ⟨_, rfl⟩
                  rw [hu1] at c3 hcc
                  rw [hu2] at hcc
                  have C3 := Lib.hid c3
                  clear c3
                  go_wp2_with fail
                  refine C3.out.mono ?_
                  rintro _ w7 ⟨rfl, H7⟩
                  clear C3 H6
                  have c4 := cost_ok VA LA z Vc z Lc cs ls H7 HN.out.symm HLSL.out.symm (rowN_rd 2 rfl) (rowN_rdM 1 rfl) (by omega) (by omega) (fun x hx => by have := HLE.out x hx; omega) (fun x hx => by have := HL15.out x hx; omega)
                  rw [hu2] at c4
                  have C4 := Lib.hid c4
                  have g2 : ¬ (u1 : Int) < (u2 : Int) := by omega
                  clear c4 hu1 hu2
                  go_wp2_with fail
                  refine C4.out.mono ?_
                  rintro _ w8 ⟨rfl, H8⟩
                  clear C4 H7
                  have HT := Lib.hid (tells_ok H8)
                  go_wp2_with fail
                  refine HT.out.mono ?_
                  rintro _ w9 ⟨rfl, H9⟩
                  clear HT
                  go_wp2_with fail
                  go_ret
                  exact ⟨rfl, H9.tail.tail.tail⟩
          · have hst : PH.state ls = -1 := by
              rw [if_neg hk2] at hsum
              unfold PH.state
              rw [if_pos (by omega)]
            have kx2 : ¬ (2 : Int) ≤ (k : Int) := by omega
            have kx3 : (k : Int) < 2 := by omega
            clear hsum hsl
            go_wp2_with fail
            refine C1.out.mono ?_
            rintro _ w3 ⟨v3, rfl, H3⟩
            clear C1 H
            obtain ⟨LA, Lc, hv3, hlc, _⟩ := Row.form H3 0 rfl
            subst hv3
            have c2 := state_ok LA i Lc ls H3 HLSL.out.symm (rowN_rdJ 0 rfl) (by omega) HL15.out
            rw [hst] at c2
            have C2 := Lib.hid c2
            clear c2 hst
            go_wp2_with fail
            refine C2.out.mono ?_
            rintro _ w4 ⟨rfl, H4⟩
            clear C2 H3
            go_wp2_with (at_make; refine wpList_make_sp rfl _ _ _ rfl 3 i1 (.int .i64 0) Try.underlying52 hj hj0 hj1 rfl i rfl rfl (by rw [hj2]; omega) (by unfold maxLen; omega) H4 ?_)
            intro ad w5 H5
            rw [upTo_zero (oth cs bs mo)] at H5
            clear H4
            go_wp2_with fail
            go_loopw [17] (fun zv wr => ∃ (z : Nat), zv = .int .i64 (z : Int) ∧ z ≤ i ∧ Sp w0 (Row 3 1 (.slice (some ad) i i) i (cellsN (upTo (oth cs bs mo) i z)) :: Row 3 1 (.slice LA i Lc) i (cellsN ls) :: Row 3 1 (.slice VA i Vc) i (cellsN cs) :: L) wr) (fun zv _ => i - (intOf zv).toNat)
            case atStart => exact ⟨0, rfl, Nat.zero_le _, H5⟩
            case round =>
              clear H5
              obtain ⟨z, rfl, hzi, H⟩ := hrel
              by_cases hlt2 : z < i
              · have q1 : (z : Int) < (i : Int) := by omega
                obtain ⟨al, hal⟩ := row_some H 2 rfl (by rw [HN.out]; omega)
                obtain ⟨ll, hll⟩ := row_some H 1 rfl (by rw [HLSL.out]; omega)
                subst hal hll
                obtain ⟨x, hx⟩ : ∃ x, cs.getD z 0 = x := ⟨_, rfl⟩
                obtain ⟨y, hy⟩ : ∃ y, ls.getD z 0 = y := ⟨_, rfl⟩
                have hzc : z < cs.length := by rw [HN.out]; exact hlt2
                have hzl : z < ls.length := by rw [HLSL.out]; exact hlt2
                have hcx := rowN_at 2 rfl hzc hx _ _ H
                have hcy := rowN_at 1 rfl hzl hy _ _ H
                have hxy := HIN.out z hzc
                rw [hx, hy] at hxy
                have hym : y ≤ mo := hxy.2.2
                have q2 : ¬ (mo : Int) < (y : Int) := by omega
                have hxl : x ≤ 1000000 := by
                  rw [← hx, List.getD_eq_getElem?_getD, List.getElem?_eq_getElem hzc]
                  exact HLE.out _ (List.getElem_mem hzc)
                have HX := Lib.hid hx
                have HY := Lib.hid hy
                have HXY := Lib.hid hxy
                clear hx hy hxy
                by_cases hx0 : 0 < x
                · have q3 : (0 : Int) < (x : Int) := by omega
                  have hy0 := HXY.out.1 hx0
                  have q4 : (0 : Int) < (y : Int) := by omega
                  have n1 : decide (mo < y) = false := by simp; omega
                  have n2 : decide (0 < y) = true := by simp; omega
                  have n3 : decide (0 < x) = true := by simp; omega
                  go_wp2_with fail
                  go_quiet (fail)
                  try simp only [n1, n2, n3, Bool.not_true, Bool.not_false, Bool.or_false, Bool.false_or, Bool.and_false, Bool.false_and, Bool.and_true, Bool.true_and]
                  go_wp2_with fail
                  go_loopw [18] (fun kv wr => ∃ (kk : Nat), kv = .int .i64 (kk : Int) ∧ kk ≤ z ∧ Sp w0 (Row 3 1 (.slice (some ad) i i) i (cellsN (upTo (oth cs bs mo) i z)) :: Row 3 1 (.slice (some ll) i Lc) i (cellsN ls) :: Row 3 1 (.slice (some al) i Vc) i (cellsN cs) :: L) wr) (fun kv _ => z - (intOf kv).toNat)
                  case atStart => exact ⟨0, rfl, Nat.zero_le _, H.drewN _⟩
                  case round =>
                    clear H hcx hcy
                    obtain ⟨kk, rfl, hkz, H⟩ := hrel
                    have hcx := rowN_at 2 rfl hzc HX.out _ _ H
                    have hcy := rowN_at 1 rfl hzl HY.out _ _ H
                    by_cases hlt3 : kk < z
                    · have p1 : (kk : Int) < (z : Int) := by omega
                      have p2 : (kk : Int) < (i : Int) := by omega
                      obtain ⟨xk, hxk⟩ : ∃ x, cs.getD kk 0 = x := ⟨_, rfl⟩
                      obtain ⟨yk, hyk⟩ : ∃ y, ls.getD kk 0 = y := ⟨_, rfl⟩
                      have hcx2 := rowN_at 2 rfl (by rw [HN.out]; omega) hxk _ _ H
                      have hcy2 := rowN_at 1 rfl (by rw [HLSL.out]; omega) hyk _ _ H
                      by_cases hgt : x < xk
                      · have p5 : (x : Int) < (xk : Int) := by omega
                        have p6 : yk ≤ y := by
                          have h := HFALL.out kk z (by rw [HN.out]; omega) hzc (by rw [HX.out]; exact hx0) (by rw [HX.out, hxk]; omega)
                          rw [hyk, HY.out] at h
                          exact h
                        have p7 : ¬ (y : Int) < (yk : Int) := by omega
                        clear hxk hyk
                        go_wp2_with fail
                        go_quiet (fail)
                        have n4 : decide (y < yk) = false := by simp; omega
                        try simp only [n3, n4, Bool.not_true, Bool.not_false, Bool.or_false, Bool.false_or, Bool.and_false, Bool.false_and, Bool.and_true, Bool.true_and]
                        go_wp2_with fail
                        go_roundw
                        case rel => exact ⟨kk + 1, by go_num, by omega, H.drewN _⟩
                        case measure => first | (simp [intOf]; omega) | simp [intOf]
                      · have p5 : ¬ (x : Int) < (xk : Int) := by omega
                        clear hxk hyk
                        go_wp2_with fail
                        go_quiet (fail)
                        have n4 : decide (x < xk) = false := by simp; omega
                        try simp only [n4, Bool.not_true, Bool.not_false, Bool.or_false, Bool.false_or, Bool.and_false, Bool.false_and, Bool.and_true, Bool.true_and]
                        go_wp2_with fail
                        go_roundw
                        case rel => exact ⟨kk + 1, by go_num, by omega, H.drewN _⟩
                        case measure => first | (simp [intOf]; omega) | simp [intOf]
                    · have p1 : ¬ (kk : Int) < (z : Int) := by omega
                      obtain rfl : kk = z := by omega
                      obtain ⟨ad2, c2, ev, _, hcz, hz0, hset⟩ := H.rowSet hlt2
                      injection ev with ev ev2 ev3
                      injection ev with ev
                      subst ev
                      clear ev2 ev3
                      rw [show (cellsN (upTo (oth cs bs mo) i kk))[kk]? = some (.int .i64 0) by
                        unfold cellsN upTo
                        rw [List.getElem?_map, List.getElem?_map, List.getElem?_range hlt2]
                        simp] at hcz
                      have hs1 := hset (.int .i64 (mo : Int))
                      by_cases hbk : kk < bn
                      · have p8 : (kk : Int) < (bn : Int) := by omega
                        obtain ⟨ad3, c3, ev, _, hcz2, hz2, hset2⟩ := hs1.rowSet hlt2
                        injection ev with ev ev2 ev3
                        injection ev with ev
                        subst ev
                        clear ev2 ev3
                        rw [List.getElem?_set_self (by simpa [cellsN, upTo] using hlt2)] at hcz2
                        have hkb : kk < bs.length := by rw [HBN.out]; exact hbk
                        obtain ⟨bl, hbl, hcb⟩ := (HBS.out _ _ hs1.tail.tail.tail).at8 hkb
                        subst hbl
                        obtain ⟨u, hu⟩ : ∃ u : Nat, bs[kk].toNat = u := ⟨_, rfl⟩
                        rw [hu] at hcb
                        have hul : u < 256 := by rw [← hu]; exact UInt8.toNat_lt _
                        obtain ⟨t, ht⟩ : ∃ t, u % mo = t := ⟨_, rfl⟩
                        have htl : t < mo := by rw [← ht]; exact Nat.mod_lt _ (by omega)
                        have z1 : (u : Int).tmod (mo : Int) = (t : Int) := by rw [Int.tmod_eq_emod_of_nonneg (by omega), ← ht]; simp
                        have z1b : (u : Int) % (mo : Int) = (t : Int) := by rw [← ht]; simp
                        have z1c : ((mo : Int) == 0) = false := by rw [beq_eq_false_iff_ne]; omega
                        have z1d : (mo : Int) ≠ 0 := by omega
                        obtain ⟨t1, ht1⟩ : ∃ t1, 1 + t = t1 := ⟨_, rfl⟩
                        have z2 : (1 : Int) + (t : Int) = (t1 : Int) := by omega
                        have hs2 := hset2 (.int .i64 (t1 : Int))
                        rw [List.set_set, upTo_set (oth cs bs mo) i kk t1 hlt2 (by
                          unfold oth
                          rw [if_pos (by rw [HX.out]; exact hx0), if_pos hkb, List.getD_eq_getElem?_getD, List.getElem?_eq_getElem hkb]
                          show 1 + bs[kk].toNat % mo = t1
                          rw [hu, ht, ht1])] at hs2
                        have HS2 := Lib.hid hs2
                        clear hset hset2 hs1 hs2 hu ht ht1
                        go_wp2_with fail
                        go_roundw
                        case rel => exact ⟨kk + 1, by go_num, by omega, HS2.out⟩
                        case measure => first | (simp [intOf]; omega) | simp [intOf]
                      · have p8 : ¬ (kk : Int) < (bn : Int) := by omega
                        rw [upTo_set (oth cs bs mo) i kk mo hlt2 (by
                          unfold oth
                          rw [if_pos (by rw [HX.out]; exact hx0), if_neg (by rw [HBN.out]; exact hbk)])] at hs1
                        have HS1 := Lib.hid hs1
                        clear hset hs1
                        go_wp2_with fail
                        go_roundw
                        case rel => exact ⟨kk + 1, by go_num, by omega, HS1.out⟩
                        case measure => first | (simp [intOf]; omega) | simp [intOf]
                · have q3 : ¬ (0 : Int) < (x : Int) := by omega
                  have hy0 := HXY.out.2.1 (by omega)
                  have q4 : ¬ (0 : Int) < (y : Int) := by omega
                  have n1 : decide (mo < y) = false := by simp; omega
                  have n2 : decide (0 < y) = false := by simp; omega
                  have n3 : decide (0 < x) = false := by simp; omega
                  go_wp2_with fail
                  go_quiet (fail)
                  try simp only [n1, n2, n3, Bool.not_true, Bool.not_false, Bool.or_false, Bool.false_or, Bool.and_false, Bool.false_and, Bool.and_true, Bool.true_and]
                  go_wp2_with fail
                  go_loopw [18] (fun kv wr => ∃ (kk : Nat), kv = .int .i64 (kk : Int) ∧ kk ≤ z ∧ Sp w0 (Row 3 1 (.slice (some ad) i i) i (cellsN (upTo (oth cs bs mo) i z)) :: Row 3 1 (.slice (some ll) i Lc) i (cellsN ls) :: Row 3 1 (.slice (some al) i Vc) i (cellsN cs) :: L) wr) (fun kv _ => z - (intOf kv).toNat)
                  case atStart => exact ⟨0, rfl, Nat.zero_le _, H.drewN _⟩
                  case round =>
                    clear H hcx hcy
                    obtain ⟨kk, rfl, hkz, H⟩ := hrel
                    have hcx := rowN_at 2 rfl hzc HX.out _ _ H
                    have hcy := rowN_at 1 rfl hzl HY.out _ _ H
                    by_cases hlt3 : kk < z
                    · have p1 : (kk : Int) < (z : Int) := by omega
                      have p2 : (kk : Int) < (i : Int) := by omega
                      obtain ⟨xk, hxk⟩ : ∃ x, cs.getD kk 0 = x := ⟨_, rfl⟩
                      obtain ⟨yk, hyk⟩ : ∃ y, ls.getD kk 0 = y := ⟨_, rfl⟩
                      have hcx2 := rowN_at 2 rfl (by rw [HN.out]; omega) hxk _ _ H
                      have hcy2 := rowN_at 1 rfl (by rw [HLSL.out]; omega) hyk _ _ H
                      by_cases hgt : x < xk
                      · have p5 : (x : Int) < (xk : Int) := by omega
                        clear hxk hyk
                        go_wp2_with fail
                        go_quiet (fail)
                        try simp only [n3, Bool.not_true, Bool.not_false, Bool.or_false, Bool.false_or, Bool.and_false, Bool.false_and, Bool.and_true, Bool.true_and]
                        go_wp2_with fail
                        go_roundw
                        case rel => exact ⟨kk + 1, by go_num, by omega, H.drewN _⟩
                        case measure => first | (simp [intOf]; omega) | simp [intOf]
                      · have p5 : ¬ (x : Int) < (xk : Int) := by omega
                        clear hxk hyk
                        go_wp2_with fail
                        go_quiet (fail)
                        have n4 : decide (x < xk) = false := by simp; omega
                        try simp only [n4, Bool.not_true, Bool.not_false, Bool.or_false, Bool.false_or, Bool.and_false, Bool.false_and, Bool.and_true, Bool.true_and]
                        go_wp2_with fail
                        go_roundw
                        case rel => exact ⟨kk + 1, by go_num, by omega, H.drewN _⟩
                        case measure => first | (simp [intOf]; omega) | simp [intOf]
                    · have p1 : ¬ (kk : Int) < (z : Int) := by omega
                      obtain rfl : kk = z := by omega
                      have hsk := upTo_skip (oth cs bs mo) i kk ((oth_in cs bs mo kk hm1).2 (by rw [HX.out]; omega))
                      rw [hsk] at H
                      clear hsk
                      go_wp2_with fail
                      go_roundw
                      case rel => exact ⟨kk + 1, by go_num, by omega, H⟩
                      case measure => first | (simp [intOf]; omega) | simp [intOf]
              · have q1 : ¬ (z : Int) < (i : Int) := by omega
                obtain rfl : z = i := by omega
                obtain ⟨ol, hol⟩ : ∃ ol, upTo (oth cs bs mo) z z = ol := ⟨_, rfl⟩
                have holl : ol.length = z := by rw [← hol]; exact upTo_len _ _ _
                have hog : ∀ q, q < z → ol.getD q 0 = oth cs bs mo q := fun q hq => by rw [← hol, upTo_get _ _ _ _ hq, if_pos hq]
                have ho15 : ∀ x ∈ ol, x ≤ 15 := getD_mem_le fun q hq => by
                  rw [holl] at hq
                  rw [hog q hq]
                  have h := oth_in cs bs mo q hm1
                  rcases Nat.eq_zero_or_pos (cs.getD q 0) with h0 | h0
                  · rw [h.2 h0]; omega
                  · have := (h.1 h0).2; omega
                rw [hol] at H
                have c2 := state_ok (some ad) z z ol H holl.symm (rowN_rdJ 0 rfl) (by omega) ho15
                obtain ⟨s2, hs2⟩ : ∃ s, PH.state ol = s := ⟨_, rfl⟩
                rw [hs2] at c2
                have C2 := Lib.hid c2
                have hbb : s2 ≠ 1 → PL.cost cs ls ≤ PL.cost cs ol := fun h => by
                  unfold PL.cost
                  rw [HN.out, HLSL.out, holl, Nat.min_self]
                  have h9 := HBEST.out ol (by rw [holl, HN.out]) (fun q hq => by
                    rw [hog q (by rw [← HN.out]; exact hq)]
                    exact oth_in cs bs mo q hm1) (by
                    unfold PH.state at hs2
                    by_cases g1 : PH.sum ol < 32768
                    · omega
                    · rw [if_neg g1] at hs2
                      by_cases g2 : 32768 < PH.sum ol
                      · rw [if_pos g2] at hs2; omega
                      · omega)
                  rw [HN.out] at h9
                  exact h9
                have HBB := Lib.hid hbb
                have HOLL := Lib.hid holl
                have HO15 := Lib.hid ho15
                clear c2 hol hog holl ho15 hs2 hbb
                go_wp2_with fail
                refine C2.out.mono ?_
                rintro _ w6 ⟨rfl, H6⟩
                clear C2 H
                by_cases hs1 : s2 = 1
                · subst hs1
                  have HT := Lib.hid (tells_ok H6)
                  go_wp2_with fail
                  refine HT.out.mono ?_
                  rintro _ w7 ⟨rfl, H7⟩
                  clear HT
                  go_wp2_with fail
                  go_ret
                  exact ⟨rfl, H7.tail.tail.tail⟩
                · have g1 : (s2 != 1) = true := by simpa using hs1
                  have hcc := HBB.out hs1
                  have c3 := cost_ok VA (some ad) z Vc z z cs ol H6 HN.out.symm HOLL.out.symm (rowN_rd 2 rfl) (rowN_rdM 0 rfl) (by omega) (by omega) (fun x hx => by have := HLE.out x hx; omega) (fun x hx => by have := HO15.out x hx; omega)
                  obtain ⟨u1, hu1⟩ : ∃ u, PL.cost cs ol = u := ⟨_, rfl⟩
                  obtain ⟨u2, hu2⟩ : ∃ u, PL.cost cs ls = u := ⟨_, rfl⟩
                  rw [hu1] at c3 hcc
                  rw [hu2] at hcc
                  have C3 := Lib.hid c3
                  clear c3
                  go_wp2_with fail
                  refine C3.out.mono ?_
                  rintro _ w7 ⟨rfl, H7⟩
                  clear C3 H6
                  have c4 := cost_ok VA LA z Vc z Lc cs ls H7 HN.out.symm HLSL.out.symm (rowN_rd 2 rfl) (rowN_rdM 1 rfl) (by omega) (by omega) (fun x hx => by have := HLE.out x hx; omega) (fun x hx => by have := HL15.out x hx; omega)
                  rw [hu2] at c4
                  have C4 := Lib.hid c4
                  have g2 : ¬ (u1 : Int) < (u2 : Int) := by omega
                  clear c4 hu1 hu2
                  go_wp2_with fail
                  refine C4.out.mono ?_
                  rintro _ w8 ⟨rfl, H8⟩
                  clear C4 H7
                  have HT := Lib.hid (tells_ok H8)
                  go_wp2_with fail
                  refine HT.out.mono ?_
                  rintro _ w9 ⟨rfl, H9⟩
                  clear HT
                  go_wp2_with fail
                  go_ret
                  exact ⟨rfl, H9.tail.tail.tail⟩
end Go.Proofs.Ytdlbhoedmaifpaa
