/- HuffFull: the walk: by a full book each row of 15 bits begins with just one code; of wanting lengths some begin with none. -/
import Derived.Test.YtdlbhoedmaifpaaHuffKnown
import Derived.Test.YtdlbhoedmaifpaaHuffCode
import Derived.Deep.CutRange
import Derived.Test.YtdlbhoedmaifpaaSepRegion2
namespace Go.Proofs.Ytdlbhoedmaifpaa
set_option linter.unusedVariables false
open Go.RowKit
theorem infoBo : (Try.prog.info? 4).map (fun i => (i.zero, i.size, i.bytes)) = some (some (.bool false), 1, 1) := by kernel_rfl
def ms16 (l : List UInt8) (k : Nat) : List Nat := (l.take k).map fun c => c.toNat % 16
theorem ms16_succ (l : List UInt8) (k : Nat) (h : k < l.length) : ms16 l (k + 1) = ms16 l k ++ [l[k].toNat % 16] := by
  unfold ms16; rw [List.take_succ_eq_append_getElem h, List.map_append]; rfl
theorem ms16_len (l : List UInt8) (k : Nat) (h : k ≤ l.length) : (ms16 l k).length = k := by unfold ms16; rw [List.length_map, List.length_take]; omega
theorem ms16_le (l : List UInt8) (k : Nat) : ∀ x ∈ ms16 l k, x ≤ 15 := by
  intro x hx
  obtain ⟨c, _, rfl⟩ := List.mem_map.1 hx
  omega
theorem rowN_rdI {M : List Pr} {V : Option Addr} {n kk : Nat} {l : List Nat} (j : Nat) (hj : M[j]? = some (Row 3 1 (.slice V n kk) n (cellsN l))) : Ent M fun w => Rd w V (cells64 (castI l)) := rowN_rd j hj
/-- How many codes the first symbols have that a row begins with, and which one. -/
def Begins (m : List Nat) (R i b wh : Nat) : Prop := (b = 0 ∧ ∀ j, j < i → ¬ PH.hit m R j) ∨ (b = 1 ∧ wh < i ∧ PH.hit m R wh)
theorem Begins.step {m : List Nat} (h15 : ∀ x ∈ m, x ≤ 15) {R i b wh : Nat} (h : Begins m R i b wh) (hi : i < m.length) (hh : PH.hit m R i) : b = 0 := by
  rcases h with h | ⟨_, h1, h2⟩
  · exact h.1
  · have := PH.hit_uniq m h15 R wh i (by omega) hi h2 hh
    omega
theorem Begins.no {m : List Nat} {R i b wh : Nat} (h : Begins m R i b wh) (hh : ¬ PH.hit m R i) : Begins m R (i + 1) b wh := by
  rcases h with ⟨h1, h2⟩ | ⟨h1, h2, h3⟩
  · refine .inl ⟨h1, fun j hj => ?_⟩
    rcases Nat.lt_or_eq_of_le (Nat.le_of_lt_succ hj) with h | rfl
    · exact h2 j h
    · exact hh
  · exact .inr ⟨h1, by omega, h3⟩
set_option maxRecDepth 100000 in
set_option maxHeartbeats 8000000 in
theorem full_any (A : Option Addr) (ca : Nat) (l : List UInt8) (row : Nat) {w0 w : World} {L : List Pr} (H : Sp w0 L w) (hb : Ent L fun w' => Byt w' (.slice A l.length ca) l) (hrow : row < 65536) :
    Calls Try.prog 10 #[.slice A l.length ca, .int .u16 (row : Int)] w fun e w' => e = .returned (.bool true) ∧ Sp w0 L w' := by
  obtain ⟨i1, hj, hj0, hj1, hj2⟩ := info_parts infoJ
  obtain ⟨ib, hbi, hb0, hb1, hb2⟩ := info_parts infoBo
  have hcap : l.length ≤ ca ∧ ca ≤ maxLen := by
    obtain ⟨_, _, e, _, h1, h2⟩ := hb _ _ H
    injection e with _ _ e
    subst e
    exact ⟨h1, h2⟩
  have hcm := hcap.2
  unfold maxLen at hcm
  obtain ⟨n, hn⟩ : ∃ n, l.length = n := ⟨_, rfl⟩
  have hnc : n ≤ ca := by omega
  have hrd : Ent L fun w' => Rd w' A (cells8 l) := fun w0' w' H' => by
    obtain ⟨A', c', e, hr, _, _⟩ := hb w0' w' H'
    injection e with e
    rw [e]; exact hr
  rw [hn]
  have HN := Lib.hid hn
  have HB := Lib.hid hrd
  obtain ⟨k0, hk0⟩ : ∃ k0, min n 60 = k0 := ⟨_, rfl⟩
  have hk1 : k0 ≤ n := by omega
  have hk2 : k0 ≤ 60 := by omega
  have hk3 : n ≤ k0 ∨ k0 = 60 := by omega
  obtain ⟨R, hR⟩ : ∃ R, row / 2 = R := ⟨_, rfl⟩
  have yR : (row : Int) / 2 = (R : Int) := by omega
  have hRl : R < 32768 := by omega
  have HR := Lib.hid hR
  clear hn hrd hb hcap hk0 hR
  go_enter Try.func10, Try.ntmps10
  go_wp2_with fail
  go_loopw [5, 6] (fun vv iv wr => ∃ (i : Nat), iv = .int .i64 (i : Int) ∧ i ≤ k0 ∧ Sp w0 (Row 3 1 vv i (cellsN (ms16 l i)) :: L) wr) (fun _ iv _ => k0 - (intOf iv).toNat)
  case atStart => exact ⟨0, rfl, Nat.zero_le _, H.rowNil _ _⟩
  case round =>
    clear H
    obtain ⟨i, rfl, hi, H⟩ := hrel
    obtain ⟨D, hD⟩ : ∃ D, ms16 l i = D := ⟨_, rfl⟩
    rw [hD] at H
    obtain ⟨VA, Vc, hvf, _, _⟩ := Row.form H 0 rfl
    subst hvf
    by_cases hlt : i < k0
    · have k1 : (i : Int) < (n : Int) := by omega
      have k2 : (i : Int) < 60 := by omega
      have hil : i < l.length := by rw [HN.out]; omega
      obtain ⟨al, hal, hc⟩ := (HB.out _ _ H.tail).at8 hil
      subst hal
      obtain ⟨x, hx⟩ : ∃ x : Nat, l[i].toNat = x := ⟨_, rfl⟩
      rw [hx] at hc
      obtain ⟨y, hy⟩ : ∃ y, x % 16 = y := ⟨_, rfl⟩
      have hxl : x < 256 := by rw [← hx]; exact UInt8.toNat_lt _
      have yy : (x : Int) % 16 = (y : Int) := by omega
      have yy2 : (x : Int).tmod 16 = (y : Int) := by rw [Int.tmod_eq_emod_of_nonneg (by omega)]; exact yy
      have hyl : y < 16 := by omega
      have hnext := ms16_succ l i hil
      rw [hx, hy, hD] at hnext
      have HNX := Lib.hid hnext
      have hr9 := Rd.of_blk (Blk.new wr 3 [.int .i64 (y : Int)])
      have HR9 := Lib.hid hr9
      have h9 := (H.newBk [.int .i64 (y : Int)] 3).swap
      have HH9 := Lib.hid h9
      have hDl : D.length = i := by rw [← hD]; exact ms16_len l i (by omega)
      have hDL := Lib.hid hDl
      clear hr9 h9 H hx hy hD hnext hDl
      go_wp2_with (at_builtin; refine wpList_append_sp rfl _ _ 52 rfl 3 i1 (.int .i64 0) 1 8 Try.underlying52 hj hj0 hj1 hj2 rfl (by decide) (.slice VA i Vc) i (cellsN D) rfl HH9.out (some ⟨wr.heap.size, 0, none⟩) 1 1 [.int .i64 (y : Int)] rfl rfl HR9.out (by intro u hu; rw [List.mem_singleton.1 hu]; rfl) (by simp only [maxLen]; omega) (by omega) ?_)
      intro v6 w6 H6 _
      clear HR9 HH9
      go_wp2_with fail
      go_roundw
      case rel =>
        refine ⟨i + 1, by go_num, by omega, ?_⟩
        rw [HNX.out, cellsN_append]
        exact H6.pick 2 [0]
      case measure => first | (simp [intOf]; omega) | simp [intOf]
    · obtain rfl : i = k0 := by omega
      have hDl : D.length = i := by rw [← hD]; exact ms16_len l i (by rw [HN.out]; exact hk1)
      have h15 : ∀ x ∈ D, x ≤ 15 := by rw [← hD]; exact ms16_le l i
      have HDL := Lib.hid hDl.symm
      have H15 := Lib.hid h15
      have kx : ¬ ((i : Int) < (n : Int)) ∨ ((i : Int) < (n : Int) ∧ ¬ (i : Int) < 60) := by omega
      have c1 := fun w (H : Sp w0 (Row 3 1 (.slice VA i Vc) i (cellsN D) :: L) w) => state_ok VA i Vc D H hDl.symm (rowN_rdI 0 rfl) (by omega) h15
      have C1 := Lib.hid c1
      clear hD c1 hDl h15
      obtain ⟨st, hst⟩ : ∃ st, PH.state D = st := ⟨_, rfl⟩
      rw [hst] at C1
      by_cases h1 : st = 1
      · subst h1
        have hno := PH.many_no_book D hst
        have c2 := fun (M : List Pr) w (H : Sp w0 (Row 3 1 (.slice VA i Vc) i (cellsN D) :: M) w) => new_no VA i Vc D H HDL.out (rowN_rdI 0 rfl) (by omega) H15.out hno
        have c3 := fun (M : List Pr) w (H : Sp w0 (Row 3 1 (.slice VA i Vc) i (cellsN D) :: M) w) => codes_many VA i Vc D H HDL.out (rowN_rdI 0 rfl) (by omega) H15.out hst
        have C2 := Lib.hid c2
        have C3 := Lib.hid c3
        clear hst hno c2 c3
        go_upto_region 3 with (fail)
        go_cut [27] from 20 to 38 (fun s27 wx => s27 = .bool false ∧ Sp w0 (Row 3 1 (.slice VA i Vc) i (cellsN D) :: L) wx)
        case first =>
          rcases kx with kx | ⟨kx, ky⟩
          · go_wp2_with fail
            go_meet
            exact ⟨rfl, H⟩
          · go_wp2_with fail
            go_meet
            exact ⟨rfl, H⟩
        case rest =>
          obtain ⟨rfl, H⟩ := hcut
          go_wp2_with fail
          refine (C1.out _ H).mono ?_
          rintro _ w2 ⟨rfl, H2⟩
          clear H C1
          go_wp2_with fail
          refine (C2.out _ _ H2).mono ?_
          rintro _ w3 ⟨rfl, H3⟩
          clear H2 C2
          go_wp2_with fail
          refine (C3.out _ _ H3).mono ?_
          rintro _ w4 ⟨rfl, H4⟩
          clear H3 C3
          have HT := Lib.hid (tells_ok H4)
          go_wp2_with fail
          refine HT.out.mono ?_
          rintro _ w5 ⟨rfl, H5⟩
          go_wp2_with fail
          go_ret
          exact ⟨rfl, H5.tail⟩
      · have hs : PH.sum D ≤ 32768 := by
          unfold PH.state at hst
          by_cases q : PH.sum D < 32768
          · omega
          · rw [if_neg q] at hst
            by_cases q2 : 32768 < PH.sum D
            · rw [if_pos q2] at hst; omega
            · omega
        have hst0 : st = 0 → PH.sum D = 32768 := by
          intro h0
          unfold PH.state at hst
          by_cases q : PH.sum D < 32768
          · rw [if_pos q] at hst; omega
          · omega
        have kst : (st == 1) = false := by rw [beq_eq_false_iff_ne]; exact h1
        have kst2 : (st != 1) = true := by simpa using h1
        by_cases hmb : mayBook D = true
        · have c2 := fun w (H : Sp w0 (Row 3 1 (.slice VA i Vc) i (cellsN D) :: L) w) => new_yes VA i Vc D H HDL.out (rowN_rdI 0 rfl) (by omega) H15.out hmb
          obtain ⟨mo, hmo⟩ : ∃ mo : Nat, mostOf D = (mo : Int) := by
            unfold mostOf
            split
            · exact ⟨15, rfl⟩
            · exact ⟨1, rfl⟩
          have hmo15 : mo ≤ 15 := by
            unfold mostOf at hmo
            split at hmo <;> omega
          have hbr := PH.book_reads D R mo hRl hmb hmo
          rw [hmo] at c2
          have C2 := Lib.hid c2
          have HBR := Lib.hid hbr
          have HST0 := Lib.hid hst0
          have HS := Lib.hid hs
          clear hst hmb c2 hmo hbr hst0 hs
          go_upto_region 3 with (fail)
          go_cut [27] from 20 to 38 (fun s27 wx => s27 = .bool false ∧ Sp w0 (Row 3 1 (.slice VA i Vc) i (cellsN D) :: L) wx)
          case first =>
            rcases kx with kx | ⟨kx, ky⟩
            · go_wp2_with fail
              go_meet
              exact ⟨rfl, H⟩
            · go_wp2_with fail
              go_meet
              exact ⟨rfl, H⟩
          case rest =>
            obtain ⟨rfl, H⟩ := hcut
            go_wp2_with fail
            refine (C1.out _ H).mono ?_
            rintro _ w2 ⟨rfl, H2⟩
            clear H C1
            go_wp2_with fail
            refine (C2.out _ H2).mono ?_
            rintro _ w3 ⟨gb, vb, rfl, H3⟩
            clear H2 C2
            have c4 := codes_ok VA i Vc D H3 HDL.out (rowN_rdI 2 rfl) (by omega) H15.out HS.out
            have C4 := Lib.hid c4
            clear c4
            go_wp2_with fail
            refine C4.out.mono ?_
            rintro _ w4 ⟨vc, rfl, H4⟩
            clear C4 H3
            obtain ⟨VC, Cc, hvc, _, _⟩ := Row.form H4 0 rfl
            subst hvc
            have hlr : Ent (Row 70 1 (.slice VC i Cc) i (rowU (PH.codeAt D) i) :: Row 3 1 vb (PH.rows D).length (cellsN (PH.rows D)) :: BkB gb D vb (mo : Int) :: Row 3 1 (.slice VA i Vc) i (cellsN D) :: L) (fun w => Rd w VA (cells64 (castI D))) := rowN_rdI 3 rfl
            have HLR := Lib.hid hlr
            clear hlr
            go_upto_region 9 with (fail)
            go_cut [86] from 39 (fun s86 wx => s86 = .bool false ∧ Sp w0 (Row 70 1 (.slice VC i Cc) i (rowU (PH.codeAt D) i) :: Row 3 1 vb (PH.rows D).length (cellsN (PH.rows D)) :: BkB gb D vb (mo : Int) :: Row 3 1 (.slice VA i Vc) i (cellsN D) :: L) wx)
            case first =>
              by_cases h0 : st = 0
              · subst h0
                go_wp2_with fail
                go_meet
                exact ⟨rfl, H4⟩
              · have kst3 : (st == 0) = false := by rw [beq_eq_false_iff_ne]; exact h0
                go_wp2_with fail
                go_meet
                exact ⟨rfl, H4⟩
            case rest =>
              clear H4
              obtain ⟨rfl, H4⟩ := hcut
              go_wp2_with fail
              go_loopw [13, 14, 15] (fun bv wv iv wr => ∃ (k b wh : Nat), iv = .int .i64 (k : Int) ∧ bv = .int .i64 (b : Int) ∧ wv = .int .i64 (wh : Int) ∧ k ≤ i ∧ b ≤ 1 ∧ Hid (Begins D R k b wh) ∧ Sp w0 (Row 70 1 (.slice VC i Cc) i (rowU (PH.codeAt D) i) :: Row 3 1 vb (PH.rows D).length (cellsN (PH.rows D)) :: BkB gb D vb (mo : Int) :: Row 3 1 (.slice VA i Vc) i (cellsN D) :: L) wr) (fun _ _ iv _ => i - (intOf iv).toNat)
              case atStart => exact ⟨0, 0, 0, rfl, rfl, rfl, Nat.zero_le _, Nat.zero_le _, Lib.hid (.inl ⟨rfl, fun j hj => absurd hj (Nat.not_lt_zero _)⟩), H4⟩
              case round =>
                clear H4
                obtain ⟨k, b, wh, rfl, rfl, rfl, hk, hb1x, HBG, H4⟩ := hrel
                by_cases hki : k < i
                · have k1 : (k : Int) < (i : Int) := by omega
                  have hkD : k < D.length := by rw [← HDL.out]; exact hki
                  obtain ⟨al, hal, hc1⟩ := (HLR.out _ _ H4).at64 (k := k) (by simpa [castI] using hkD)
                  obtain ⟨x, hx⟩ : ∃ x, D.getD k 0 = x := ⟨_, rfl⟩
                  have hx2 : D[k] = x := by rw [← hx, List.getD_eq_getElem?_getD, List.getElem?_eq_getElem hkD]; rfl
                  replace hc1 : wr.cell? (al.add k) = some (.int .i64 (x : Int)) := by
                    rw [hc1]
                    simp [castI, hx2]
                  have hx15 : x ≤ 15 := by rw [← hx2]; exact H15.out _ (List.getElem_mem hkD)
                  subst hal
                  by_cases hx0 : 0 < x
                  · have k2 : (0 : Int) < (x : Int) := by omega
                    obtain ⟨cc, hcc⟩ : ∃ cc, PH.codeAt D k = cc := ⟨_, rfl⟩
                    obtain ⟨A9, c9, e9, hr9, _, _⟩ := H4.row_rd 0 rfl
                    injection e9 with e9 e10 e11
                    obtain ⟨ac, hac, hcl⟩ := hr9 (by intro h; have := congrArg List.length h; simp [rowU] at this; omega)
                    have hc2 := hcl k _ (rowU_get _ _ _ hki)
                    rw [hcc] at hc2
                    rw [hac] at e9
                    subst e9
                    obtain ⟨d, hd⟩ : ∃ d, 15 - x = d := ⟨_, rfl⟩
                    have y1 : (15 : Int) - (x : Int) = (d : Int) := by omega
                    obtain ⟨q, hq⟩ : ∃ q, R / 2 ^ d = q := ⟨_, rfl⟩
                    have y2 : (R : Int) / 2 ^ d = (q : Int) := by rw [← hq]; simp
                    obtain ⟨bz, hbz⟩ : ∃ bz, decide (q = cc) = bz := ⟨_, rfl⟩
                    have y3 : ((q : Int) == (cc : Int)) = bz := by
                      rw [← hbz]
                      by_cases e : q = cc
                      · rw [decide_eq_true e, e]; simp
                      · rw [decide_eq_false e, beq_eq_false_iff_ne]; omega
                    have hhit : PH.hit D R k ↔ q = cc := by
                      unfold PH.hit
                      rw [hx, hd, hq, hcc]
                      exact ⟨fun h => h.2, fun h => ⟨by omega, h⟩⟩
                    have HHIT := Lib.hid hhit
                    have HBZ := Lib.hid hbz
                    have HX := Lib.hid hx
                    clear hx hx2 hcc hr9 hcl e10 e11 hac hd hq hhit hbz
                    go_wp2_with fail
                    go_quiet (fail)
                    cases bz
                    · have hno : ¬ PH.hit D R k := fun h => absurd (HHIT.out.1 h) (of_decide_eq_false HBZ.out)
                      have HNO := Lib.hid (HBG.out.no hno)
                      clear hno
                      go_wp2_with fail
                      go_roundw
                      case rel => exact ⟨k + 1, b, wh, by go_num, rfl, rfl, by omega, hb1x, HNO, H4.drewN _⟩
                      case measure => first | (simp [intOf]; omega) | simp [intOf]
                    · have hyes : PH.hit D R k := HHIT.out.2 (of_decide_eq_true HBZ.out)
                      have hb0x : b = 0 := HBG.out.step H15.out hkD hyes
                      subst hb0x
                      have HYES := Lib.hid hyes
                      clear hyes
                      go_wp2_with fail
                      go_roundw
                      case rel => exact ⟨k + 1, 1, k, by go_num, rfl, rfl, by omega, Nat.le_refl _, Lib.hid (.inr ⟨rfl, by omega, HYES.out⟩), H4.drewN _⟩
                      case measure => first | (simp [intOf]; omega) | simp [intOf]
                  · have k2 : ¬ (0 : Int) < (x : Int) := by omega
                    have hno : ¬ PH.hit D R k := fun h => h.1 (by rw [hx]; omega)
                    have HNO := Lib.hid (HBG.out.no hno)
                    clear hno hx hx2
                    go_wp2_with fail
                    go_quiet (fail)
                    go_wp2_with fail
                    go_roundw
                    case rel => exact ⟨k + 1, b, wh, by go_num, rfl, rfl, by omega, hb1x, HNO, H4.drewN _⟩
                    case measure => first | (simp [intOf]; omega) | simp [intOf]
                · have k1 : ¬ (k : Int) < (i : Int) := by omega
                  obtain rfl : k = i := by omega
                  have hfin : (R < PH.sum D → b = 1 ∧ wh < D.length ∧ PH.nextFrom D (PH.bits15 R) mo 0 = (D.getD wh 0, 0, wh)) ∧ (PH.sum D ≤ R → b = 0) := by
                    constructor
                    · intro h
                      obtain ⟨i0, hi0, hh, hnf⟩ := HBR.out.1 h
                      rcases HBG.out with ⟨_, h2⟩ | ⟨h1, h2, h3⟩
                      · exact absurd hh (h2 i0 (by rw [HDL.out]; exact hi0))
                      · have := PH.hit_uniq D H15.out R wh i0 (by rw [← HDL.out]; exact h2) hi0 h3 hh
                        subst this
                        exact ⟨h1, hi0, hnf⟩
                    · intro h
                      rcases HBG.out with ⟨h1, _⟩ | ⟨_, h2, h3⟩
                      · exact h1
                      · exact absurd h3 (PH.no_hit D H15.out R wh (by rw [← HDL.out]; exact h2) h)
                  have HFIN := Lib.hid hfin
                  have kb : ¬ (1 : Int) < (b : Int) := by omega
                  clear hfin
                  go_upto_region 22 with (fail)
                  go_cut [138] from 39 (fun s138 wx => s138 = .bool false ∧ Sp w0 (Row 70 1 (.slice VC k Cc) k (rowU (PH.codeAt D) k) :: Row 3 1 vb (PH.rows D).length (cellsN (PH.rows D)) :: BkB gb D vb (mo : Int) :: Row 3 1 (.slice VA k Vc) k (cellsN D) :: L) wx)
                  case first =>
                    by_cases h0 : st = 0
                    · have hb1y : b = 1 := (HFIN.out.1 (by rw [HST0.out h0]; exact hRl)).1
                      subst h0 hb1y
                      go_wp2_with fail
                      go_meet
                      exact ⟨rfl, H4⟩
                    · have kst3 : (st == 0) = false := by rw [beq_eq_false_iff_ne]; exact h0
                      go_wp2_with fail
                      go_meet
                      exact ⟨rfl, H4⟩
                  case rest =>
                    clear H4
                    obtain ⟨rfl, H4⟩ := hcut
                    have H5 := H4.newBk [.slice none 0 0, .int .i64 0] 75
                    go_wp2_with fail
                    generalize wc.heap.size = gf at H5 ⊢
                    generalize wc.alloc _ = wd at H5 ⊢
                    clear H4
                    go_loopw [17] (fun kv wr => ∃ (k7 n2 : Nat) (bv : Value), kv = .int .i64 (k7 : Int) ∧ k7 ≤ 15 ∧ n2 + k7 = 15 ∧ Sp w0 (Row 4 1 bv n2 (cellsBo ((PH.bits15 R).take n2)) :: Bk gf 75 [bv, .int .i64 0] :: Row 70 1 (.slice VC k Cc) k (rowU (PH.codeAt D) k) :: Row 3 1 vb (PH.rows D).length (cellsN (PH.rows D)) :: BkB gb D vb (mo : Int) :: Row 3 1 (.slice VA k Vc) k (cellsN D) :: L) wr) (fun kv _ => (intOf kv).toNat)
                    case atStart => exact ⟨15, 0, .slice none 0 0, rfl, by omega, by omega, H5.rowNil 4 1⟩
                    case round =>
                      clear H5
                      obtain ⟨kk, bn, bv, rfl, hkk, hbk, H⟩ := hrel
                      obtain ⟨bs, hbs⟩ : ∃ bs, (PH.bits15 R).take bn = bs := ⟨_, rfl⟩
                      rw [hbs] at H
                      obtain ⟨BV, bc, hbv, _, _⟩ := Row.form H 0 rfl
                      subst hbv
                      by_cases hk0 : 0 < kk
                      · have k1 : (0 : Int) < (kk : Int) := by omega
                        obtain ⟨q, hq⟩ : ∃ q, row / 2 ^ kk = q := ⟨_, rfl⟩
                        have y1 : (row : Int) / 2 ^ kk = (q : Int) := by rw [← hq]; simp
                        have hql : q < 65536 := by rw [← hq]; exact Nat.lt_of_le_of_lt (Nat.div_le_self _ _) hrow
                        obtain ⟨q2, hq2⟩ : ∃ q2, q % 2 = q2 := ⟨_, rfl⟩
                        have y2 : bits .and .u16 (q : Int) 1 = (q2 : Int) := by
                          have := u16_and_nat q 1 hql (by decide)
                          rw [Nat.and_one_is_mod, hq2] at this
                          exact this
                        obtain ⟨bz, hbz⟩ : ∃ bz, decide (q2 = 1) = bz := ⟨_, rfl⟩
                        have y3 : ((q2 : Int) == 1) = bz := by
                          rw [← hbz]
                          by_cases e : q2 = 1
                          · rw [e]; rfl
                          · rw [decide_eq_false e, beq_eq_false_iff_ne]; omega
                        have hnext : (PH.bits15 R).take (bn + 1) = bs ++ [bz] := by
                          rw [List.take_succ_eq_append_getElem (by rw [PH.bits15_len]; omega), hbs]
                          congr 2
                          show (PH.bits15 R)[bn]'_ = bz
                          simp only [PH.bits15, List.getElem_map, List.getElem_range]
                          rw [← hbz, ← hq2, ← hq, Nat.testBit_eq_decide_div_mod_eq, ← HR.out, Nat.div_div_eq_div_mul, show 2 * 2 ^ (14 - bn) = 2 ^ kk by rw [show kk = (14 - bn) + 1 by omega, Nat.pow_succ]; omega]
                        have HNX := Lib.hid hnext
                        have hbl : bs.length = bn := by rw [← hbs, List.length_take, PH.bits15_len]; omega
                        clear hq hq2 hbz hnext hbs hbl
                        have hbn : bn ≤ 15 := by omega
                        go_wp2_with fail
                        refine wp_region_dp (L := Row 70 1 (.slice VC k Cc) k (rowU (PH.codeAt D) k) :: Row 3 1 vb (PH.rows D).length (cellsN (PH.rows D)) :: BkB gb D vb (mo : Int) :: Row 3 1 (.slice VA k Vc) k (cellsN D) :: L) (fun ix ux vx => ([(fun _ => (· = .pointer (some ⟨gf, 0, none⟩))), (fun _ => (· = .pointer (some ⟨gf, 0, none⟩))), (fun _ => (· = .pointer (some ⟨gf, 0, none⟩))), (fun _ => (· = .pointer (some ⟨gf, 0, none⟩))), (fun _ => (· = .slice BV bn bc)), (fun _ => (· = .int .u16 (row : Int))), (fun _ => (· = .int .i64 (kk : Int))), (fun _ => (· = .int .u16 (q : Int))), (fun _ => (· = .int .u16 (q2 : Int))), (fun _ => (· = .bool bz)), (fun _ => fun v => v = .slice (some ⟨v.ownBlock.getD 0, 0, none⟩) 1 1), (fun _ => fun v => ∃ A c, v = .slice A (bn + 1) c), (fun _ => (· = .pointer (some ⟨gf, 0, none⟩))), (fun _ => (· = .pointer (some ⟨gf, 0, none⟩))), (fun _ _ => True)] : List (Value → Value → Prop)).getD ix (fun _ _ => True) ux vx)
                          (fun ix ux vx => ([fun _ _ => [], fun _ _ => [], fun _ _ => [], fun _ _ => [], fun _ _ => [], fun _ _ => [], fun _ _ => [], fun _ _ => [], fun _ _ => [], fun _ _ => [], fun _ v => [Bk (v.ownBlock.getD 0) 4 [.bool bz]], fun _ v => [Row 4 1 v (bn + 1) (cellsBo (bs ++ [bz]))], fun _ _ => [], fun _ _ => [], fun ux _ => [Bk gf 75 [ux, .int .i64 0]]] : List (Value → Value → List Pr)).getD ix (fun _ _ => []) ux vx) (fun ix => ([[], [], [], [], [], [], [], [], [], [], [], [Row 4 1 (.slice BV bn bc) bn (cellsBo bs)], [], [], [Bk gf 75 [.slice BV bn bc, .int .i64 0]]] : List (List Pr)).getD ix []) 15 212
                          [some 156, some 157, some 158, some 159, some 160, some 161, some 162, some 163, some 164, some 165, some 166, some 167, some 168, some 169, none]
                          [[], [], [1], [2], [3], [], [], [5, 6], [7], [8], [9], [4, 10], [0, 0, 1, 2, 3, 4, 5, 6, 7, 8, 9, 10, 11], [12, 0, 1, 2, 3, 4, 5, 6, 7, 8, 9, 10, 11], [13, 11, 11, 0, 1, 2, 3, 4, 5, 6, 7, 8, 9, 10, 11]]
                          [[], [], [1], [1, 2], [1, 2, 3], [], [], [5, 6], [5, 6, 7], [5, 6, 7, 8], [5, 6, 7, 8, 9], [1, 2, 3, 4, 5, 6, 7, 8, 9, 10], [0, 1, 2, 3, 4, 5, 6, 7, 8, 9, 10, 11], [0, 1, 2, 3, 4, 5, 6, 7, 8, 9, 10, 11, 12], [0, 1, 2, 3, 4, 5, 6, 7, 8, 9, 10, 11, 12, 13]]
                          [[], [], [], [], [], [], [], [], [], [], [], [10], [], [], []]
                          [[], [], [], [], [14], [], [], [], [], [], [], [], [], [], []]
                          [none, none, none, none, none, none, none, none, none, none, none, none, none, none, some 11] (by decide) [(1, .int .u16 (row : Int)), (16, .pointer (some ⟨gf, 0, none⟩)), (17, .int .i64 (kk : Int))]
                          (by kernel_rfl) rfl (by decide) (by rfl) rfl (by decide +kernel) (by decide +kernel) (by rfl) rfl rfl (by decide) (by simp) (by rfl) (H.pick 2 [0, 1]) ?hstep ?hend
                        case hstep =>
                          refine ⟨?_, ⟨?_, ⟨?_, ⟨?_, ⟨?_, ⟨?_, ⟨?_, ⟨?_, ⟨?_, ⟨?_, ⟨?_, ⟨?_, ⟨?_, ⟨?_, ⟨?_, trivial⟩⟩⟩⟩⟩⟩⟩⟩⟩⟩⟩⟩⟩⟩⟩
                          · intro x wx A rest hN hS hE H K hK0
                            have e16 : A.tmps[16]?.getD undef = .pointer (some ⟨gf, 0, none⟩) := hN (16, .pointer (some ⟨gf, 0, none⟩)) (by simp)
                            replace H : Sp w0 (rest) wx := H
                            have hK : Hid (∀ (v : Value) (w' : World), v = .pointer (some ⟨gf, 0, none⟩) → Sp w0 (rest) w' → K (A.put (some 156) v) w') := Lib.hid hK0
                            clear hK0 hN hS hE
                            change Oper.wp _ _ A wx K _
                            go_step
                            exact hK.out _ _ rfl (H)
                          · intro x wx A rest hN hS hE H K hK0
                            have e16 : A.tmps[16]?.getD undef = .pointer (some ⟨gf, 0, none⟩) := hN (16, .pointer (some ⟨gf, 0, none⟩)) (by simp)
                            replace H : Sp w0 (rest) wx := H
                            have hK : Hid (∀ (v : Value) (w' : World), v = .pointer (some ⟨gf, 0, none⟩) → Sp w0 (rest) w' → K (A.put (some 157) v) w') := Lib.hid hK0
                            clear hK0 hN hS hE
                            change Oper.wp _ _ A wx K _
                            go_step
                            exact hK.out _ _ rfl (H)
                          · intro x wx A rest hN hS hE H K hK0
                            have e157 : A.tmps[157]?.getD undef = .pointer (some ⟨gf, 0, none⟩) := ((hS 1 (by decide)).2 157 rfl).trans (hS 1 (by decide)).1
                            replace H : Sp w0 (rest) wx := H
                            have hK : Hid (∀ (v : Value) (w' : World), v = .pointer (some ⟨gf, 0, none⟩) → Sp w0 (rest) w' → K (A.put (some 158) v) w') := Lib.hid hK0
                            clear hK0 hN hS hE
                            change Oper.wp _ _ A wx K _
                            go_step
                            exact hK.out _ _ rfl (H)
                          · intro x wx A rest hN hS hE H K hK0
                            have e158 : A.tmps[158]?.getD undef = .pointer (some ⟨gf, 0, none⟩) := ((hS 2 (by decide)).2 158 rfl).trans (hS 2 (by decide)).1
                            replace H : Sp w0 (rest) wx := H
                            have hK : Hid (∀ (v : Value) (w' : World), v = .pointer (some ⟨gf, 0, none⟩) → Sp w0 (rest) w' → K (A.put (some 159) v) w') := Lib.hid hK0
                            clear hK0 hN hS hE
                            change Oper.wp _ _ A wx K _
                            go_step
                            exact hK.out _ _ rfl (H)
                          · intro x wx A rest hN hS hE H K hK0
                            have e159 : A.tmps[159]?.getD undef = .pointer (some ⟨gf, 0, none⟩) := ((hS 3 (by decide)).2 159 rfl).trans (hS 3 (by decide)).1
                            replace H : Sp w0 ((Bk gf 75 [.slice BV bn bc, .int .i64 0]) :: rest) wx := H
                            have hK : Hid (∀ (v : Value) (w' : World), v = .slice BV bn bc → Sp w0 ((Bk gf 75 [.slice BV bn bc, .int .i64 0]) :: rest) w' → K (A.put (some 160) v) w') := Lib.hid hK0
                            clear hK0 hN hS hE
                            have c0 : wx.cell? ⟨gf, 0, none⟩ = some (.slice BV bn bc) := H.cell 0 rfl 0
                            change Oper.wp _ _ A wx K _
                            go_step
                            exact hK.out _ _ rfl (H)
                          · intro x wx A rest hN hS hE H K hK0
                            have e1 : A.tmps[1]?.getD undef = .int .u16 (row : Int) := hN (1, .int .u16 (row : Int)) (by simp)
                            replace H : Sp w0 (rest) wx := H
                            have hK : Hid (∀ (v : Value) (w' : World), v = .int .u16 (row : Int) → Sp w0 (rest) w' → K (A.put (some 161) v) w') := Lib.hid hK0
                            clear hK0 hN hS hE
                            change Oper.wp _ _ A wx K _
                            go_step
                            exact hK.out _ _ rfl (H)
                          · intro x wx A rest hN hS hE H K hK0
                            have e17 : A.tmps[17]?.getD undef = .int .i64 (kk : Int) := hN (17, .int .i64 (kk : Int)) (by simp)
                            replace H : Sp w0 (rest) wx := H
                            have hK : Hid (∀ (v : Value) (w' : World), v = .int .i64 (kk : Int) → Sp w0 (rest) w' → K (A.put (some 162) v) w') := Lib.hid hK0
                            clear hK0 hN hS hE
                            change Oper.wp _ _ A wx K _
                            go_step
                            exact hK.out _ _ rfl (H)
                          · intro x wx A rest hN hS hE H K hK0
                            have e161 : A.tmps[161]?.getD undef = .int .u16 (row : Int) := ((hS 5 (by decide)).2 161 rfl).trans (hS 5 (by decide)).1
                            have e162 : A.tmps[162]?.getD undef = .int .i64 (kk : Int) := ((hS 6 (by decide)).2 162 rfl).trans (hS 6 (by decide)).1
                            replace H : Sp w0 (rest) wx := H
                            have hK : Hid (∀ (v : Value) (w' : World), v = .int .u16 (q : Int) → Sp w0 (rest) w' → K (A.put (some 163) v) w') := Lib.hid hK0
                            clear hK0 hN hS hE
                            change Oper.wp _ _ A wx K _
                            go_step
                            exact hK.out _ _ rfl (H)
                          · intro x wx A rest hN hS hE H K hK0
                            have e163 : A.tmps[163]?.getD undef = .int .u16 (q : Int) := ((hS 7 (by decide)).2 163 rfl).trans (hS 7 (by decide)).1
                            replace H : Sp w0 (rest) wx := H
                            have hK : Hid (∀ (v : Value) (w' : World), v = .int .u16 (q2 : Int) → Sp w0 (rest) w' → K (A.put (some 164) v) w') := Lib.hid hK0
                            clear hK0 hN hS hE
                            change Oper.wp _ _ A wx K _
                            go_step
                            exact hK.out _ _ rfl (H)
                          · intro x wx A rest hN hS hE H K hK0
                            have e164 : A.tmps[164]?.getD undef = .int .u16 (q2 : Int) := ((hS 8 (by decide)).2 164 rfl).trans (hS 8 (by decide)).1
                            replace H : Sp w0 (rest) wx := H
                            have hK : Hid (∀ (v : Value) (w' : World), v = .bool bz → Sp w0 (rest) w' → K (A.put (some 165) v) w') := Lib.hid hK0
                            clear hK0 hN hS hE
                            change Oper.wp _ _ A wx K _
                            go_step
                            exact hK.out _ _ rfl (H)
                          · intro x wx A rest hN hS hE H K hK0
                            have e165 : A.tmps[165]?.getD undef = .bool bz := ((hS 9 (by decide)).2 165 rfl).trans (hS 9 (by decide)).1
                            replace H : Sp w0 (rest) wx := H
                            have hK : Hid (∀ (v : Value) (w' : World), (fun v => v = .slice (some ⟨v.ownBlock.getD 0, 0, none⟩) 1 1) v → Sp w0 ((Bk (v.ownBlock.getD 0) 4 [.bool bz]) :: rest) w' → K (A.put (some 166) v) w') := Lib.hid hK0
                            clear hK0 hN hS hE
                            change Oper.wp _ _ A wx K _
                            go_step
                            exact hK.out _ _ rfl (H.newBk _ _)
                          · intro x wx A rest hN hS hE H K hK0
                            have e160 : A.tmps[160]?.getD undef = .slice BV bn bc := ((hS 4 (by decide)).2 160 rfl).trans (hS 4 (by decide)).1
                            have q166 := (hS 10 (by decide)).1
                            have e166 : A.tmps[166]?.getD undef = x 10 := (hS 10 (by decide)).2 166 rfl
                            replace H : Sp w0 ((Row 4 1 (.slice BV bn bc) bn (cellsBo bs)) :: (Bk ((x 10).ownBlock.getD 0) 4 [.bool bz]) :: rest) wx := H
                            have hK : Hid (∀ (v : Value) (w' : World), (fun v => ∃ A c, v = .slice A (bn + 1) c) v → Sp w0 ((Row 4 1 v (bn + 1) (cellsBo (bs ++ [bz]))) :: rest) w' → K (A.put (some 167) v) w') := Lib.hid hK0
                            clear hK0 hN hS hE
                            obtain ⟨g9, e9⟩ : ∃ g9, (x 10).ownBlock.getD 0 = g9 := ⟨_, rfl⟩
                            rw [q166] at e166
                            rw [e9] at e166 H
                            change Oper.wp _ _ A wx K _
                            refine wp_append_sp _ _ 73 rfl 4 ib (.bool false) 1 1 Try.underlying73 hbi hb0 hb1 hb2 rfl (by decide) (.slice BV bn bc) bn (cellsBo bs) (ev e160) H (some ⟨g9, 0, none⟩) 1 1 [.bool bz] (ev e166) rfl (Rd.of_blk (H.blk 1 rfl)) (by intro u hu; rw [List.mem_singleton.1 hu]; rfl) (by simp only [maxLen]; omega) (by omega) ?_
                            intro v1 w2 H2 _
                            rw [show cellsBo bs ++ [.bool bz] = cellsBo (bs ++ [bz]) by simp [cellsBo]] at H2
                            obtain ⟨V9, c9, hv9, _, _⟩ := Row.form H2 0 rfl
                            exact hK.out _ _ ⟨V9, c9, hv9⟩ (H2.pick 2 [0])
                          · intro x wx A rest hN hS hE H K hK0
                            have e156 : A.tmps[156]?.getD undef = .pointer (some ⟨gf, 0, none⟩) := ((hS 0 (by decide)).2 156 rfl).trans (hS 0 (by decide)).1
                            replace H : Sp w0 (rest) wx := H
                            have hK : Hid (∀ (v : Value) (w' : World), v = .pointer (some ⟨gf, 0, none⟩) → Sp w0 (rest) w' → K (A.put (some 168) v) w') := Lib.hid hK0
                            clear hK0 hN hS hE
                            change Oper.wp _ _ A wx K _
                            go_step
                            exact hK.out _ _ rfl (H)
                          · intro x wx A rest hN hS hE H K hK0
                            have e168 : A.tmps[168]?.getD undef = .pointer (some ⟨gf, 0, none⟩) := ((hS 12 (by decide)).2 168 rfl).trans (hS 12 (by decide)).1
                            replace H : Sp w0 (rest) wx := H
                            have hK : Hid (∀ (v : Value) (w' : World), v = .pointer (some ⟨gf, 0, none⟩) → Sp w0 (rest) w' → K (A.put (some 169) v) w') := Lib.hid hK0
                            clear hK0 hN hS hE
                            change Oper.wp _ _ A wx K _
                            go_step
                            exact hK.out _ _ rfl (H)
                          · intro x wx A rest hN hS hE H K hK0
                            have e169 : A.tmps[169]?.getD undef = .pointer (some ⟨gf, 0, none⟩) := ((hS 13 (by decide)).2 169 rfl).trans (hS 13 (by decide)).1
                            have q167 := (hS 11 (by decide)).1
                            have e167 : A.tmps[167]?.getD undef = x 11 := (hS 11 (by decide)).2 167 rfl
                            replace H : Sp w0 ((Bk gf 75 [.slice BV bn bc, .int .i64 0]) :: rest) wx := H
                            have hK : Hid (∀ (v : Value) (w' : World), True → Sp w0 ((Bk gf 75 [(x 11), .int .i64 0]) :: rest) w' → K (A.put none v) w') := Lib.hid hK0
                            clear hK0 hN hS hE
                            obtain ⟨V9, c9, e9⟩ := q167
                            rw [e9] at e167
                            have z0 : wx.frozen? ⟨gf, 0, none⟩ = false := H.frozen 0 rfl 0
                            have z1 : wx.cell? ⟨gf, 0, none⟩ = some (.slice BV bn bc) := H.cell 0 rfl 0
                            change Oper.wp _ _ A wx K _
                            go_step
                            refine hK.out (x 11) _ trivial ?_
                            rw [e9]
                            exact H.set 0 _
                        case hend =>
                          intro x wx A hA hS H
                          replace H : Sp w0 ((Row 4 1 (x 11) (bn + 1) (cellsBo (bs ++ [bz]))) :: (Bk gf 75 [(x 11), .int .i64 0]) :: Row 70 1 (.slice VC k Cc) k (rowU (PH.codeAt D) k) :: Row 3 1 vb (PH.rows D).length (cellsN (PH.rows D)) :: BkB gb D vb (mo : Int) :: Row 3 1 (.slice VA k Vc) k (cellsN D) :: L) wx := H
                          clear hS
                          simp only [putAll, Act.put, List.setIfInBounds_toArray, List.set_cons_succ, List.set_cons_zero, Nat.reduceAdd] at hA
                          subst hA
                          go_wp2_with fail
                          go_roundw
                          case rel =>
                            refine ⟨kk - 1, bn + 1, x 11, by first | (go_num; done) | exact congrArg (Value.int .i64) (by omega), by omega, by omega, ?_⟩
                            rw [HNX.out]
                            exact H
                          case measure => first | (simp [intOf]; omega) | simp [intOf]
                      · have k1 : ¬ (0 : Int) < (kk : Int) := by omega
                        obtain rfl : kk = 0 := by omega
                        obtain rfl : bn = 15 := by omega
                        have hbs2 : bs = PH.bits15 R := by rw [← hbs, List.take_of_length_le (by rw [PH.bits15_len]; exact Nat.le_refl _)]
                        subst hbs2
                        obtain ⟨T, hT⟩ : ∃ T, PH.nextFrom D (PH.bits15 R) mo 0 = T := ⟨_, rfl⟩
                        have hnx := next_ok gb gf vb D mo BV 15 bc 0 (PH.bits15 R) (w0 := w0) (w := wr) (L := Row 4 1 (.slice BV 15 bc) 15 (cellsBo (PH.bits15 R)) :: Row 70 1 (.slice VC k Cc) k (rowU (PH.codeAt D) k) :: Row 3 1 (.slice VA k Vc) k (cellsN D) :: L) (H.pick 6 [1, 3, 4, 0, 2, 5]) (PH.bits15_len R).symm (fun _ _ H => by
                          obtain ⟨A9, c9, e9, hr9, _, _⟩ := H.row_rd 0 rfl
                          injection e9 with e9
                          rw [e9]; exact hr9) (by omega) (by omega) hmo15 HS.out (by rw [← HDL.out]; omega)
                        rw [List.drop_zero, hT, Nat.zero_add] at hnx
                        have HNX := Lib.hid hnx
                        have HTT := Lib.hid hT
                        clear hnx hT hbs
                        go_wp2_with fail
                        refine HNX.out.mono ?_
                        rintro _ w5 ⟨rfl, H5⟩
                        clear HNX H
                        by_cases hRs : R < PH.sum D
                        · obtain ⟨hb1y, hwl, hnf⟩ := HFIN.out.1 hRs
                          subst hb1y
                          rw [HTT.out] at hnf
                          subst hnf
                          obtain ⟨al, hal, hcw⟩ := (rowN_rdI (l := D) (n := k) (V := VA) (kk := Vc) 5 rfl _ _ H5).at64 (k := wh) (by simpa [castI] using hwl)
                          subst hal
                          obtain ⟨at9, hat⟩ : ∃ at9, D.getD wh 0 = at9 := ⟨_, rfl⟩
                          simp only [hat] at H5 ⊢
                          have hwc : ∀ w0' w', Sp w0' (FeedB gf BV 15 bc at9 :: Row 3 1 vb (PH.rows D).length (cellsN (PH.rows D)) :: BkB gb D vb (mo : Int) :: Row 4 1 (.slice BV 15 bc) 15 (cellsBo (PH.bits15 R)) :: Row 70 1 (.slice VC k Cc) k (rowU (PH.codeAt D) k) :: Row 3 1 (.slice (some al) k Vc) k (cellsN D) :: L) w' → w'.cell? (al.add wh) = some (.int .i64 (at9 : Int)) := fun w0' w' H' => by
                            obtain ⟨a2, e2, h2⟩ := (rowN_rdI (l := D) (n := k) (V := some al) (kk := Vc) 5 rfl _ _ H').at64 (k := wh) (by simpa [castI] using hwl)
                            injection e2 with e2
                            rw [e2, h2, ← hat]
                            simp [castI, List.getD_eq_getElem?_getD, List.getElem?_eq_getElem hwl]
                          have hwk : (wh : Int) < (k : Int) := by have := HDL.out; omega
                          have HWC := Lib.hid hwc
                          clear hwc hcw hat hwl HTT HFIN HBR HBG HST0
                          go_wp2_with fail
                          refine wp_region_sp (L := FeedB gf BV 15 bc at9 :: Row 3 1 vb (PH.rows D).length (cellsN (PH.rows D)) :: BkB gb D vb (mo : Int) :: Row 4 1 (.slice BV 15 bc) 15 (cellsBo (PH.bits15 R)) :: Row 70 1 (.slice VC k Cc) k (rowU (PH.codeAt D) k) :: Row 3 1 (.slice (some al) k Vc) k (cellsN D) :: L) (fun ix vx => ([(· = .int .i64 0), (· = .bool true), (· = .bool true), (· = .int .i64 (wh : Int)), (· = .int .i64 (wh : Int)), (· = .bool true), (· = .bool true), (· = .bool true), (· = .pointer (some ⟨gf, 0, none⟩)), (· = .pointer (some ⟨gf, 0, none⟩)), (· = .pointer (some ⟨gf, 1, none⟩)), (· = .int .i64 (at9 : Int)), (· = .slice (some al) k Vc), (· = .int .i64 (wh : Int)), (· = .pointer (some (al.add wh))), (· = .int .i64 (at9 : Int)), (· = .bool true), (· = .bool true), (· = .bool true), (· = .bool true), (· = .bool true), (· = .bool true)] : List (Value → Prop)).getD ix (fun _ => True) vx)
                            (fun ix vx => ([fun _ => [], fun _ => [], fun _ => [], fun _ => [], fun _ => [], fun _ => [], fun _ => [], fun _ => [], fun _ => [], fun _ => [], fun _ => [], fun _ => [], fun _ => [], fun _ => [], fun _ => [], fun _ => [], fun _ => [], fun _ => [], fun _ => [], fun _ => [], fun _ => [], fun _ => []] : List (Value → List Pr)).getD ix (fun _ => []) vx) (fun ix => ([[], [], [], [], [], [], [], [], [], [], [], [], [], [], [], [], [], [], [], [], [], []] : List (List Pr)).getD ix []) 22 212
                            [some 191, some 192, some 193, some 194, some 195, some 196, some 197, some 198, some 199, some 200, some 201, some 202, some 203, some 204, some 205, some 206, some 207, some 208, some 209, some 210, some 211, some 4]
                            [[], [0], [1], [2], [2], [3, 4, 2], [2, 5], [6, 2], [7], [8, 7], [9, 7], [10, 7], [7], [7], [12, 13, 7], [14, 7], [11, 15, 7], [7, 16], [17, 7], [18, 18], [18, 19], [20, 19, 0, 1, 2, 3, 4, 5, 6, 7, 8, 9, 10, 11, 12, 13, 14, 15, 16, 17, 18, 19, 20]]
                            [[], [0], [0, 1], [0, 1, 2], [0, 1, 2], [0, 1, 2, 3, 4], [0, 1, 2, 3, 4, 5], [0, 1, 2, 3, 4, 5, 6], [0, 1, 2, 3, 4, 5, 6, 7], [0, 1, 2, 3, 4, 5, 6, 7, 8], [0, 1, 2, 3, 4, 5, 6, 7, 8, 9], [0, 1, 2, 3, 4, 5, 6, 7, 8, 9, 10], [0, 1, 2, 3, 4, 5, 6, 7], [0, 1, 2, 3, 4, 5, 6, 7], [0, 1, 2, 3, 4, 5, 6, 7, 12, 13], [0, 1, 2, 3, 4, 5, 6, 7, 12, 13, 14], [0, 1, 2, 3, 4, 5, 6, 7, 8, 9, 10, 11, 12, 13, 14, 15], [0, 1, 2, 3, 4, 5, 6, 7, 8, 9, 10, 11, 12, 13, 14, 15, 16], [0, 1, 2, 3, 4, 5, 6, 7, 8, 9, 10, 11, 12, 13, 14, 15, 16, 17], [0, 1, 2, 3, 4, 5, 6, 7, 8, 9, 10, 11, 12, 13, 14, 15, 16, 17, 18], [0, 1, 2, 3, 4, 5, 6, 7, 8, 9, 10, 11, 12, 13, 14, 15, 16, 17, 18, 19], [0, 1, 2, 3, 4, 5, 6, 7, 8, 9, 10, 11, 12, 13, 14, 15, 16, 17, 18, 19, 20]]
                            [[], [], [], [], [], [], [], [], [], [], [], [], [], [], [], [], [], [], [], [], [], []]
                            [[], [], [], [], [], [], [], [], [], [], [], [], [], [], [], [], [], [], [], [], [], []]
                            [(5, .slice (some al) k Vc), (14, .int .i64 (wh : Int)), (16, .pointer (some ⟨gf, 0, none⟩)), (18, .int .i64 (wh : Int)), (19, .int .i64 0)]
                            (by kernel_rfl) rfl (by decide) (by rfl) rfl (by decide +kernel) (by decide +kernel) (by rfl) rfl rfl (by decide) (by simp) (by rfl) (H5) ?hstep ?hend
                          case hstep =>
                            refine ⟨?_, ⟨?_, ⟨?_, ⟨?_, ⟨?_, ⟨?_, ⟨?_, ⟨?_, ⟨?_, ⟨?_, ⟨?_, ⟨?_, ⟨?_, ⟨?_, ⟨?_, ⟨?_, ⟨?_, ⟨?_, ⟨?_, ⟨?_, ⟨?_, ⟨?_, trivial⟩⟩⟩⟩⟩⟩⟩⟩⟩⟩⟩⟩⟩⟩⟩⟩⟩⟩⟩⟩⟩⟩
                            · intro x wx A rest hN hS hE H K hK0
                              have e19 : A.tmps[19]?.getD undef = .int .i64 0 := hN (19, .int .i64 0) (by simp)
                              replace H : Sp w0 (rest) wx := H
                              have hK : Hid (∀ (v : Value) (w' : World), v = .int .i64 0 → Sp w0 (rest) w' → K (A.put (some 191) v) w') := Lib.hid hK0
                              clear hK0 hN hS hE
                              change Oper.wp _ _ A wx K _
                              go_step
                              exact hK.out _ _ rfl (H)
                            · intro x wx A rest hN hS hE H K hK0
                              have e191 : A.tmps[191]?.getD undef = .int .i64 0 := ((hS 0 (by decide)).2 191 rfl).trans (hS 0 (by decide)).1
                              replace H : Sp w0 (rest) wx := H
                              have hK : Hid (∀ (v : Value) (w' : World), v = .bool true → Sp w0 (rest) w' → K (A.put (some 192) v) w') := Lib.hid hK0
                              clear hK0 hN hS hE
                              change Oper.wp _ _ A wx K _
                              go_step
                              exact hK.out _ _ rfl (H)
                            · intro x wx A rest hN hS hE H K hK0
                              have e192 : A.tmps[192]?.getD undef = .bool true := ((hS 1 (by decide)).2 192 rfl).trans (hS 1 (by decide)).1
                              replace H : Sp w0 (rest) wx := H
                              have hK : Hid (∀ (v : Value) (w' : World), v = .bool true → Sp w0 (rest) w' → K (A.put (some 193) v) w') := Lib.hid hK0
                              clear hK0 hN hS hE
                              change Oper.wp _ _ A wx K _
                              go_step
                              exact hK.out _ _ rfl (H)
                            · intro x wx A rest hN hS hE H K hK0
                              have e18 : A.tmps[18]?.getD undef = .int .i64 (wh : Int) := hN (18, .int .i64 (wh : Int)) (by simp)
                              have pg := (hS 2 (by decide)).1
                              replace H : Sp w0 (rest) wx := H
                              have hK : Hid (∀ (v : Value) (w' : World), v = .int .i64 (wh : Int) → Sp w0 (rest) w' → K (A.put (some 194) v) w') := Lib.hid hK0
                              clear hK0 hN hS hE
                              refine ⟨some true, by rw [pg]; rfl, ?_⟩
                              rw [if_pos rfl]
                              change Oper.wp _ _ A wx K _
                              go_step
                              exact hK.out _ _ rfl (H)
                            · intro x wx A rest hN hS hE H K hK0
                              have e14 : A.tmps[14]?.getD undef = .int .i64 (wh : Int) := hN (14, .int .i64 (wh : Int)) (by simp)
                              have pg := (hS 2 (by decide)).1
                              replace H : Sp w0 (rest) wx := H
                              have hK : Hid (∀ (v : Value) (w' : World), v = .int .i64 (wh : Int) → Sp w0 (rest) w' → K (A.put (some 195) v) w') := Lib.hid hK0
                              clear hK0 hN hS hE
                              refine ⟨some true, by rw [pg]; rfl, ?_⟩
                              rw [if_pos rfl]
                              change Oper.wp _ _ A wx K _
                              go_step
                              exact hK.out _ _ rfl (H)
                            · intro x wx A rest hN hS hE H K hK0
                              have e194 : A.tmps[194]?.getD undef = .int .i64 (wh : Int) := ((hS 3 (by decide)).2 194 rfl).trans (hS 3 (by decide)).1
                              have e195 : A.tmps[195]?.getD undef = .int .i64 (wh : Int) := ((hS 4 (by decide)).2 195 rfl).trans (hS 4 (by decide)).1
                              have pg := (hS 2 (by decide)).1
                              replace H : Sp w0 (rest) wx := H
                              have hK : Hid (∀ (v : Value) (w' : World), v = .bool true → Sp w0 (rest) w' → K (A.put (some 196) v) w') := Lib.hid hK0
                              clear hK0 hN hS hE
                              refine ⟨some true, by rw [pg]; rfl, ?_⟩
                              rw [if_pos rfl]
                              change Oper.wp _ _ A wx K _
                              go_step
                              exact hK.out _ _ rfl (H)
                            · intro x wx A rest hN hS hE H K hK0
                              have e193 : A.tmps[193]?.getD undef = .bool true := ((hS 2 (by decide)).2 193 rfl).trans (hS 2 (by decide)).1
                              have e196 : A.tmps[196]?.getD undef = .bool true := ((hS 5 (by decide)).2 196 rfl).trans (hS 5 (by decide)).1
                              replace H : Sp w0 (rest) wx := H
                              have hK : Hid (∀ (v : Value) (w' : World), v = .bool true → Sp w0 (rest) w' → K (A.put (some 197) v) w') := Lib.hid hK0
                              clear hK0 hN hS hE
                              change Oper.wp _ _ A wx K _
                              go_step
                              exact hK.out _ _ rfl (H)
                            · intro x wx A rest hN hS hE H K hK0
                              have e197 : A.tmps[197]?.getD undef = .bool true := ((hS 6 (by decide)).2 197 rfl).trans (hS 6 (by decide)).1
                              replace H : Sp w0 (rest) wx := H
                              have hK : Hid (∀ (v : Value) (w' : World), v = .bool true → Sp w0 (rest) w' → K (A.put (some 198) v) w') := Lib.hid hK0
                              clear hK0 hN hS hE
                              change Oper.wp _ _ A wx K _
                              go_step
                              exact hK.out _ _ rfl (H)
                            · intro x wx A rest hN hS hE H K hK0
                              have e16 : A.tmps[16]?.getD undef = .pointer (some ⟨gf, 0, none⟩) := hN (16, .pointer (some ⟨gf, 0, none⟩)) (by simp)
                              have pg := (hS 7 (by decide)).1
                              replace H : Sp w0 (rest) wx := H
                              have hK : Hid (∀ (v : Value) (w' : World), v = .pointer (some ⟨gf, 0, none⟩) → Sp w0 (rest) w' → K (A.put (some 199) v) w') := Lib.hid hK0
                              clear hK0 hN hS hE
                              refine ⟨some true, by rw [pg]; rfl, ?_⟩
                              rw [if_pos rfl]
                              change Oper.wp _ _ A wx K _
                              go_step
                              exact hK.out _ _ rfl (H)
                            · intro x wx A rest hN hS hE H K hK0
                              have e199 : A.tmps[199]?.getD undef = .pointer (some ⟨gf, 0, none⟩) := ((hS 8 (by decide)).2 199 rfl).trans (hS 8 (by decide)).1
                              have pg := (hS 7 (by decide)).1
                              replace H : Sp w0 (rest) wx := H
                              have hK : Hid (∀ (v : Value) (w' : World), v = .pointer (some ⟨gf, 0, none⟩) → Sp w0 (rest) w' → K (A.put (some 200) v) w') := Lib.hid hK0
                              clear hK0 hN hS hE
                              refine ⟨some true, by rw [pg]; rfl, ?_⟩
                              rw [if_pos rfl]
                              change Oper.wp _ _ A wx K _
                              go_step
                              exact hK.out _ _ rfl (H)
                            · intro x wx A rest hN hS hE H K hK0
                              have e200 : A.tmps[200]?.getD undef = .pointer (some ⟨gf, 0, none⟩) := ((hS 9 (by decide)).2 200 rfl).trans (hS 9 (by decide)).1
                              have pg := (hS 7 (by decide)).1
                              replace H : Sp w0 (rest) wx := H
                              have hK : Hid (∀ (v : Value) (w' : World), v = .pointer (some ⟨gf, 1, none⟩) → Sp w0 (rest) w' → K (A.put (some 201) v) w') := Lib.hid hK0
                              clear hK0 hN hS hE
                              refine ⟨some true, by rw [pg]; rfl, ?_⟩
                              rw [if_pos rfl]
                              change Oper.wp _ _ A wx K _
                              go_step
                              exact hK.out _ _ rfl (H)
                            · intro x wx A rest hN hS hE H K hK0
                              have e201 : A.tmps[201]?.getD undef = .pointer (some ⟨gf, 1, none⟩) := ((hS 10 (by decide)).2 201 rfl).trans (hS 10 (by decide)).1
                              have pg := (hS 7 (by decide)).1
                              replace H : Sp w0 (rest) wx := H
                              have hK : Hid (∀ (v : Value) (w' : World), v = .int .i64 (at9 : Int) → Sp w0 (rest) w' → K (A.put (some 202) v) w') := Lib.hid hK0
                              clear hK0 hN hS
                              have c1 : wx.cell? ⟨gf, 1, none⟩ = some (.int .i64 (at9 : Int)) := hE (fun w => w.cell? ⟨gf, 1, none⟩ = some (.int .i64 (at9 : Int))) (fun _ _ H => H.cell 0 rfl 1) _ _ H
                              refine ⟨some true, by rw [pg]; rfl, ?_⟩
                              rw [if_pos rfl]
                              change Oper.wp _ _ A wx K _
                              go_step
                              exact hK.out _ _ rfl (H)
                            · intro x wx A rest hN hS hE H K hK0
                              have e5 : A.tmps[5]?.getD undef = .slice (some al) k Vc := hN (5, .slice (some al) k Vc) (by simp)
                              have pg := (hS 7 (by decide)).1
                              replace H : Sp w0 (rest) wx := H
                              have hK : Hid (∀ (v : Value) (w' : World), v = .slice (some al) k Vc → Sp w0 (rest) w' → K (A.put (some 203) v) w') := Lib.hid hK0
                              clear hK0 hN hS hE
                              refine ⟨some true, by rw [pg]; rfl, ?_⟩
                              rw [if_pos rfl]
                              change Oper.wp _ _ A wx K _
                              go_step
                              exact hK.out _ _ rfl (H)
                            · intro x wx A rest hN hS hE H K hK0
                              have e14 : A.tmps[14]?.getD undef = .int .i64 (wh : Int) := hN (14, .int .i64 (wh : Int)) (by simp)
                              have pg := (hS 7 (by decide)).1
                              replace H : Sp w0 (rest) wx := H
                              have hK : Hid (∀ (v : Value) (w' : World), v = .int .i64 (wh : Int) → Sp w0 (rest) w' → K (A.put (some 204) v) w') := Lib.hid hK0
                              clear hK0 hN hS hE
                              refine ⟨some true, by rw [pg]; rfl, ?_⟩
                              rw [if_pos rfl]
                              change Oper.wp _ _ A wx K _
                              go_step
                              exact hK.out _ _ rfl (H)
                            · intro x wx A rest hN hS hE H K hK0
                              have e203 : A.tmps[203]?.getD undef = .slice (some al) k Vc := ((hS 12 (by decide)).2 203 rfl).trans (hS 12 (by decide)).1
                              have e204 : A.tmps[204]?.getD undef = .int .i64 (wh : Int) := ((hS 13 (by decide)).2 204 rfl).trans (hS 13 (by decide)).1
                              have pg := (hS 7 (by decide)).1
                              replace H : Sp w0 (rest) wx := H
                              have hK : Hid (∀ (v : Value) (w' : World), v = .pointer (some (al.add wh)) → Sp w0 (rest) w' → K (A.put (some 205) v) w') := Lib.hid hK0
                              clear hK0 hN hS hE
                              refine ⟨some true, by rw [pg]; rfl, ?_⟩
                              rw [if_pos rfl]
                              change Oper.wp _ _ A wx K _
                              go_step
                              exact hK.out _ _ rfl (H)
                            · intro x wx A rest hN hS hE H K hK0
                              have e205 : A.tmps[205]?.getD undef = .pointer (some (al.add wh)) := ((hS 14 (by decide)).2 205 rfl).trans (hS 14 (by decide)).1
                              have pg := (hS 7 (by decide)).1
                              replace H : Sp w0 (rest) wx := H
                              have hK : Hid (∀ (v : Value) (w' : World), v = .int .i64 (at9 : Int) → Sp w0 (rest) w' → K (A.put (some 206) v) w') := Lib.hid hK0
                              clear hK0 hN hS
                              have c1 : wx.cell? (al.add wh) = some (.int .i64 (at9 : Int)) := hE (fun w => w.cell? (al.add wh) = some (.int .i64 (at9 : Int))) (fun _ _ H => HWC.out _ _ H) _ _ H
                              refine ⟨some true, by rw [pg]; rfl, ?_⟩
                              rw [if_pos rfl]
                              change Oper.wp _ _ A wx K _
                              go_step
                              exact hK.out _ _ rfl (H)
                            · intro x wx A rest hN hS hE H K hK0
                              have e202 : A.tmps[202]?.getD undef = .int .i64 (at9 : Int) := ((hS 11 (by decide)).2 202 rfl).trans (hS 11 (by decide)).1
                              have e206 : A.tmps[206]?.getD undef = .int .i64 (at9 : Int) := ((hS 15 (by decide)).2 206 rfl).trans (hS 15 (by decide)).1
                              have pg := (hS 7 (by decide)).1
                              replace H : Sp w0 (rest) wx := H
                              have hK : Hid (∀ (v : Value) (w' : World), v = .bool true → Sp w0 (rest) w' → K (A.put (some 207) v) w') := Lib.hid hK0
                              clear hK0 hN hS hE
                              refine ⟨some true, by rw [pg]; rfl, ?_⟩
                              rw [if_pos rfl]
                              change Oper.wp _ _ A wx K _
                              go_step
                              exact hK.out _ _ rfl (H)
                            · intro x wx A rest hN hS hE H K hK0
                              have e198 : A.tmps[198]?.getD undef = .bool true := ((hS 7 (by decide)).2 198 rfl).trans (hS 7 (by decide)).1
                              have e207 : A.tmps[207]?.getD undef = .bool true := ((hS 16 (by decide)).2 207 rfl).trans (hS 16 (by decide)).1
                              replace H : Sp w0 (rest) wx := H
                              have hK : Hid (∀ (v : Value) (w' : World), v = .bool true → Sp w0 (rest) w' → K (A.put (some 208) v) w') := Lib.hid hK0
                              clear hK0 hN hS hE
                              change Oper.wp _ _ A wx K _
                              go_step
                              exact hK.out _ _ rfl (H)
                            · intro x wx A rest hN hS hE H K hK0
                              have e208 : A.tmps[208]?.getD undef = .bool true := ((hS 17 (by decide)).2 208 rfl).trans (hS 17 (by decide)).1
                              replace H : Sp w0 (rest) wx := H
                              have hK : Hid (∀ (v : Value) (w' : World), v = .bool true → Sp w0 (rest) w' → K (A.put (some 209) v) w') := Lib.hid hK0
                              clear hK0 hN hS hE
                              change Oper.wp _ _ A wx K _
                              go_step
                              exact hK.out _ _ rfl (H)
                            · intro x wx A rest hN hS hE H K hK0
                              have pg := (hS 18 (by decide)).1
                              replace H : Sp w0 (rest) wx := H
                              have hK : Hid (∀ (v : Value) (w' : World), v = .bool true → Sp w0 (rest) w' → K (A.put (some 210) v) w') := Lib.hid hK0
                              clear hK0 hN hS hE
                              refine ⟨some true, by rw [pg]; rfl, ?_⟩
                              rw [if_pos rfl]
                              have HT := Lib.hid (tells_ok H)
                              change Oper.wp _ _ A wx K _
                              go_wp2_with fail
                              refine HT.out.mono ?_
                              rintro _ w9 ⟨rfl, H9⟩
                              exact hK.out _ _ rfl H9
                            · intro x wx A rest hN hS hE H K hK0
                              have e209 : A.tmps[209]?.getD undef = .bool true := ((hS 18 (by decide)).2 209 rfl).trans (hS 18 (by decide)).1
                              have e210 : A.tmps[210]?.getD undef = .bool true := ((hS 19 (by decide)).2 210 rfl).trans (hS 19 (by decide)).1
                              replace H : Sp w0 (rest) wx := H
                              have hK : Hid (∀ (v : Value) (w' : World), v = .bool true → Sp w0 (rest) w' → K (A.put (some 211) v) w') := Lib.hid hK0
                              clear hK0 hN hS hE
                              change Oper.wp _ _ A wx K _
                              go_step
                              exact hK.out _ _ rfl (H)
                            · intro x wx A rest hN hS hE H K hK0
                              have e211 : A.tmps[211]?.getD undef = .bool true := ((hS 20 (by decide)).2 211 rfl).trans (hS 20 (by decide)).1
                              replace H : Sp w0 (rest) wx := H
                              have hK : Hid (∀ (v : Value) (w' : World), v = .bool true → Sp w0 (rest) w' → K (A.put (some 4) v) w') := Lib.hid hK0
                              clear hK0 hN hS hE
                              change Oper.wp _ _ A wx K _
                              go_step
                              exact hK.out _ _ rfl (H)
                          case hend =>
                            intro x wx A hA hS H
                            replace H : Sp w0 (FeedB gf BV 15 bc at9 :: Row 3 1 vb (PH.rows D).length (cellsN (PH.rows D)) :: BkB gb D vb (mo : Int) :: Row 4 1 (.slice BV 15 bc) 15 (cellsBo (PH.bits15 R)) :: Row 70 1 (.slice VC k Cc) k (rowU (PH.codeAt D) k) :: Row 3 1 (.slice (some al) k Vc) k (cellsN D) :: L) wx := H
                            have y21 : x 21 = .bool true := hS 21 (by decide)
                            clear hS
                            simp only [putAll, Act.put, List.setIfInBounds_toArray, List.set_cons_succ, List.set_cons_zero, Nat.reduceAdd] at hA
                            subst hA
                            rw [y21]
                            clear y21
                            go_wp2_with fail
                            go_ret
                            exact ⟨rfl, H.pick 6 []⟩
                        · have hb0y := HFIN.out.2 (by omega)
                          subst hb0y
                          have hnf := HBR.out.2 (by omega)
                          rw [HTT.out] at hnf
                          subst hnf
                          have c1 : w5.cell? ⟨gf, 1, none⟩ = some (.int .i64 1) := H5.cell 0 rfl 1
                          have HT := Lib.hid (tells_ok H5)
                          clear HTT HFIN HBR HBG HST0
                          go_wp2_with fail
                          refine HT.out.mono ?_
                          rintro _ w6 ⟨rfl, H6⟩
                          go_wp2_with fail
                          go_ret
                          exact ⟨rfl, H6.pick 6 []⟩
        · have hmb2 : mayBook D = false := by simpa using hmb
          have c2 := fun w (H : Sp w0 (Row 3 1 (.slice VA i Vc) i (cellsN D) :: L) w) => new_no VA i Vc D H HDL.out (rowN_rdI 0 rfl) (by omega) H15.out hmb2
          have hne : st ≠ 0 := by
            intro h0
            unfold mayBook at hmb2
            rw [hst, h0] at hmb2
            simp at hmb2
          have kst3 : (st == 0) = false := by rw [beq_eq_false_iff_ne]; exact hne
          have C2 := Lib.hid c2
          have HS := Lib.hid hs
          clear hst hmb hmb2 c2 hst0 hs hne
          go_upto_region 3 with (fail)
          go_cut [27] from 20 to 38 (fun s27 wx => s27 = .bool false ∧ Sp w0 (Row 3 1 (.slice VA i Vc) i (cellsN D) :: L) wx)
          case first =>
            rcases kx with kx | ⟨kx, ky⟩
            · go_wp2_with fail
              go_meet
              exact ⟨rfl, H⟩
            · go_wp2_with fail
              go_meet
              exact ⟨rfl, H⟩
          case rest =>
            obtain ⟨rfl, H⟩ := hcut
            go_wp2_with fail
            refine (C1.out _ H).mono ?_
            rintro _ w2 ⟨rfl, H2⟩
            clear H C1
            go_wp2_with fail
            refine (C2.out _ H2).mono ?_
            rintro _ w3 ⟨rfl, H3⟩
            clear H2 C2
            have c4 := codes_ok VA i Vc D H3 HDL.out (rowN_rdI 0 rfl) (by omega) H15.out HS.out
            have C4 := Lib.hid c4
            clear c4
            go_wp2_with fail
            refine C4.out.mono ?_
            rintro _ w4 ⟨vc, rfl, H4⟩
            clear C4 H3
            obtain ⟨VC, Cc, hvc, _, _⟩ := Row.form H4 0 rfl
            subst hvc
            have hlr : Ent (Row 70 1 (.slice VC i Cc) i (rowU (PH.codeAt D) i) :: Row 3 1 (.slice VA i Vc) i (cellsN D) :: L) (fun w => Rd w VA (cells64 (castI D))) := rowN_rdI 1 rfl
            have HLR := Lib.hid hlr
            clear hlr
            go_wp2_with fail
            go_loopw [13, 14, 15] (fun bv wv iv wr => ∃ (k b wh : Nat), iv = .int .i64 (k : Int) ∧ bv = .int .i64 (b : Int) ∧ wv = .int .i64 (wh : Int) ∧ k ≤ i ∧ b ≤ 1 ∧ Hid (Begins D R k b wh) ∧ Sp w0 (Row 70 1 (.slice VC i Cc) i (rowU (PH.codeAt D) i) :: Row 3 1 (.slice VA i Vc) i (cellsN D) :: L) wr) (fun _ _ iv _ => i - (intOf iv).toNat)
            case atStart => exact ⟨0, 0, 0, rfl, rfl, rfl, Nat.zero_le _, Nat.zero_le _, Lib.hid (.inl ⟨rfl, fun j hj => absurd hj (Nat.not_lt_zero _)⟩), H4⟩
            case round =>
              clear H4
              obtain ⟨k, b, wh, rfl, rfl, rfl, hk, hb1x, HBG, H4⟩ := hrel
              by_cases hki : k < i
              · have k1 : (k : Int) < (i : Int) := by omega
                have hkD : k < D.length := by rw [← HDL.out]; exact hki
                obtain ⟨al, hal, hc1⟩ := (HLR.out _ _ H4).at64 (k := k) (by simpa [castI] using hkD)
                obtain ⟨x, hx⟩ : ∃ x, D.getD k 0 = x := ⟨_, rfl⟩
                have hx2 : D[k] = x := by rw [← hx, List.getD_eq_getElem?_getD, List.getElem?_eq_getElem hkD]; rfl
                replace hc1 : wr.cell? (al.add k) = some (.int .i64 (x : Int)) := by
                  rw [hc1]
                  simp [castI, hx2]
                have hx15 : x ≤ 15 := by rw [← hx2]; exact H15.out _ (List.getElem_mem hkD)
                subst hal
                by_cases hx0 : 0 < x
                · have k2 : (0 : Int) < (x : Int) := by omega
                  obtain ⟨cc, hcc⟩ : ∃ cc, PH.codeAt D k = cc := ⟨_, rfl⟩
                  obtain ⟨A9, c9, e9, hr9, _, _⟩ := H4.row_rd 0 rfl
                  injection e9 with e9 e10 e11
                  obtain ⟨ac, hac, hcl⟩ := hr9 (by intro h; have := congrArg List.length h; simp [rowU] at this; omega)
                  have hc2 := hcl k _ (rowU_get _ _ _ hki)
                  rw [hcc] at hc2
                  rw [hac] at e9
                  subst e9
                  obtain ⟨d, hd⟩ : ∃ d, 15 - x = d := ⟨_, rfl⟩
                  have y1 : (15 : Int) - (x : Int) = (d : Int) := by omega
                  obtain ⟨q, hq⟩ : ∃ q, R / 2 ^ d = q := ⟨_, rfl⟩
                  have y2 : (R : Int) / 2 ^ d = (q : Int) := by rw [← hq]; simp
                  obtain ⟨bz, hbz⟩ : ∃ bz, decide (q = cc) = bz := ⟨_, rfl⟩
                  have y3 : ((q : Int) == (cc : Int)) = bz := by
                    rw [← hbz]
                    by_cases e : q = cc
                    · rw [decide_eq_true e, e]; simp
                    · rw [decide_eq_false e, beq_eq_false_iff_ne]; omega
                  have hhit : PH.hit D R k ↔ q = cc := by
                    unfold PH.hit
                    rw [hx, hd, hq, hcc]
                    exact ⟨fun h => h.2, fun h => ⟨by omega, h⟩⟩
                  have HHIT := Lib.hid hhit
                  have HBZ := Lib.hid hbz
                  have HX := Lib.hid hx
                  clear hx hx2 hcc hr9 hcl e10 e11 hac hd hq hhit hbz
                  go_wp2_with fail
                  go_quiet (fail)
                  cases bz
                  · have hno : ¬ PH.hit D R k := fun h => absurd (HHIT.out.1 h) (of_decide_eq_false HBZ.out)
                    have HNO := Lib.hid (HBG.out.no hno)
                    clear hno
                    go_wp2_with fail
                    go_roundw
                    case rel => exact ⟨k + 1, b, wh, by go_num, rfl, rfl, by omega, hb1x, HNO, H4.drewN _⟩
                    case measure => first | (simp [intOf]; omega) | simp [intOf]
                  · have hyes : PH.hit D R k := HHIT.out.2 (of_decide_eq_true HBZ.out)
                    have hb0x : b = 0 := HBG.out.step H15.out hkD hyes
                    subst hb0x
                    have HYES := Lib.hid hyes
                    clear hyes
                    go_wp2_with fail
                    go_roundw
                    case rel => exact ⟨k + 1, 1, k, by go_num, rfl, rfl, by omega, Nat.le_refl _, Lib.hid (.inr ⟨rfl, by omega, HYES.out⟩), H4.drewN _⟩
                    case measure => first | (simp [intOf]; omega) | simp [intOf]
                · have k2 : ¬ (0 : Int) < (x : Int) := by omega
                  have hno : ¬ PH.hit D R k := fun h => h.1 (by rw [hx]; omega)
                  have HNO := Lib.hid (HBG.out.no hno)
                  clear hno hx hx2
                  go_wp2_with fail
                  go_quiet (fail)
                  go_wp2_with fail
                  go_roundw
                  case rel => exact ⟨k + 1, b, wh, by go_num, rfl, rfl, by omega, hb1x, HNO, H4.drewN _⟩
                  case measure => first | (simp [intOf]; omega) | simp [intOf]
              · have k1 : ¬ (k : Int) < (i : Int) := by omega
                obtain rfl : k = i := by omega
                have kb : ¬ (1 : Int) < (b : Int) := by omega
                have HT := Lib.hid (tells_ok H4)
                go_wp2_with fail
                refine HT.out.mono ?_
                rintro _ w5 ⟨rfl, H5⟩
                go_wp2_with fail
                go_ret
                exact ⟨rfl, H5.tail2⟩
end Go.Proofs.Ytdlbhoedmaifpaa
