/- HuffBack: the walk: written and read. -/
import Derived.Test.YtdlbhoedmaifpaaHuffBr
import Derived.Test.YtdlbhoedmaifpaaHuffWordB
import Derived.Test.YtdlbhoedmaifpaaHuffKnown
import Derived.Deep.CutRange
import Derived.Test.YtdlbhoedmaifpaaSepRegion2
namespace Go.Proofs.Ytdlbhoedmaifpaa
set_option linter.unusedVariables false
set_option linter.unusedSimpArgs false
open Go.RowKit
theorem infoBo9 : (Try.prog.info? 4).map (fun i => (i.zero, i.size, i.bytes)) = some (some (.bool false), 1, 1) := by kernel_rfl
theorem rowB_some {w0 w : World} {M : List Pr} {V : Option Addr} {n kk : Nat} {l : List Nat} (H : Sp w0 M w) (j : Nat) (hj : M[j]? = some (Row 3 1 (.slice V n kk) n (cellsN l))) (h : 0 < l.length) : ∃ a, V = some a := by
  obtain ⟨a, e, _⟩ := (rowN_rdM j hj _ _ H).at_ (k := 0) (by simpa [cellsN] using h)
  exact ⟨a, e⟩
theorem rowB_at {M : List Pr} {a : Addr} {n kk : Nat} {l : List Nat} (j : Nat) (hj : M[j]? = some (Row 3 1 (.slice (some a) n kk) n (cellsN l))) {i x : Nat} (hi : i < l.length) (hx : l.getD i 0 = x) : Ent M fun w => w.cell? (a.add i) = some (.int .i64 (x : Int)) := fun _ _ H => by
  obtain ⟨a9, e, h⟩ := (rowN_rdM j hj _ _ H).at_ (k := i) (by simpa [cellsN] using hi)
  injection e with e
  rw [e, h]
  rw [List.getD_eq_getElem?_getD, List.getElem?_eq_getElem hi] at hx
  simp only [Option.getD_some] at hx
  simp [cellsN, hx]
theorem rowU_some {w0 w : World} {M : List Pr} {V : Option Addr} {n kk : Nat} {f : Nat → Nat} (H : Sp w0 M w) (j : Nat) (hj : M[j]? = some (Row 70 1 (.slice V n kk) n (rowU f n))) (h : 0 < n) : ∃ a, V = some a := by
  obtain ⟨A9, c9, e9, hr9, _, _⟩ := H.row_rd j hj
  injection e9 with e9 e10 e11
  obtain ⟨ac, hac, hcl⟩ := hr9 (by intro h; have := congrArg List.length h; simp [rowU] at this; omega)
  exact ⟨ac, by rw [e9]; exact hac⟩
theorem rowU_at {M : List Pr} {a : Addr} {n kk : Nat} {f : Nat → Nat} (j : Nat) (hj : M[j]? = some (Row 70 1 (.slice (some a) n kk) n (rowU f n))) {i x : Nat} (hi : i < n) (hx : f i = x) : Ent M fun w => w.cell? (a.add i) = some (.int .u32 (x : Int)) := fun _ _ H => by
  obtain ⟨A9, c9, e9, hr9, _, _⟩ := H.row_rd j hj
  injection e9 with e9 e10 e11
  obtain ⟨ac, hac, hcl⟩ := hr9 (by intro h; have := congrArg List.length h; simp [rowU] at this; omega)
  have hc2 := hcl i _ (rowU_get _ _ _ hi)
  rw [← e9] at hac
  injection hac with hac
  rw [hac, hc2, hx]
/-- The symbols that have a count. -/
def thereTo (cs : List Nat) (i : Nat) : List Nat := (List.range i).filter fun z => decide (0 < cs.getD z 0)
theorem thereTo_succ (cs : List Nat) (i : Nat) : thereTo cs (i + 1) = if 0 < cs.getD i 0 then thereTo cs i ++ [i] else thereTo cs i := by
  unfold thereTo
  rw [List.range_succ, List.filter_append]
  by_cases h : 0 < cs.getD i 0
  · rw [if_pos h, List.filter_cons, decide_eq_true h]; simp
  · rw [if_neg h, List.filter_cons, decide_eq_false h]; simp
theorem thereTo_len (cs : List Nat) (i : Nat) : (thereTo cs i).length ≤ i := by
  unfold thereTo
  exact Nat.le_trans (List.length_filter_le _ _) (by simp)
theorem thereTo_mem {cs : List Nat} {i z : Nat} : z ∈ thereTo cs i ↔ z < i ∧ 0 < cs.getD z 0 := by
  unfold thereTo
  rw [List.mem_filter, List.mem_range, decide_eq_true_eq]
set_option maxRecDepth 100000 in
set_option maxHeartbeats 80000000 in
theorem back_law (A B : Option Addr) (la ca cb : Nat) (ps : List Nat) (bs : List UInt8) {w0 w : World} {L : List Pr} (H : Sp w0 L w) (ha : Ent L fun w => Rd w A (cellsU ps)) (hla : la = ps.length) (hac : la ≤ ca) (hcm : ca ≤ maxLen) (hp : ∀ p ∈ ps, p < 4294967296) (hb : Ent L fun w' => Byt w' (.slice B bs.length cb) bs) :
    Calls Try.prog 12 #[.slice A la ca, .slice B bs.length cb] w fun e w' => e = .returned (.bool true) ∧ Sp w0 L w' := by
  obtain ⟨i1, hj, hj0, hj1, hj2⟩ := info_parts infoJ
  obtain ⟨ib, hbi, hb0, hb1, hb2⟩ := info_parts infoBo9
  have hcap : bs.length ≤ cb ∧ cb ≤ maxLen := by
    obtain ⟨_, _, e, _, h1, h2⟩ := hb _ _ H
    injection e with _ _ e
    subst e
    exact ⟨h1, h2⟩
  have hcbm := hcap.2
  unfold maxLen at hcbm
  have c1 := brought_ok A la ca ps H hla ha hac hcm hp
  obtain ⟨cs, hcs⟩ : ∃ cs, bro ps = cs := ⟨_, rfl⟩
  have hle : ∀ x ∈ cs, x ≤ 1000000 := by rw [← hcs]; exact bro_le ps
  have hn40 : cs.length ≤ 40 := by rw [← hcs, bro_len]; omega
  rw [hcs] at c1
  obtain ⟨n, hn⟩ : ∃ n, cs.length = n := ⟨_, rfl⟩
  rw [hn] at c1 hn40
  obtain ⟨bn, hbn⟩ : ∃ bn, bs.length = bn := ⟨_, rfl⟩
  have hbc : bn ≤ cb := by rw [← hbn]; exact hcap.1
  have hrd : Ent L fun w' => Rd w' B (cells8 bs) := fun w0' w' H' => by
    obtain ⟨A', c', e, hr, _, _⟩ := hb w0' w' H'
    injection e with e
    rw [e]; exact hr
  rw [hbn]
  have hkp : (PL.items cs).length ≤ 2 ^ 15 := by
    have h1 := PL.itemsTo_len cs cs.length
    unfold PL.items
    rw [hn] at h1 ⊢
    exact Nat.le_trans (Nat.le_trans h1 hn40) (by decide)
  obtain ⟨ls, hls⟩ : ∃ ls, PL.lens cs 15 = ls := ⟨_, rfl⟩
  have hlsl : ls.length = n := by rw [← hls, PL.lens_len]; exact hn
  have hin := fun z (hz : z < cs.length) => PL.lens_in cs 15 z (by omega) hkp hz
  have hbook := PL.lens_book cs 15 (by omega) (by omega) hkp
  have hnone := PL.next_nothing cs 15 (by omega) hkp
  rw [hls] at hin hbook hnone
  obtain ⟨hmay, hsum, mo, hmo, hm1, hm15, hlm⟩ := hbook
  rw [hmo] at hnone
  have hl15 : ∀ x ∈ ls, x ≤ 15 := fun x hx => by
    obtain ⟨z, hz, rfl⟩ := List.getElem_of_mem hx
    have := (hin z (by rw [hn, ← hlsl]; exact hz)).2.2
    rwa [List.getD_eq_getElem?_getD, List.getElem?_eq_getElem hz] at this
  have hbeg := fun i j li lj s hi hj hij hli hlj h0 hsi hsj hmin => PH.begin_ne ls hl15 hsum i j li lj s hi hj hij hli hlj h0 hsi hsj hmin
  have hclt := fun z p hz hp h15 => PH.code_lt ls z p hz hp h15 hsum
  have C1 := Lib.hid c1
  have HN := Lib.hid hn
  have HBN := Lib.hid hbn
  have HLE := Lib.hid hle
  have HBS := Lib.hid hrd
  have HKP := Lib.hid hkp
  have HLS := Lib.hid hls
  have HLSL := Lib.hid hlsl
  have HIN := Lib.hid hin
  have HNONE := Lib.hid hnone
  have HMAY := Lib.hid hmay
  have HSUM := Lib.hid hsum
  have HMO := Lib.hid hmo
  have HLM := Lib.hid hlm
  have HL15 := Lib.hid hl15
  have HBEG := Lib.hid hbeg
  have HCLT := Lib.hid hclt
  clear ha hla hac hcm hp hb c1 hcs hn hbn hle hrd hcap hkp hls hlsl hin hnone hmay hsum hmo hlm hl15 hbeg hclt
  go_enter Try.func12, Try.ntmps12
  go_wp2_with fail
  refine C1.out.mono ?_
  rintro _ w2 ⟨v2, rfl, H2⟩
  clear C1 H
  obtain ⟨VA, Vc, hv2, hvc, _⟩ := Row.form H2 0 rfl
  subst hv2
  have c1 := lengths_ok VA n Vc cs 15 H2 HN.out.symm (rowN_rd 0 rfl) (by omega) (by omega) (by omega) (fun x hx => by have := HLE.out x hx; omega) HKP.out
  rw [HLS.out] at c1
  have C1 := Lib.hid c1
  clear c1
  go_wp2_with fail
  refine C1.out.mono ?_
  rintro _ w3 ⟨v3, rfl, H3⟩
  clear C1 H2
  obtain ⟨LA, Lc, hv3, hlc, _⟩ := Row.form H3 0 rfl
  subst hv3
  have C2 := Lib.hid (codes_ok LA n Lc ls H3 HLSL.out.symm (rowN_rdJ 0 rfl) (by omega) HL15.out HSUM.out)
  go_wp2_with fail
  refine C2.out.mono ?_
  rintro _ w4 ⟨v4, rfl, H4⟩
  clear C2 H3
  obtain ⟨UA, Uc, hv4, huc, _⟩ := Row.form H4 0 rfl
  subst hv4
  have c3 := new_yes LA n Lc ls H4 HLSL.out.symm (rowN_rdJ 1 rfl) (by omega) HL15.out HMAY.out
  rw [HMO.out] at c3
  have C3 := Lib.hid c3
  clear c3
  go_wp2_with fail
  refine C3.out.mono ?_
  rintro _ w5 ⟨gb, vb, rfl, H5⟩
  clear C3 H4
  go_wp2_with fail
  go_loopw [12, 13] (fun vv iv wr => ∃ (i q : Nat), iv = .int .i64 (i : Int) ∧ i ≤ n ∧ q ≤ i ∧ Hid ((thereTo cs i).length = q) ∧ Sp w0 (Row 3 1 vv q (cellsN (thereTo cs i)) :: Row 3 1 vb (PH.rows ls).length (cellsN (PH.rows ls)) :: BkB gb ls vb (mo : Int) :: Row 70 1 (.slice UA n Uc) n (rowU (PH.codeAt ls) n) :: Row 3 1 (.slice LA n Lc) n (cellsN ls) :: Row 3 1 (.slice VA n Vc) n (cellsN cs) :: L) wr) (fun _ iv _ => n - (intOf iv).toNat)
  case atStart => exact ⟨0, 0, rfl, Nat.zero_le _, Nat.zero_le _, Lib.hid rfl, H5.rowNil _ _⟩
  case round =>
    clear H5
    obtain ⟨i, q, rfl, hin, hqi, HQ, H⟩ := hrel
    obtain ⟨D, hD⟩ : ∃ D, thereTo cs i = D := ⟨_, rfl⟩
    rw [hD] at H HQ
    obtain ⟨TA, Tc, hvf, _, _⟩ := Row.form H 0 rfl
    subst hvf
    by_cases hlt : i < n
    · have k1 : (i : Int) < (n : Int) := by omega
      obtain ⟨al, hal⟩ := rowB_some H 5 rfl (by rw [HN.out]; omega)
      obtain ⟨ll, hll⟩ := rowB_some H 4 rfl (by rw [HLSL.out]; omega)
      obtain ⟨ul, hul⟩ := rowU_some H 3 rfl (by omega)
      subst hal hll hul
      obtain ⟨x, hx⟩ : ∃ x, cs.getD i 0 = x := ⟨_, rfl⟩
      have hcell := rowB_at 5 rfl (by rw [HN.out]; exact hlt) hx _ _ H
      have hnext := thereTo_succ cs i
      rw [hx, hD] at hnext
      have HNX := Lib.hid hnext
      have HX := Lib.hid hx
      clear hx hnext hD
      by_cases hx0 : x = 0
      · have q1 : ((x : Int) == 0) = true := by rw [hx0]; rfl
        have q2 : (x : Int) = 0 := by omega
        go_wp2_with fail
        go_roundw
        case rel => exact ⟨i + 1, q, by go_num, by omega, by omega, Lib.hid (by rw [HNX.out, if_neg (by omega)]; exact HQ.out), by rw [HNX.out, if_neg (by omega)]; exact H⟩
        case measure => first | (simp [intOf]; omega) | simp [intOf]
      · have q1 : ((x : Int) == 0) = false := by rw [beq_eq_false_iff_ne]; omega
        have q2 : ¬ (x : Int) = 0 := by omega
        have hr9 := Rd.of_blk (Blk.new wr 3 [.int .i64 (i : Int)])
        have HR9 := Lib.hid hr9
        have h9 := (H.newBk [.int .i64 (i : Int)] 3).swap
        have HH9 := Lib.hid h9
        have hDl : D.length = q := HQ.out
        have hDL := Lib.hid hDl
        clear hr9 h9 H hDl
        go_wp2_with (at_builtin; refine wpList_append_sp rfl _ _ 52 rfl 3 i1 (.int .i64 0) 1 8 Try.underlying52 hj hj0 hj1 hj2 rfl (by decide) (.slice TA q Tc) q (cellsN D) rfl HH9.out (some ⟨wr.heap.size, 0, none⟩) 1 1 [.int .i64 (i : Int)] rfl rfl HR9.out (by intro u hu; rw [List.mem_singleton.1 hu]; rfl) (by simp only [maxLen]; omega) (by omega) ?_)
        intro v6 w6 H6 _
        clear HR9 HH9
        have H7 := H6.tail.swap.tail
        replace H6 := H6.pick 2 [0]
        obtain ⟨TB, Td, hvf, _, _⟩ := Row.form H6 0 rfl
        subst hvf
        rw [show cellsN D ++ [Value.int .i64 (i : Int)] = cellsN (D ++ [i]) by rw [cellsN_append]; rfl] at H6
        clear H7
        go_wp2_with fail
        go_loopw [14] (fun kv wr => ∃ (k : Nat), kv = .int .i64 (k : Int) ∧ k ≤ i ∧ Sp w0 (Row 3 1 (.slice TB (q + 1) Td) (q + 1) (cellsN (D ++ [i])) :: Row 3 1 vb (PH.rows ls).length (cellsN (PH.rows ls)) :: BkB gb ls vb (mo : Int) :: Row 70 1 (.slice (some ul) n Uc) n (rowU (PH.codeAt ls) n) :: Row 3 1 (.slice (some ll) n Lc) n (cellsN ls) :: Row 3 1 (.slice (some al) n Vc) n (cellsN cs) :: L) wr) (fun kv _ => i - (intOf kv).toNat)
        case atStart => exact ⟨0, rfl, Nat.zero_le _, H6⟩
        case round =>
          clear H6
          obtain ⟨k, rfl, hki, H⟩ := hrel
          by_cases hlt3 : k < i
          · have p1 : (k : Int) < (i : Int) := by omega
            have p2 : (k : Int) < (n : Int) := by omega
            obtain ⟨li, hli⟩ : ∃ y, ls.getD i 0 = y := ⟨_, rfl⟩
            obtain ⟨lk, hlk⟩ : ∃ y, ls.getD k 0 = y := ⟨_, rfl⟩
            obtain ⟨ci, hci⟩ : ∃ y, PH.codeAt ls i = y := ⟨_, rfl⟩
            obtain ⟨ck, hck⟩ : ∃ y, PH.codeAt ls k = y := ⟨_, rfl⟩
            have h1 := rowB_at 4 rfl (by rw [HLSL.out]; exact hlt) hli _ _ H
            have h2 := rowB_at 4 rfl (by rw [HLSL.out]; omega) hlk _ _ H
            have h3 := rowU_at 3 rfl hlt hci _ _ H
            have h4 := rowU_at 3 rfl (show k < n by omega) hck _ _ H
            obtain ⟨s, hs⟩ : ∃ s, min li lk = s := ⟨_, rfl⟩
            have hmin : ∀ W : World, (Builtin.min_ #[3, 3] 3 #[.int .i64 (li : Int), .int .i64 (lk : Int)]).run Try.prog W = .ok (.int .i64 (s : Int)) W := fun W => by
              simp [Builtin.min_, Builtin.min2]
              split <;> omega
            have hls1 : s ≤ li := by omega
            have hls2 : s ≤ lk := by omega
            have hl1 := HIN.out i (by rw [HN.out]; omega)
            have hl2 := HIN.out k (by rw [HN.out]; omega)
            rw [hli] at hl1
            rw [hlk] at hl2
            have hli15 := hl1.2.2
            have hlk15 := hl2.2.2
            obtain ⟨d1, hd1⟩ : ∃ d, li - s = d := ⟨_, rfl⟩
            obtain ⟨d2, hd2⟩ : ∃ d, lk - s = d := ⟨_, rfl⟩
            have y1 : (li : Int) - (s : Int) = (d1 : Int) := by omega
            have y2 : (lk : Int) - (s : Int) = (d2 : Int) := by omega
            obtain ⟨e1, he1⟩ : ∃ e, ci / 2 ^ d1 = e := ⟨_, rfl⟩
            obtain ⟨e2, he2⟩ : ∃ e, ck / 2 ^ d2 = e := ⟨_, rfl⟩
            have y3 : (ci : Int) / 2 ^ d1 = (e1 : Int) := by rw [← he1]; simp
            have y4 : (ck : Int) / 2 ^ d2 = (e2 : Int) := by rw [← he2]; simp
            have hne : 0 < s → e1 ≠ e2 := fun h0 => by
              rw [← he1, ← he2, ← hd1, ← hd2, ← hci, ← hck]
              exact HBEG.out i k li lk s (by rw [HLSL.out]; exact hlt) (by rw [HLSL.out]; omega) (by omega) hli hlk h0 hls1 hls2 (by omega)
            have HNE := Lib.hid hne
            clear hli hlk hci hck hs hl1 hl2 hd1 hd2 he1 he2 hne
            by_cases hs0 : 0 < s
            · have q3 : (0 : Int) < (s : Int) := by omega
              have q4 : ((e1 : Int) == (e2 : Int)) = false := by rw [beq_eq_false_iff_ne]; have := HNE.out hs0; omega
              have n1 : decide (e1 = e2) = false := by have := HNE.out hs0; simp; omega
              go_wp2_with fail
              go_quiet (fail)
              go_wp2_with fail
              go_quiet (fail)
              go_wp2_with fail
              go_roundw
              case rel => exact ⟨k + 1, by go_num, by omega, H.drewN _⟩
              case measure => first | (simp [intOf]; omega) | simp [intOf]
            · have q3 : ¬ (0 : Int) < (s : Int) := by omega
              go_wp2_with fail
              go_quiet (fail)
              go_wp2_with fail
              go_quiet (fail)
              go_wp2_with fail
              go_roundw
              case rel => exact ⟨k + 1, by go_num, by omega, H.drewN _⟩
              case measure => first | (simp [intOf]; omega) | simp [intOf]
          · have p1 : ¬ (k : Int) < (i : Int) := by omega
            obtain rfl : k = i := by omega
            go_wp2_with fail
            go_roundw
            case rel => exact ⟨k + 1, q + 1, by go_num, by omega, by omega, Lib.hid (by rw [HNX.out, if_pos (by omega), List.length_append, hDL.out]; rfl), by rw [HNX.out, if_pos (by omega)]; exact H⟩
            case measure => first | (simp [intOf]; omega) | simp [intOf]
    · have k1 : ¬ (i : Int) < (n : Int) := by omega
      obtain rfl : i = n := by omega
      have hDl : D.length = q := HQ.out
      have hmem : ∀ z, z ∈ D ↔ z < i ∧ 0 < cs.getD z 0 := fun z => by rw [← hD]; exact thereTo_mem
      clear hD
      by_cases hq0 : q = 0
      · have hz : ∀ z, z < cs.length → cs.getD z 0 = 0 := fun z hz => by
          rcases Nat.eq_zero_or_pos (cs.getD z 0) with h | h
          · exact h
          · have := (hmem z).2 ⟨by rw [← HN.out]; exact hz, h⟩
            have hD0 : D = [] := List.eq_nil_of_length_eq_zero (by rw [hDl]; exact hq0)
            rw [hD0] at this
            cases this
        obtain ⟨hmo1, hnf⟩ := HNONE.out hz
        obtain rfl : mo = 1 := by omega
        subst hq0
        have H9 := (H.newBk [.bool true] 4).newBk [.slice (some ⟨wr.heap.size, 0, none⟩) 1 1, .int .i64 0] 75
        have hsz : (wr.alloc (.cells #[.bool true] 4)).heap.size = wr.heap.size + 1 := Array.size_push _
        rw [hsz] at H9
        clear hsz
        have hnx := next_ok gb (wr.heap.size + 1) vb ls 1 (some ⟨wr.heap.size, 0, none⟩) 1 1 0 [true] (H9.pick 8 [0, 3, 4, 1, 2, 5, 6, 7]) rfl (fun _ _ H => Rd.of_blk (H.blk 0 rfl)) (by omega) (by omega) (by omega) HSUM.out (by rw [HLSL.out]; omega)
        rw [List.drop_zero, hnf] at hnx
        have HNX := Lib.hid hnx
        clear hnx hnf hmem hDl hz H9 hmo1
        go_wp2_with fail
        refine HNX.out.mono ?_
        rintro _ w6 ⟨rfl, H6⟩
        clear HNX H
        have HT := Lib.hid (tells_ok H6)
        go_wp2_with fail
        refine HT.out.mono ?_
        rintro _ w7 ⟨rfl, H7⟩
        go_wp2_with fail
        go_ret
        exact ⟨rfl, H7.pick 8 []⟩
      · have hq1 : 0 < q := by omega
        have kq : ((q : Int) == 0) = false := by rw [beq_eq_false_iff_ne]; omega
        have HDL := Lib.hid hDl
        have HMEM := Lib.hid hmem
        clear hDl hmem
        obtain ⟨k0, hk0⟩ : ∃ k0, min bn 100 = k0 := ⟨_, rfl⟩
        have hk1 : k0 ≤ bn := by omega
        have hk2 : k0 ≤ 100 := by omega
        have hk3 : bn ≤ k0 ∨ k0 = 100 := by omega
        clear hk0
        have H5 := H.newBk [.slice none 0 0, .int .i64 0] 75
        go_wp2_with fail
        generalize wr.heap.size = gf at H5 ⊢
        generalize wr.alloc _ = wd at H5 ⊢
        clear H
        go_loopw [19, 20] (fun wv jv wr => ∃ (j : Nat) (ws : List Nat) (fv : Value), jv = .int .i64 (j : Int) ∧ j ≤ k0 ∧ Hid (ws.length = j ∧ ∀ s ∈ ws, s ∈ D) ∧ Sp w0 (Row 3 1 wv j (cellsN ws) :: Row 4 1 fv (PH.word ls ws).length (cellsBo (PH.word ls ws)) :: Bk gf 75 [fv, .int .i64 0] :: Row 3 1 (.slice TA q Tc) q (cellsN D) :: Row 3 1 vb (PH.rows ls).length (cellsN (PH.rows ls)) :: BkB gb ls vb (mo : Int) :: Row 70 1 (.slice UA i Uc) i (rowU (PH.codeAt ls) i) :: Row 3 1 (.slice LA i Lc) i (cellsN ls) :: Row 3 1 (.slice VA i Vc) i (cellsN cs) :: L) wr) (fun _ jv _ => k0 - (intOf jv).toNat)
        case atStart => exact ⟨0, [], .slice none 0 0, rfl, Nat.zero_le _, Lib.hid ⟨rfl, fun s hs => by cases hs⟩, (H5.rowNil 4 1).rowNil 3 1⟩
        case round =>
          clear H5
          obtain ⟨j, ws, fv, rfl, hjk, HW, H⟩ := hrel
          obtain ⟨WA, Wc, hvw, _, _⟩ := Row.form H 0 rfl
          subst hvw
          obtain ⟨FA, Fc, hvf, _, _⟩ := Row.form H 1 rfl
          subst hvf
          by_cases hlt : j < k0
          · have k2 : (j : Int) < (bn : Int) := by omega
            have k3 : (j : Int) < 100 := by omega
            have hjb : j < bs.length := by rw [HBN.out]; omega
            obtain ⟨bl, hbl, hcb⟩ := (HBS.out _ _ (H.pick 9 [])).at8 hjb
            subst hbl
            obtain ⟨u, hu⟩ : ∃ u : Nat, bs[j].toNat = u := ⟨_, rfl⟩
            rw [hu] at hcb
            have hul : u < 256 := by rw [← hu]; exact UInt8.toNat_lt _
            obtain ⟨t, ht⟩ : ∃ t, u % q = t := ⟨_, rfl⟩
            have htq : t < q := by rw [← ht]; exact Nat.mod_lt _ hq1
            have z1 : (u : Int).tmod (q : Int) = (t : Int) := by rw [Int.tmod_eq_emod_of_nonneg (by omega), ← ht]; simp
            have z1b : (u : Int) % (q : Int) = (t : Int) := by rw [← ht]; simp
            have z1d : (q : Int) ≠ 0 := by omega
            have z1e : (t : Int) < (q : Int) := by omega
            obtain ⟨tl, htl⟩ := rowB_some H 3 rfl (by rw [HDL.out]; exact hq1)
            obtain ⟨ll, hll⟩ := rowB_some H 7 rfl (by rw [HLSL.out]; have := (HMEM.out (D.getD t 0)).1 (by rw [List.getD_eq_getElem?_getD, List.getElem?_eq_getElem (by rw [HDL.out]; exact htq)]; exact List.getElem_mem _); omega)
            obtain ⟨ul, hul2⟩ := rowU_some H 6 rfl (by have := (HMEM.out (D.getD t 0)).1 (by rw [List.getD_eq_getElem?_getD, List.getElem?_eq_getElem (by rw [HDL.out]; exact htq)]; exact List.getElem_mem _); omega)
            subst htl hll hul2
            obtain ⟨s, hs⟩ : ∃ s, D.getD t 0 = s := ⟨_, rfl⟩
            have hcs := rowB_at 3 rfl (by rw [HDL.out]; exact htq) hs _ _ H
            have hsD : s ∈ D := by
              rw [← hs, List.getD_eq_getElem?_getD, List.getElem?_eq_getElem (by rw [HDL.out]; exact htq)]
              exact List.getElem_mem _
            have hsm := (HMEM.out s).1 hsD
            obtain ⟨ln, hln⟩ : ∃ y, ls.getD s 0 = y := ⟨_, rfl⟩
            obtain ⟨cd, hcd⟩ : ∃ y, PH.codeAt ls s = y := ⟨_, rfl⟩
            have hli := HIN.out s (by rw [HN.out]; exact hsm.1)
            rw [hln] at hli
            have hl1 : 1 ≤ ln := hli.1 hsm.2
            have hl15b : ln ≤ 15 := hli.2.2
            have hcdl : cd < 2 ^ ln := by
              obtain ⟨p, hp⟩ : ∃ p, ln = p + 1 := ⟨ln - 1, by omega⟩
              have h := HCLT.out s p (by rw [HLSL.out]; exact hsm.1) (by rw [hln, hp]) (by omega)
              rw [hcd] at h
              rw [hp]; exact h
            have hcd32 : cd < 4294967296 := Nat.lt_of_lt_of_le hcdl (Nat.le_trans (Nat.pow_le_pow_right (by omega) hl15b) (by decide))
            obtain ⟨bk, hbk⟩ : ∃ b, PBits.rev cd ln = b := ⟨_, rfl⟩
            have hbk32 : bk < 4294967296 := by
              rw [← hbk]
              exact Nat.lt_of_lt_of_le (PBits.rev_lt cd ln) (Nat.le_trans (Nat.pow_le_pow_right (by omega) hl15b) (by decide))
            have hrr : PBits.rev bk ln = cd := by rw [← hbk, PBits.rev_rev, Nat.mod_eq_of_lt hcdl]
            have t1 := fun w => turned_any cd ln (ln : Int) w hcd32 (by omega)
            have t2 := fun w => turned_any bk ln (ln : Int) w hbk32 (by omega)
            rw [hbk] at t1
            rw [hrr] at t2
            have hbits : PH.bitsC ln cd = (List.range ln).map fun k => bk.testBit k := by rw [PH.bitsC_rev, hbk]
            have T1 := Lib.hid t1
            have T2 := Lib.hid t2
            have HBI := Lib.hid hbits
            have HLN := Lib.hid hln
            have HCD := Lib.hid hcd
            have HSD := Lib.hid hsD
            have s1 : (s : Int) < (i : Int) := by omega
            have HS1 := Lib.hid hsm.1
            have hr9 := Rd.of_blk (Blk.new wr 3 [.int .i64 (s : Int)])
            have HR9 := Lib.hid hr9
            have h9 := (H.newBk [.int .i64 (s : Int)] 3).swap
            have HH9 := Lib.hid h9
            clear hr9 h9 H hu ht hs hsD hsm hln hcd hli hcdl hbk hrr t1 t2 hbits
            go_wp2_with (at_builtin; refine wpList_append_sp rfl _ _ 52 rfl 3 i1 (.int .i64 0) 1 8 Try.underlying52 hj hj0 hj1 hj2 rfl (by decide) (.slice WA j Wc) j (cellsN ws) rfl HH9.out (some ⟨wr.heap.size, 0, none⟩) 1 1 [.int .i64 (s : Int)] rfl rfl HR9.out (by intro u hu; rw [List.mem_singleton.1 hu]; rfl) (by simp only [maxLen]; omega) (by omega) ?_)
            intro v6 w6 H6 _
            clear HR9 HH9
            replace H6 := H6.pick 2 [0]
            obtain ⟨WB, Wd, hvw, _, _⟩ := Row.form H6 0 rfl
            subst hvw
            rw [show cellsN ws ++ [Value.int .i64 (s : Int)] = cellsN (ws ++ [s]) by rw [cellsN_append]; rfl] at H6
            have hcl := rowB_at 7 rfl (by rw [HLSL.out]; exact HS1.out) HLN.out _ _ H6
            have hcc := rowU_at 6 rfl HS1.out HCD.out _ _ H6
            have Q1 : Hid (∀ m, Calls Try.prog 41 #[.int .u32 (cd : Int), .int .i64 (ln : Int)] (w6.drewN m) fun e w' => e = .returned (.int .u32 (bk : Int)) ∧ w' = w6.drewN m) := Lib.hid fun m => (T1.out _).mono fun _ _ ⟨h1, h2⟩ => ⟨h1, h2.symm⟩
            clear T1
            go_wp2_with fail
            go_quiet ((go_at_call 41; exact Calls.quiet_of_same (Q1.out _)))
            have H7 := H6.drewN nq
            generalize w6.drewN nq = w7 at H7 ⊢
            clear H6 hcl hcc Q1
            have hcl := rowB_at 7 rfl (by rw [HLSL.out]; exact HS1.out) HLN.out _ _ H7
            have hcc := rowU_at 6 rfl HS1.out HCD.out _ _ H7
            have Q2 : Hid (∀ m, Calls Try.prog 41 #[.int .u32 (bk : Int), .int .i64 (ln : Int)] (w7.drewN m) fun e w' => e = .returned (.int .u32 (cd : Int)) ∧ w' = w7.drewN m) := Lib.hid fun m => (T2.out _).mono fun _ _ ⟨h1, h2⟩ => ⟨h1, h2.symm⟩
            clear T2
            go_wp2_with fail
            go_quiet ((go_at_call 41; exact Calls.quiet_of_same (Q2.out _)))
            clear Q2 hcl hcc
            go_wp2_with fail
            go_loopw [23] (fun kv wr => ∃ (k : Nat) (fv : Value), kv = .int .i64 (k : Int) ∧ k ≤ ln ∧ Sp w0 (Row 4 1 fv ((PH.word ls ws).length + k) (cellsBo (PH.word ls ws ++ (PH.bitsC ln cd).take k)) :: Bk gf 75 [fv, .int .i64 0] :: Row 3 1 (.slice WB (j + 1) Wd) (j + 1) (cellsN (ws ++ [s])) :: Row 3 1 (.slice (some tl) q Tc) q (cellsN D) :: Row 3 1 vb (PH.rows ls).length (cellsN (PH.rows ls)) :: BkB gb ls vb (mo : Int) :: Row 70 1 (.slice (some ul) i Uc) i (rowU (PH.codeAt ls) i) :: Row 3 1 (.slice (some ll) i Lc) i (cellsN ls) :: Row 3 1 (.slice VA i Vc) i (cellsN cs) :: L) wr) (fun kv _ => ln - (intOf kv).toNat)
            case atStart => exact ⟨0, .slice FA (PH.word ls ws).length Fc, rfl, Nat.zero_le _, by rw [List.take_zero, List.append_nil]; exact (H7.drewN _).pick 9 [1, 2, 0, 3, 4, 5, 6, 7, 8]⟩
            case round =>
              clear H7
              obtain ⟨k, fv, rfl, hkl, H⟩ := hrel
              obtain ⟨Z, hZ⟩ : ∃ Z, PH.word ls ws ++ (PH.bitsC ln cd).take k = Z := ⟨_, rfl⟩
              obtain ⟨zn, hzn⟩ : ∃ zn, (PH.word ls ws).length + k = zn := ⟨_, rfl⟩
              rw [hZ, hzn] at H
              obtain ⟨BV, bc, hbv, _, _⟩ := Row.form H 0 rfl
              subst hbv
              have hcl := rowB_at 7 rfl (by rw [HLSL.out]; exact HS1.out) HLN.out _ _ H
              by_cases hk9 : k < ln
              · have g1 : (k : Int) < (ln : Int) := by omega
                obtain ⟨q1, hq1y⟩ : ∃ q1, bk / 2 ^ k = q1 := ⟨_, rfl⟩
                have y1 : (bk : Int) / 2 ^ k = (q1 : Int) := by rw [← hq1y]; simp
                have hql : q1 < 4294967296 := by rw [← hq1y]; exact Nat.lt_of_le_of_lt (Nat.div_le_self _ _) hbk32
                obtain ⟨q2, hq2⟩ : ∃ q2, q1 % 2 = q2 := ⟨_, rfl⟩
                have y2 : bits .and .u32 (q1 : Int) 1 = (q2 : Int) := by
                  have := u32_and_nat q1 1 hql (by decide)
                  rw [Nat.and_one_is_mod, hq2] at this
                  exact this
                obtain ⟨bz, hbz⟩ : ∃ bz, decide (q2 = 1) = bz := ⟨_, rfl⟩
                have y3 : ((q2 : Int) == 1) = bz := by
                  rw [← hbz]
                  by_cases e : q2 = 1
                  · rw [e]; rfl
                  · rw [decide_eq_false e, beq_eq_false_iff_ne]; omega
                have hnext : PH.word ls ws ++ (PH.bitsC ln cd).take (k + 1) = Z ++ [bz] := by
                  rw [List.take_succ_eq_append_getElem (by rw [PH.bitsC_len]; exact hk9), ← List.append_assoc, hZ]
                  congr 2
                  simp only [HBI.out, List.getElem_map, List.getElem_range]
                  rw [← hbz, ← hq2, ← hq1y, Nat.testBit_eq_decide_div_mod_eq]
                have HNX := Lib.hid hnext
                have HZN := Lib.hid hzn
                have hzl : Z.length = zn := by rw [← hZ, ← hzn, List.length_append, List.length_take, PH.bitsC_len]; omega
                have hzb : zn ≤ 2000 := by
                  rw [← hzn]
                  have := PH.word_len ls HL15.out ws
                  rw [HW.out.1] at this
                  omega
                clear hq1y hq2 hbz hnext hZ hzn hzl
                go_wp2_with fail
                refine wp_region_dp (L := Row 3 1 (.slice WB (j + 1) Wd) (j + 1) (cellsN (ws ++ [s])) :: Row 3 1 (.slice (some tl) q Tc) q (cellsN D) :: Row 3 1 vb (PH.rows ls).length (cellsN (PH.rows ls)) :: BkB gb ls vb (mo : Int) :: Row 70 1 (.slice (some ul) i Uc) i (rowU (PH.codeAt ls) i) :: Row 3 1 (.slice (some ll) i Lc) i (cellsN ls) :: Row 3 1 (.slice VA i Vc) i (cellsN cs) :: L) (fun ix ux vx => ([(fun _ => (· = .pointer (some ⟨gf, 0, none⟩))), (fun _ => (· = .pointer (some ⟨gf, 0, none⟩))), (fun _ => (· = .pointer (some ⟨gf, 0, none⟩))), (fun _ => (· = .pointer (some ⟨gf, 0, none⟩))), (fun _ => (· = .slice BV zn bc)), (fun _ => (· = .int .u32 (bk : Int))), (fun _ => (· = .int .i64 (k : Int))), (fun _ => (· = .int .u32 (q1 : Int))), (fun _ => (· = .int .u32 (q2 : Int))), (fun _ => (· = .bool bz)), (fun _ => fun v => v = .slice (some ⟨v.ownBlock.getD 0, 0, none⟩) 1 1), (fun _ => fun v => ∃ A c, v = .slice A (zn + 1) c), (fun _ => (· = .pointer (some ⟨gf, 0, none⟩))), (fun _ => (· = .pointer (some ⟨gf, 0, none⟩))), (fun _ _ => True)] : List (Value → Value → Prop)).getD ix (fun _ _ => True) ux vx)
                  (fun ix ux vx => ([fun _ _ => [], fun _ _ => [], fun _ _ => [], fun _ _ => [], fun _ _ => [], fun _ _ => [], fun _ _ => [], fun _ _ => [], fun _ _ => [], fun _ _ => [], fun _ v => [Bk (v.ownBlock.getD 0) 4 [.bool bz]], fun _ v => [Row 4 1 v (zn + 1) (cellsBo (Z ++ [bz]))], fun _ _ => [], fun _ _ => [], fun ux _ => [Bk gf 75 [ux, .int .i64 0]]] : List (Value → Value → List Pr)).getD ix (fun _ _ => []) ux vx) (fun ix => ([[], [], [], [], [], [], [], [], [], [], [], [Row 4 1 (.slice BV zn bc) zn (cellsBo Z)], [], [], [Bk gf 75 [.slice BV zn bc, .int .i64 0]]] : List (List Pr)).getD ix []) 15 262
                  [some 203, some 204, some 205, some 206, some 207, some 208, some 209, some 210, some 211, some 212, some 213, some 214, some 215, some 216, none]
                  [[], [], [1], [2], [3], [], [], [5, 6], [7], [8], [9], [4, 10], [0, 0, 1, 2, 3, 4, 5, 6, 7, 8, 9, 10, 11], [12, 0, 1, 2, 3, 4, 5, 6, 7, 8, 9, 10, 11], [13, 11, 11, 0, 1, 2, 3, 4, 5, 6, 7, 8, 9, 10, 11]]
                  [[], [], [1], [1, 2], [1, 2, 3], [], [], [5, 6], [5, 6, 7], [5, 6, 7, 8], [5, 6, 7, 8, 9], [1, 2, 3, 4, 5, 6, 7, 8, 9, 10], [0, 1, 2, 3, 4, 5, 6, 7, 8, 9, 10, 11], [0, 1, 2, 3, 4, 5, 6, 7, 8, 9, 10, 11, 12], [0, 1, 2, 3, 4, 5, 6, 7, 8, 9, 10, 11, 12, 13]]
                  [[], [], [], [], [], [], [], [], [], [], [], [10], [], [], []]
                  [[], [], [], [], [14], [], [], [], [], [], [], [], [], [], []]
                  [none, none, none, none, none, none, none, none, none, none, none, none, none, none, some 11] (by decide) [(18, .pointer (some ⟨gf, 0, none⟩)), (22, .int .u32 (bk : Int)), (23, .int .i64 (k : Int))]
                  (by kernel_rfl) rfl (by decide) (by rfl) rfl (by decide +kernel) (by decide +kernel) (by rfl) rfl rfl (by decide) (by simp) (by rfl) (H.pick 2 [0, 1]) ?hstep ?hend
                case hstep =>
                  refine ⟨?_, ⟨?_, ⟨?_, ⟨?_, ⟨?_, ⟨?_, ⟨?_, ⟨?_, ⟨?_, ⟨?_, ⟨?_, ⟨?_, ⟨?_, ⟨?_, ⟨?_, trivial⟩⟩⟩⟩⟩⟩⟩⟩⟩⟩⟩⟩⟩⟩⟩
                  · intro x wx A rest hN hS hE H K hK0
                    have e18 : A.tmps[18]?.getD undef = .pointer (some ⟨gf, 0, none⟩) := hN (18, .pointer (some ⟨gf, 0, none⟩)) (by simp)
                    replace H : Sp w0 (rest) wx := H
                    have hK : Hid (∀ (v : Value) (w' : World), v = .pointer (some ⟨gf, 0, none⟩) → Sp w0 (rest) w' → K (A.put (some 203) v) w') := Lib.hid hK0
                    clear hK0 hN hS hE
                    change Oper.wp _ _ A wx K _
                    go_step
                    exact hK.out _ _ rfl (H)
                  · intro x wx A rest hN hS hE H K hK0
                    have e18 : A.tmps[18]?.getD undef = .pointer (some ⟨gf, 0, none⟩) := hN (18, .pointer (some ⟨gf, 0, none⟩)) (by simp)
                    replace H : Sp w0 (rest) wx := H
                    have hK : Hid (∀ (v : Value) (w' : World), v = .pointer (some ⟨gf, 0, none⟩) → Sp w0 (rest) w' → K (A.put (some 204) v) w') := Lib.hid hK0
                    clear hK0 hN hS hE
                    change Oper.wp _ _ A wx K _
                    go_step
                    exact hK.out _ _ rfl (H)
                  · intro x wx A rest hN hS hE H K hK0
                    have e204 : A.tmps[204]?.getD undef = .pointer (some ⟨gf, 0, none⟩) := ((hS 1 (by decide)).2 204 rfl).trans (hS 1 (by decide)).1
                    replace H : Sp w0 (rest) wx := H
                    have hK : Hid (∀ (v : Value) (w' : World), v = .pointer (some ⟨gf, 0, none⟩) → Sp w0 (rest) w' → K (A.put (some 205) v) w') := Lib.hid hK0
                    clear hK0 hN hS hE
                    change Oper.wp _ _ A wx K _
                    go_step
                    exact hK.out _ _ rfl (H)
                  · intro x wx A rest hN hS hE H K hK0
                    have e205 : A.tmps[205]?.getD undef = .pointer (some ⟨gf, 0, none⟩) := ((hS 2 (by decide)).2 205 rfl).trans (hS 2 (by decide)).1
                    replace H : Sp w0 (rest) wx := H
                    have hK : Hid (∀ (v : Value) (w' : World), v = .pointer (some ⟨gf, 0, none⟩) → Sp w0 (rest) w' → K (A.put (some 206) v) w') := Lib.hid hK0
                    clear hK0 hN hS hE
                    change Oper.wp _ _ A wx K _
                    go_step
                    exact hK.out _ _ rfl (H)
                  · intro x wx A rest hN hS hE H K hK0
                    have e206 : A.tmps[206]?.getD undef = .pointer (some ⟨gf, 0, none⟩) := ((hS 3 (by decide)).2 206 rfl).trans (hS 3 (by decide)).1
                    replace H : Sp w0 ((Bk gf 75 [.slice BV zn bc, .int .i64 0]) :: rest) wx := H
                    have hK : Hid (∀ (v : Value) (w' : World), v = .slice BV zn bc → Sp w0 ((Bk gf 75 [.slice BV zn bc, .int .i64 0]) :: rest) w' → K (A.put (some 207) v) w') := Lib.hid hK0
                    clear hK0 hN hS hE
                    have c0 : wx.cell? ⟨gf, 0, none⟩ = some (.slice BV zn bc) := H.cell 0 rfl 0
                    change Oper.wp _ _ A wx K _
                    go_step
                    exact hK.out _ _ rfl (H)
                  · intro x wx A rest hN hS hE H K hK0
                    have e22 : A.tmps[22]?.getD undef = .int .u32 (bk : Int) := hN (22, .int .u32 (bk : Int)) (by simp)
                    replace H : Sp w0 (rest) wx := H
                    have hK : Hid (∀ (v : Value) (w' : World), v = .int .u32 (bk : Int) → Sp w0 (rest) w' → K (A.put (some 208) v) w') := Lib.hid hK0
                    clear hK0 hN hS hE
                    change Oper.wp _ _ A wx K _
                    go_step
                    exact hK.out _ _ rfl (H)
                  · intro x wx A rest hN hS hE H K hK0
                    have e23 : A.tmps[23]?.getD undef = .int .i64 (k : Int) := hN (23, .int .i64 (k : Int)) (by simp)
                    replace H : Sp w0 (rest) wx := H
                    have hK : Hid (∀ (v : Value) (w' : World), v = .int .i64 (k : Int) → Sp w0 (rest) w' → K (A.put (some 209) v) w') := Lib.hid hK0
                    clear hK0 hN hS hE
                    change Oper.wp _ _ A wx K _
                    go_step
                    exact hK.out _ _ rfl (H)
                  · intro x wx A rest hN hS hE H K hK0
                    have e208 : A.tmps[208]?.getD undef = .int .u32 (bk : Int) := ((hS 5 (by decide)).2 208 rfl).trans (hS 5 (by decide)).1
                    have e209 : A.tmps[209]?.getD undef = .int .i64 (k : Int) := ((hS 6 (by decide)).2 209 rfl).trans (hS 6 (by decide)).1
                    replace H : Sp w0 (rest) wx := H
                    have hK : Hid (∀ (v : Value) (w' : World), v = .int .u32 (q1 : Int) → Sp w0 (rest) w' → K (A.put (some 210) v) w') := Lib.hid hK0
                    clear hK0 hN hS hE
                    change Oper.wp _ _ A wx K _
                    go_step
                    exact hK.out _ _ rfl (H)
                  · intro x wx A rest hN hS hE H K hK0
                    have e210 : A.tmps[210]?.getD undef = .int .u32 (q1 : Int) := ((hS 7 (by decide)).2 210 rfl).trans (hS 7 (by decide)).1
                    replace H : Sp w0 (rest) wx := H
                    have hK : Hid (∀ (v : Value) (w' : World), v = .int .u32 (q2 : Int) → Sp w0 (rest) w' → K (A.put (some 211) v) w') := Lib.hid hK0
                    clear hK0 hN hS hE
                    change Oper.wp _ _ A wx K _
                    go_step
                    exact hK.out _ _ rfl (H)
                  · intro x wx A rest hN hS hE H K hK0
                    have e211 : A.tmps[211]?.getD undef = .int .u32 (q2 : Int) := ((hS 8 (by decide)).2 211 rfl).trans (hS 8 (by decide)).1
                    replace H : Sp w0 (rest) wx := H
                    have hK : Hid (∀ (v : Value) (w' : World), v = .bool bz → Sp w0 (rest) w' → K (A.put (some 212) v) w') := Lib.hid hK0
                    clear hK0 hN hS hE
                    change Oper.wp _ _ A wx K _
                    go_step
                    exact hK.out _ _ rfl (H)
                  · intro x wx A rest hN hS hE H K hK0
                    have e212 : A.tmps[212]?.getD undef = .bool bz := ((hS 9 (by decide)).2 212 rfl).trans (hS 9 (by decide)).1
                    replace H : Sp w0 (rest) wx := H
                    have hK : Hid (∀ (v : Value) (w' : World), (fun v => v = .slice (some ⟨v.ownBlock.getD 0, 0, none⟩) 1 1) v → Sp w0 ((Bk (v.ownBlock.getD 0) 4 [.bool bz]) :: rest) w' → K (A.put (some 213) v) w') := Lib.hid hK0
                    clear hK0 hN hS hE
                    change Oper.wp _ _ A wx K _
                    go_step
                    exact hK.out _ _ rfl (H.newBk _ _)
                  · intro x wx A rest hN hS hE H K hK0
                    have e207 : A.tmps[207]?.getD undef = .slice BV zn bc := ((hS 4 (by decide)).2 207 rfl).trans (hS 4 (by decide)).1
                    have q213 := (hS 10 (by decide)).1
                    have e213 : A.tmps[213]?.getD undef = x 10 := (hS 10 (by decide)).2 213 rfl
                    replace H : Sp w0 ((Row 4 1 (.slice BV zn bc) zn (cellsBo Z)) :: (Bk ((x 10).ownBlock.getD 0) 4 [.bool bz]) :: rest) wx := H
                    have hK : Hid (∀ (v : Value) (w' : World), (fun v => ∃ A c, v = .slice A (zn + 1) c) v → Sp w0 ((Row 4 1 v (zn + 1) (cellsBo (Z ++ [bz]))) :: rest) w' → K (A.put (some 214) v) w') := Lib.hid hK0
                    clear hK0 hN hS hE
                    obtain ⟨g9, e9⟩ : ∃ g9, (x 10).ownBlock.getD 0 = g9 := ⟨_, rfl⟩
                    rw [q213] at e213
                    rw [e9] at e213 H
                    change Oper.wp _ _ A wx K _
                    refine wp_append_sp _ _ 73 rfl 4 ib (.bool false) 1 1 Try.underlying73 hbi hb0 hb1 hb2 rfl (by decide) (.slice BV zn bc) zn (cellsBo Z) (ev e207) H (some ⟨g9, 0, none⟩) 1 1 [.bool bz] (ev e213) rfl (Rd.of_blk (H.blk 1 rfl)) (by intro u hu; rw [List.mem_singleton.1 hu]; rfl) (by simp only [maxLen]; omega) (by omega) ?_
                    intro v1 w2 H2 _
                    rw [show cellsBo Z ++ [.bool bz] = cellsBo (Z ++ [bz]) by simp [cellsBo]] at H2
                    obtain ⟨V9, c9, hv9, _, _⟩ := Row.form H2 0 rfl
                    exact hK.out _ _ ⟨V9, c9, hv9⟩ (H2.pick 2 [0])
                  · intro x wx A rest hN hS hE H K hK0
                    have e203 : A.tmps[203]?.getD undef = .pointer (some ⟨gf, 0, none⟩) := ((hS 0 (by decide)).2 203 rfl).trans (hS 0 (by decide)).1
                    replace H : Sp w0 (rest) wx := H
                    have hK : Hid (∀ (v : Value) (w' : World), v = .pointer (some ⟨gf, 0, none⟩) → Sp w0 (rest) w' → K (A.put (some 215) v) w') := Lib.hid hK0
                    clear hK0 hN hS hE
                    change Oper.wp _ _ A wx K _
                    go_step
                    exact hK.out _ _ rfl (H)
                  · intro x wx A rest hN hS hE H K hK0
                    have e215 : A.tmps[215]?.getD undef = .pointer (some ⟨gf, 0, none⟩) := ((hS 12 (by decide)).2 215 rfl).trans (hS 12 (by decide)).1
                    replace H : Sp w0 (rest) wx := H
                    have hK : Hid (∀ (v : Value) (w' : World), v = .pointer (some ⟨gf, 0, none⟩) → Sp w0 (rest) w' → K (A.put (some 216) v) w') := Lib.hid hK0
                    clear hK0 hN hS hE
                    change Oper.wp _ _ A wx K _
                    go_step
                    exact hK.out _ _ rfl (H)
                  · intro x wx A rest hN hS hE H K hK0
                    have e216 : A.tmps[216]?.getD undef = .pointer (some ⟨gf, 0, none⟩) := ((hS 13 (by decide)).2 216 rfl).trans (hS 13 (by decide)).1
                    have q214 := (hS 11 (by decide)).1
                    have e214 : A.tmps[214]?.getD undef = x 11 := (hS 11 (by decide)).2 214 rfl
                    replace H : Sp w0 ((Bk gf 75 [.slice BV zn bc, .int .i64 0]) :: rest) wx := H
                    have hK : Hid (∀ (v : Value) (w' : World), True → Sp w0 ((Bk gf 75 [(x 11), .int .i64 0]) :: rest) w' → K (A.put none v) w') := Lib.hid hK0
                    clear hK0 hN hS hE
                    obtain ⟨V9, c9, e9⟩ := q214
                    rw [e9] at e214
                    have z0 : wx.frozen? ⟨gf, 0, none⟩ = false := H.frozen 0 rfl 0
                    have z1 : wx.cell? ⟨gf, 0, none⟩ = some (.slice BV zn bc) := H.cell 0 rfl 0
                    change Oper.wp _ _ A wx K _
                    go_step
                    refine hK.out (x 11) _ trivial ?_
                    rw [e9]
                    exact H.set 0 _
                case hend =>
                  intro x wx A hA hS H
                  replace H : Sp w0 ((Row 4 1 (x 11) (zn + 1) (cellsBo (Z ++ [bz]))) :: (Bk gf 75 [(x 11), .int .i64 0]) :: Row 3 1 (.slice WB (j + 1) Wd) (j + 1) (cellsN (ws ++ [s])) :: Row 3 1 (.slice (some tl) q Tc) q (cellsN D) :: Row 3 1 vb (PH.rows ls).length (cellsN (PH.rows ls)) :: BkB gb ls vb (mo : Int) :: Row 70 1 (.slice (some ul) i Uc) i (rowU (PH.codeAt ls) i) :: Row 3 1 (.slice (some ll) i Lc) i (cellsN ls) :: Row 3 1 (.slice VA i Vc) i (cellsN cs) :: L) wx := H
                  clear hS
                  simp only [putAll, Act.put, List.setIfInBounds_toArray, List.set_cons_succ, List.set_cons_zero, Nat.reduceAdd] at hA
                  subst hA
                  go_wp2_with fail
                  go_roundw
                  case rel =>
                    refine ⟨k + 1, x 11, by go_num, by omega, ?_⟩
                    rw [HNX.out, show (PH.word ls ws).length + (k + 1) = zn + 1 by rw [← HZN.out]; omega]
                    exact H
                  case measure => first | (simp [intOf]; omega) | simp [intOf]
              · have g1 : ¬ (k : Int) < (ln : Int) := by omega
                obtain rfl : k = ln := by omega
                have hfin : Z = PH.word ls (ws ++ [s]) := by
                  rw [← hZ, PH.word_app, HLN.out, HCD.out, List.take_of_length_le (by rw [PH.bitsC_len]; exact Nat.le_refl _)]
                have hzn2 : zn = (PH.word ls (ws ++ [s])).length := by rw [← hfin, ← hZ, List.length_append, List.length_take, PH.bitsC_len, ← hzn]; omega
                subst hfin hzn2
                clear hZ hzn
                go_wp2_with fail
                go_roundw
                case rel => exact ⟨j + 1, ws ++ [s], _, by go_num, by omega, Lib.hid ⟨by rw [List.length_append, HW.out.1]; rfl, fun z hz => by
                  rcases List.mem_append.1 hz with hz | hz
                  · exact HW.out.2 z hz
                  · rw [List.mem_singleton.1 hz]; exact HSD.out⟩, H.pick 9 [2, 0, 1, 3, 4, 5, 6, 7, 8]⟩
                case measure => first | (simp [intOf]; omega) | simp [intOf]
          · obtain rfl : j = k0 := by omega
            have kx : ¬ ((j : Int) < (bn : Int)) ∨ ((j : Int) < (bn : Int) ∧ ¬ (j : Int) < 100) := by omega
            obtain ⟨W, hW⟩ : ∃ W, PH.word ls ws = W := ⟨_, rfl⟩
            obtain ⟨zn, hzn⟩ : ∃ zn, W.length = zn := ⟨_, rfl⟩
            rw [hW, hzn] at H
            have hzb : zn ≤ 2000 := by
              rw [← hzn, ← hW]
              have := PH.word_len ls HL15.out ws
              rw [HW.out.1] at this
              omega
            have hnw : ∀ k (hk : k < ws.length), PH.nextFrom ls (W.drop (PH.word ls (ws.take k)).length) mo 0 = (ls.getD ws[k] 0, 0, ws[k]) ∧ (PH.word ls (ws.take (k + 1))).length = (PH.word ls (ws.take k)).length + ls.getD ws[k] 0 := fun k hk => by
              rw [← hW]
              exact PH.next_word ls ws k mo hk HSUM.out hm15 fun s hs => by
                have h := (HMEM.out s).1 (HW.out.2 s hs)
                exact ⟨by rw [HLSL.out]; exact h.1, (HIN.out s (by rw [HN.out]; exact h.1)).1 h.2, HLM.out s (by rw [HN.out]; exact h.1)⟩
            have hpre : ∀ k, k ≤ ws.length → (PH.word ls (ws.take k)).length ≤ zn := fun k hk => by
              rw [← hzn, ← hW]
              conv => rhs; rw [← List.take_append_drop k ws]
              unfold PH.word
              rw [List.flatMap_append, List.length_append]
              omega
            have hend : PH.nextFrom ls (W.drop zn) mo 0 = (0, 4, 0) := by
              rw [← hzn, List.drop_length]
              exact PH.next_end ls mo hm1
            have hall : (PH.word ls (ws.take j)).length = zn := by
              rw [List.take_of_length_le (by rw [HW.out.1]; exact Nat.le_refl _), hW, hzn]
            have HNW := Lib.hid hnw
            have HPRE := Lib.hid hpre
            have HEND := Lib.hid hend
            have HALL := Lib.hid hall
            have HZN := Lib.hid hzn.symm
            clear hnw hpre hend hall hW hzn
            rcases kx with kx | ⟨kx, ky⟩
            · go_wp2_with fail
              go_loopw [219] (fun kv wr => ∃ (k : Nat), kv = .int .i64 (k : Int) ∧ k ≤ j ∧ Sp w0 (FeedB gf FA zn Fc (PH.word ls (ws.take k)).length :: Row 3 1 vb (PH.rows ls).length (cellsN (PH.rows ls)) :: BkB gb ls vb (mo : Int) :: Row 3 1 (.slice WA j Wc) j (cellsN ws) :: Row 4 1 (.slice FA zn Fc) zn (cellsBo W) :: Row 3 1 (.slice TA q Tc) q (cellsN D) :: Row 70 1 (.slice UA i Uc) i (rowU (PH.codeAt ls) i) :: Row 3 1 (.slice LA i Lc) i (cellsN ls) :: Row 3 1 (.slice VA i Vc) i (cellsN cs) :: L) wr) (fun kv _ => j - (intOf kv).toNat)
              case atStart => exact ⟨0, rfl, Nat.zero_le _, H.pick 9 [2, 4, 5, 0, 1, 3, 6, 7, 8]⟩
              case round =>
                clear H
                obtain ⟨k, rfl, hkj, H⟩ := hrel
                have hf : Ent (Row 3 1 vb (PH.rows ls).length (cellsN (PH.rows ls)) :: BkB gb ls vb (mo : Int) :: Row 3 1 (.slice WA j Wc) j (cellsN ws) :: Row 4 1 (.slice FA zn Fc) zn (cellsBo W) :: Row 3 1 (.slice TA q Tc) q (cellsN D) :: Row 70 1 (.slice UA i Uc) i (rowU (PH.codeAt ls) i) :: Row 3 1 (.slice LA i Lc) i (cellsN ls) :: Row 3 1 (.slice VA i Vc) i (cellsN cs) :: L) (fun w => Rd w FA (cellsBo W)) := fun _ _ H => by
                  obtain ⟨A9, c9, e9, hr9, _, _⟩ := H.row_rd 3 rfl
                  injection e9 with e9
                  rw [e9]; exact hr9
                have hf2 : Ent (Row 3 1 (.slice WA j Wc) j (cellsN ws) :: Row 4 1 (.slice FA zn Fc) zn (cellsBo W) :: Row 3 1 (.slice TA q Tc) q (cellsN D) :: Row 70 1 (.slice UA i Uc) i (rowU (PH.codeAt ls) i) :: Row 3 1 (.slice LA i Lc) i (cellsN ls) :: Row 3 1 (.slice VA i Vc) i (cellsN cs) :: L) (fun w => Rd w FA (cellsBo W)) := fun _ _ H => by
                  obtain ⟨A9, c9, e9, hr9, _, _⟩ := H.row_rd 1 rfl
                  injection e9 with e9
                  rw [e9]; exact hr9
                by_cases hk9 : k < j
                · have g1 : (k : Int) < (j : Int) := by omega
                  have hkw : k < ws.length := by rw [HW.out.1]; exact hk9
                  obtain ⟨wl, hwl⟩ := rowB_some H 3 rfl (by omega)
                  subst hwl
                  obtain ⟨s, hs⟩ : ∃ s, ws[k] = s := ⟨_, rfl⟩
                  have hcw := rowB_at 3 rfl hkw (x := s) (by rw [List.getD_eq_getElem?_getD, List.getElem?_eq_getElem hkw]; exact hs) _ _ H
                  have hnx := next_ok gb gf vb ls mo FA zn Fc (PH.word ls (ws.take k)).length W H HZN.out hf2 (by omega) (HPRE.out k (by omega)) hm15 HSUM.out (by rw [HLSL.out]; omega)
                  rw [(HNW.out k hkw).1, ← (HNW.out k hkw).2, hs] at hnx
                  have HNX := Lib.hid hnx
                  have g2 : ((s : Int) != (s : Int)) = false := by simp
                  clear hnx hf hf2 hs
                  go_wp2_with fail
                  refine HNX.out.mono ?_
                  rintro _ w8 ⟨rfl, H8⟩
                  clear HNX H hcw
                  go_wp2_with fail
                  go_roundw
                  case rel => exact ⟨k + 1, by go_num, by omega, H8⟩
                  case measure => first | (simp [intOf]; omega) | simp [intOf]
                · have g1 : ¬ (k : Int) < (j : Int) := by omega
                  obtain rfl : k = j := by omega
                  rw [HALL.out] at H
                  have hnx := next_ok gb gf vb ls mo FA zn Fc zn W H HZN.out hf2 (by omega) (Nat.le_refl _) hm15 HSUM.out (by rw [HLSL.out]; omega)
                  rw [HEND.out] at hnx
                  have HNX := Lib.hid hnx
                  clear hnx hf hf2
                  go_wp2_with fail
                  refine HNX.out.mono ?_
                  rintro _ w8 ⟨rfl, H8⟩
                  clear HNX H
                  have g3 : ((zn : Int) == (zn : Int)) = true := by simp
                  go_wp2_with fail
                  refine wp_region_sp (L := FeedB gf FA zn Fc zn :: Row 3 1 vb (PH.rows ls).length (cellsN (PH.rows ls)) :: BkB gb ls vb (mo : Int) :: Row 3 1 (.slice WA k Wc) k (cellsN ws) :: Row 4 1 (.slice FA zn Fc) zn (cellsBo W) :: Row 3 1 (.slice TA q Tc) q (cellsN D) :: Row 70 1 (.slice UA i Uc) i (rowU (PH.codeAt ls) i) :: Row 3 1 (.slice LA i Lc) i (cellsN ls) :: Row 3 1 (.slice VA i Vc) i (cellsN cs) :: L) (fun ix vx => ([(· = .pointer (some ⟨gf, 0, none⟩)), (· = .pointer (some ⟨gf, 0, none⟩)), (· = .pointer (some ⟨gf, 1, none⟩)), (· = .int .i64 (zn : Int)), (· = .pointer (some ⟨gf, 0, none⟩)), (· = .pointer (some ⟨gf, 0, none⟩)), (· = .pointer (some ⟨gf, 0, none⟩)), (· = .slice FA zn Fc), (· = .int .i64 (zn : Int)), (· = .bool true), (· = .bool true), (· = .int .i64 4), (· = .bool true), (· = .bool true), (· = .bool true), (· = .bool true), (· = .bool true), (· = .bool true)] : List (Value → Prop)).getD ix (fun _ => True) vx)
                    (fun ix vx => ([fun _ => [], fun _ => [], fun _ => [], fun _ => [], fun _ => [], fun _ => [], fun _ => [], fun _ => [], fun _ => [], fun _ => [], fun _ => [], fun _ => [], fun _ => [], fun _ => [], fun _ => [], fun _ => [], fun _ => [], fun _ => []] : List (Value → List Pr)).getD ix (fun _ => []) vx) (fun ix => ([[], [], [], [], [], [], [], [], [], [], [], [], [], [], [], [], [], []] : List (List Pr)).getD ix []) 18 262
                    [some 245, some 246, some 247, some 248, some 249, some 250, some 251, some 252, some 253, some 254, some 255, some 256, some 257, some 258, some 259, some 260, some 261, some 4]
                    [[], [0], [1], [2], [], [4], [5], [6], [7], [3, 8], [9], [10], [11, 10], [10, 12], [13, 10], [14, 14], [14, 15], [16, 15, 0, 1, 2, 3, 4, 5, 6, 7, 8, 9, 10, 11, 12, 13, 14, 15, 16]]
                    [[], [0], [0, 1], [0, 1, 2], [], [4], [4, 5], [4, 5, 6], [4, 5, 6, 7], [0, 1, 2, 3, 4, 5, 6, 7, 8], [0, 1, 2, 3, 4, 5, 6, 7, 8, 9], [0, 1, 2, 3, 4, 5, 6, 7, 8, 9, 10], [0, 1, 2, 3, 4, 5, 6, 7, 8, 9, 10, 11], [0, 1, 2, 3, 4, 5, 6, 7, 8, 9, 10, 11, 12], [0, 1, 2, 3, 4, 5, 6, 7, 8, 9, 10, 11, 12, 13], [0, 1, 2, 3, 4, 5, 6, 7, 8, 9, 10, 11, 12, 13, 14], [0, 1, 2, 3, 4, 5, 6, 7, 8, 9, 10, 11, 12, 13, 14, 15], [0, 1, 2, 3, 4, 5, 6, 7, 8, 9, 10, 11, 12, 13, 14, 15, 16]]
                    [[], [], [], [], [], [], [], [], [], [], [], [], [], [], [], [], [], []]
                    [[], [], [], [], [], [], [], [], [], [], [], [], [], [], [], [], [], []]
                    [(18, .pointer (some ⟨gf, 0, none⟩)), (29, .int .i64 4)]
                    (by kernel_rfl) rfl (by decide) (by rfl) rfl (by decide +kernel) (by decide +kernel) (by rfl) rfl rfl (by decide) (by simp) (by rfl) (H8) ?hstep ?hend
                  case hstep =>
                    refine ⟨?_, ⟨?_, ⟨?_, ⟨?_, ⟨?_, ⟨?_, ⟨?_, ⟨?_, ⟨?_, ⟨?_, ⟨?_, ⟨?_, ⟨?_, ⟨?_, ⟨?_, ⟨?_, ⟨?_, ⟨?_, trivial⟩⟩⟩⟩⟩⟩⟩⟩⟩⟩⟩⟩⟩⟩⟩⟩⟩⟩
                    · intro x wx A rest hN hS hE H K hK0
                      have e18 : A.tmps[18]?.getD undef = .pointer (some ⟨gf, 0, none⟩) := hN (18, .pointer (some ⟨gf, 0, none⟩)) (by simp)
                      replace H : Sp w0 (rest) wx := H
                      have hK : Hid (∀ (v : Value) (w' : World), v = .pointer (some ⟨gf, 0, none⟩) → Sp w0 (rest) w' → K (A.put (some 245) v) w') := Lib.hid hK0
                      clear hK0 hN hS hE
                      change Oper.wp _ _ A wx K _
                      go_step
                      exact hK.out _ _ rfl (H)
                    · intro x wx A rest hN hS hE H K hK0
                      have e245 : A.tmps[245]?.getD undef = .pointer (some ⟨gf, 0, none⟩) := ((hS 0 (by decide)).2 245 rfl).trans (hS 0 (by decide)).1
                      replace H : Sp w0 (rest) wx := H
                      have hK : Hid (∀ (v : Value) (w' : World), v = .pointer (some ⟨gf, 0, none⟩) → Sp w0 (rest) w' → K (A.put (some 246) v) w') := Lib.hid hK0
                      clear hK0 hN hS hE
                      change Oper.wp _ _ A wx K _
                      go_step
                      exact hK.out _ _ rfl (H)
                    · intro x wx A rest hN hS hE H K hK0
                      have e246 : A.tmps[246]?.getD undef = .pointer (some ⟨gf, 0, none⟩) := ((hS 1 (by decide)).2 246 rfl).trans (hS 1 (by decide)).1
                      replace H : Sp w0 (rest) wx := H
                      have hK : Hid (∀ (v : Value) (w' : World), v = .pointer (some ⟨gf, 1, none⟩) → Sp w0 (rest) w' → K (A.put (some 247) v) w') := Lib.hid hK0
                      clear hK0 hN hS hE
                      change Oper.wp _ _ A wx K _
                      go_step
                      exact hK.out _ _ rfl (H)
                    · intro x wx A rest hN hS hE H K hK0
                      have e247 : A.tmps[247]?.getD undef = .pointer (some ⟨gf, 1, none⟩) := ((hS 2 (by decide)).2 247 rfl).trans (hS 2 (by decide)).1
                      replace H : Sp w0 (rest) wx := H
                      have hK : Hid (∀ (v : Value) (w' : World), v = .int .i64 (zn : Int) → Sp w0 (rest) w' → K (A.put (some 248) v) w') := Lib.hid hK0
                      clear hK0 hN hS
                      have c1 : wx.cell? ⟨gf, 1, none⟩ = some (.int .i64 (zn : Int)) := hE (fun w => w.cell? ⟨gf, 1, none⟩ = some (.int .i64 (zn : Int))) (fun _ _ H => H.cell 0 rfl 1) _ _ H
                      change Oper.wp _ _ A wx K _
                      go_step
                      exact hK.out _ _ rfl (H)
                    · intro x wx A rest hN hS hE H K hK0
                      have e18 : A.tmps[18]?.getD undef = .pointer (some ⟨gf, 0, none⟩) := hN (18, .pointer (some ⟨gf, 0, none⟩)) (by simp)
                      replace H : Sp w0 (rest) wx := H
                      have hK : Hid (∀ (v : Value) (w' : World), v = .pointer (some ⟨gf, 0, none⟩) → Sp w0 (rest) w' → K (A.put (some 249) v) w') := Lib.hid hK0
                      clear hK0 hN hS hE
                      change Oper.wp _ _ A wx K _
                      go_step
                      exact hK.out _ _ rfl (H)
                    · intro x wx A rest hN hS hE H K hK0
                      have e249 : A.tmps[249]?.getD undef = .pointer (some ⟨gf, 0, none⟩) := ((hS 4 (by decide)).2 249 rfl).trans (hS 4 (by decide)).1
                      replace H : Sp w0 (rest) wx := H
                      have hK : Hid (∀ (v : Value) (w' : World), v = .pointer (some ⟨gf, 0, none⟩) → Sp w0 (rest) w' → K (A.put (some 250) v) w') := Lib.hid hK0
                      clear hK0 hN hS hE
                      change Oper.wp _ _ A wx K _
                      go_step
                      exact hK.out _ _ rfl (H)
                    · intro x wx A rest hN hS hE H K hK0
                      have e250 : A.tmps[250]?.getD undef = .pointer (some ⟨gf, 0, none⟩) := ((hS 5 (by decide)).2 250 rfl).trans (hS 5 (by decide)).1
                      replace H : Sp w0 (rest) wx := H
                      have hK : Hid (∀ (v : Value) (w' : World), v = .pointer (some ⟨gf, 0, none⟩) → Sp w0 (rest) w' → K (A.put (some 251) v) w') := Lib.hid hK0
                      clear hK0 hN hS hE
                      change Oper.wp _ _ A wx K _
                      go_step
                      exact hK.out _ _ rfl (H)
                    · intro x wx A rest hN hS hE H K hK0
                      have e251 : A.tmps[251]?.getD undef = .pointer (some ⟨gf, 0, none⟩) := ((hS 6 (by decide)).2 251 rfl).trans (hS 6 (by decide)).1
                      replace H : Sp w0 (rest) wx := H
                      have hK : Hid (∀ (v : Value) (w' : World), v = .slice FA zn Fc → Sp w0 (rest) w' → K (A.put (some 252) v) w') := Lib.hid hK0
                      clear hK0 hN hS
                      have c0 : wx.cell? ⟨gf, 0, none⟩ = some (.slice FA zn Fc) := hE (fun w => w.cell? ⟨gf, 0, none⟩ = some (.slice FA zn Fc)) (fun _ _ H => H.cell 0 rfl 0) _ _ H
                      change Oper.wp _ _ A wx K _
                      go_step
                      exact hK.out _ _ rfl (H)
                    · intro x wx A rest hN hS hE H K hK0
                      have e252 : A.tmps[252]?.getD undef = .slice FA zn Fc := ((hS 7 (by decide)).2 252 rfl).trans (hS 7 (by decide)).1
                      replace H : Sp w0 (rest) wx := H
                      have hK : Hid (∀ (v : Value) (w' : World), v = .int .i64 (zn : Int) → Sp w0 (rest) w' → K (A.put (some 253) v) w') := Lib.hid hK0
                      clear hK0 hN hS hE
                      change Oper.wp _ _ A wx K _
                      go_step
                      exact hK.out _ _ rfl (H)
                    · intro x wx A rest hN hS hE H K hK0
                      have e248 : A.tmps[248]?.getD undef = .int .i64 (zn : Int) := ((hS 3 (by decide)).2 248 rfl).trans (hS 3 (by decide)).1
                      have e253 : A.tmps[253]?.getD undef = .int .i64 (zn : Int) := ((hS 8 (by decide)).2 253 rfl).trans (hS 8 (by decide)).1
                      replace H : Sp w0 (rest) wx := H
                      have hK : Hid (∀ (v : Value) (w' : World), v = .bool true → Sp w0 (rest) w' → K (A.put (some 254) v) w') := Lib.hid hK0
                      clear hK0 hN hS hE
                      change Oper.wp _ _ A wx K _
                      go_step
                      exact hK.out _ _ rfl (H)
                    · intro x wx A rest hN hS hE H K hK0
                      have e254 : A.tmps[254]?.getD undef = .bool true := ((hS 9 (by decide)).2 254 rfl).trans (hS 9 (by decide)).1
                      replace H : Sp w0 (rest) wx := H
                      have hK : Hid (∀ (v : Value) (w' : World), v = .bool true → Sp w0 (rest) w' → K (A.put (some 255) v) w') := Lib.hid hK0
                      clear hK0 hN hS hE
                      change Oper.wp _ _ A wx K _
                      go_step
                      exact hK.out _ _ rfl (H)
                    · intro x wx A rest hN hS hE H K hK0
                      have e29 : A.tmps[29]?.getD undef = .int .i64 4 := hN (29, .int .i64 4) (by simp)
                      have pg := (hS 10 (by decide)).1
                      replace H : Sp w0 (rest) wx := H
                      have hK : Hid (∀ (v : Value) (w' : World), v = .int .i64 4 → Sp w0 (rest) w' → K (A.put (some 256) v) w') := Lib.hid hK0
                      clear hK0 hN hS hE
                      refine ⟨some true, by rw [pg]; rfl, ?_⟩
                      rw [if_pos rfl]
                      change Oper.wp _ _ A wx K _
                      go_step
                      exact hK.out _ _ rfl (H)
                    · intro x wx A rest hN hS hE H K hK0
                      have e256 : A.tmps[256]?.getD undef = .int .i64 4 := ((hS 11 (by decide)).2 256 rfl).trans (hS 11 (by decide)).1
                      have pg := (hS 10 (by decide)).1
                      replace H : Sp w0 (rest) wx := H
                      have hK : Hid (∀ (v : Value) (w' : World), v = .bool true → Sp w0 (rest) w' → K (A.put (some 257) v) w') := Lib.hid hK0
                      clear hK0 hN hS hE
                      refine ⟨some true, by rw [pg]; rfl, ?_⟩
                      rw [if_pos rfl]
                      change Oper.wp _ _ A wx K _
                      go_step
                      exact hK.out _ _ rfl (H)
                    · intro x wx A rest hN hS hE H K hK0
                      have e255 : A.tmps[255]?.getD undef = .bool true := ((hS 10 (by decide)).2 255 rfl).trans (hS 10 (by decide)).1
                      have e257 : A.tmps[257]?.getD undef = .bool true := ((hS 12 (by decide)).2 257 rfl).trans (hS 12 (by decide)).1
                      replace H : Sp w0 (rest) wx := H
                      have hK : Hid (∀ (v : Value) (w' : World), v = .bool true → Sp w0 (rest) w' → K (A.put (some 258) v) w') := Lib.hid hK0
                      clear hK0 hN hS hE
                      change Oper.wp _ _ A wx K _
                      go_step
                      exact hK.out _ _ rfl (H)
                    · intro x wx A rest hN hS hE H K hK0
                      have e258 : A.tmps[258]?.getD undef = .bool true := ((hS 13 (by decide)).2 258 rfl).trans (hS 13 (by decide)).1
                      replace H : Sp w0 (rest) wx := H
                      have hK : Hid (∀ (v : Value) (w' : World), v = .bool true → Sp w0 (rest) w' → K (A.put (some 259) v) w') := Lib.hid hK0
                      clear hK0 hN hS hE
                      change Oper.wp _ _ A wx K _
                      go_step
                      exact hK.out _ _ rfl (H)
                    · intro x wx A rest hN hS hE H K hK0
                      have pg := (hS 14 (by decide)).1
                      replace H : Sp w0 (rest) wx := H
                      have hK : Hid (∀ (v : Value) (w' : World), v = .bool true → Sp w0 (rest) w' → K (A.put (some 260) v) w') := Lib.hid hK0
                      clear hK0 hN hS hE
                      refine ⟨some true, by rw [pg]; rfl, ?_⟩
                      rw [if_pos rfl]
                      have HT := Lib.hid (tells_ok H)
                      change Oper.wp _ _ A wx K _
                      go_wp2_with fail
                      refine HT.out.mono ?_
                      rintro _ w9 ⟨rfl, H9⟩
                      exact hK.out _ _ rfl H9
                    · intro x wx A rest hN hS hE H K hK0
                      have e259 : A.tmps[259]?.getD undef = .bool true := ((hS 14 (by decide)).2 259 rfl).trans (hS 14 (by decide)).1
                      have e260 : A.tmps[260]?.getD undef = .bool true := ((hS 15 (by decide)).2 260 rfl).trans (hS 15 (by decide)).1
                      replace H : Sp w0 (rest) wx := H
                      have hK : Hid (∀ (v : Value) (w' : World), v = .bool true → Sp w0 (rest) w' → K (A.put (some 261) v) w') := Lib.hid hK0
                      clear hK0 hN hS hE
                      change Oper.wp _ _ A wx K _
                      go_step
                      exact hK.out _ _ rfl (H)
                    · intro x wx A rest hN hS hE H K hK0
                      have e261 : A.tmps[261]?.getD undef = .bool true := ((hS 16 (by decide)).2 261 rfl).trans (hS 16 (by decide)).1
                      replace H : Sp w0 (rest) wx := H
                      have hK : Hid (∀ (v : Value) (w' : World), v = .bool true → Sp w0 (rest) w' → K (A.put (some 4) v) w') := Lib.hid hK0
                      clear hK0 hN hS hE
                      change Oper.wp _ _ A wx K _
                      go_step
                      exact hK.out _ _ rfl (H)
                  case hend =>
                    intro x wx A hA hS H
                    replace H : Sp w0 (FeedB gf FA zn Fc zn :: Row 3 1 vb (PH.rows ls).length (cellsN (PH.rows ls)) :: BkB gb ls vb (mo : Int) :: Row 3 1 (.slice WA k Wc) k (cellsN ws) :: Row 4 1 (.slice FA zn Fc) zn (cellsBo W) :: Row 3 1 (.slice TA q Tc) q (cellsN D) :: Row 70 1 (.slice UA i Uc) i (rowU (PH.codeAt ls) i) :: Row 3 1 (.slice LA i Lc) i (cellsN ls) :: Row 3 1 (.slice VA i Vc) i (cellsN cs) :: L) wx := H
                    have y17 : x 17 = .bool true := hS 17 (by decide)
                    clear hS
                    simp only [putAll, Act.put, List.setIfInBounds_toArray, List.set_cons_succ, List.set_cons_zero, Nat.reduceAdd] at hA
                    subst hA
                    rw [y17]
                    clear y17
                    go_wp2_with fail
                    go_ret
                    exact ⟨rfl, H.pick 9 []⟩
            · go_wp2_with fail
              go_loopw [219] (fun kv wr => ∃ (k : Nat), kv = .int .i64 (k : Int) ∧ k ≤ j ∧ Sp w0 (FeedB gf FA zn Fc (PH.word ls (ws.take k)).length :: Row 3 1 vb (PH.rows ls).length (cellsN (PH.rows ls)) :: BkB gb ls vb (mo : Int) :: Row 3 1 (.slice WA j Wc) j (cellsN ws) :: Row 4 1 (.slice FA zn Fc) zn (cellsBo W) :: Row 3 1 (.slice TA q Tc) q (cellsN D) :: Row 70 1 (.slice UA i Uc) i (rowU (PH.codeAt ls) i) :: Row 3 1 (.slice LA i Lc) i (cellsN ls) :: Row 3 1 (.slice VA i Vc) i (cellsN cs) :: L) wr) (fun kv _ => j - (intOf kv).toNat)
              case atStart => exact ⟨0, rfl, Nat.zero_le _, H.pick 9 [2, 4, 5, 0, 1, 3, 6, 7, 8]⟩
              case round =>
                clear H
                obtain ⟨k, rfl, hkj, H⟩ := hrel
                have hf : Ent (Row 3 1 vb (PH.rows ls).length (cellsN (PH.rows ls)) :: BkB gb ls vb (mo : Int) :: Row 3 1 (.slice WA j Wc) j (cellsN ws) :: Row 4 1 (.slice FA zn Fc) zn (cellsBo W) :: Row 3 1 (.slice TA q Tc) q (cellsN D) :: Row 70 1 (.slice UA i Uc) i (rowU (PH.codeAt ls) i) :: Row 3 1 (.slice LA i Lc) i (cellsN ls) :: Row 3 1 (.slice VA i Vc) i (cellsN cs) :: L) (fun w => Rd w FA (cellsBo W)) := fun _ _ H => by
                  obtain ⟨A9, c9, e9, hr9, _, _⟩ := H.row_rd 3 rfl
                  injection e9 with e9
                  rw [e9]; exact hr9
                have hf2 : Ent (Row 3 1 (.slice WA j Wc) j (cellsN ws) :: Row 4 1 (.slice FA zn Fc) zn (cellsBo W) :: Row 3 1 (.slice TA q Tc) q (cellsN D) :: Row 70 1 (.slice UA i Uc) i (rowU (PH.codeAt ls) i) :: Row 3 1 (.slice LA i Lc) i (cellsN ls) :: Row 3 1 (.slice VA i Vc) i (cellsN cs) :: L) (fun w => Rd w FA (cellsBo W)) := fun _ _ H => by
                  obtain ⟨A9, c9, e9, hr9, _, _⟩ := H.row_rd 1 rfl
                  injection e9 with e9
                  rw [e9]; exact hr9
                by_cases hk9 : k < j
                · have g1 : (k : Int) < (j : Int) := by omega
                  have hkw : k < ws.length := by rw [HW.out.1]; exact hk9
                  obtain ⟨wl, hwl⟩ := rowB_some H 3 rfl (by omega)
                  subst hwl
                  obtain ⟨s, hs⟩ : ∃ s, ws[k] = s := ⟨_, rfl⟩
                  have hcw := rowB_at 3 rfl hkw (x := s) (by rw [List.getD_eq_getElem?_getD, List.getElem?_eq_getElem hkw]; exact hs) _ _ H
                  have hnx := next_ok gb gf vb ls mo FA zn Fc (PH.word ls (ws.take k)).length W H HZN.out hf2 (by omega) (HPRE.out k (by omega)) hm15 HSUM.out (by rw [HLSL.out]; omega)
                  rw [(HNW.out k hkw).1, ← (HNW.out k hkw).2, hs] at hnx
                  have HNX := Lib.hid hnx
                  have g2 : ((s : Int) != (s : Int)) = false := by simp
                  clear hnx hf hf2 hs
                  go_wp2_with fail
                  refine HNX.out.mono ?_
                  rintro _ w8 ⟨rfl, H8⟩
                  clear HNX H hcw
                  go_wp2_with fail
                  go_roundw
                  case rel => exact ⟨k + 1, by go_num, by omega, H8⟩
                  case measure => first | (simp [intOf]; omega) | simp [intOf]
                · have g1 : ¬ (k : Int) < (j : Int) := by omega
                  obtain rfl : k = j := by omega
                  rw [HALL.out] at H
                  have hnx := next_ok gb gf vb ls mo FA zn Fc zn W H HZN.out hf2 (by omega) (Nat.le_refl _) hm15 HSUM.out (by rw [HLSL.out]; omega)
                  rw [HEND.out] at hnx
                  have HNX := Lib.hid hnx
                  clear hnx hf hf2
                  go_wp2_with fail
                  refine HNX.out.mono ?_
                  rintro _ w8 ⟨rfl, H8⟩
                  clear HNX H
                  have g3 : ((zn : Int) == (zn : Int)) = true := by simp
                  go_wp2_with fail
                  refine wp_region_sp (L := FeedB gf FA zn Fc zn :: Row 3 1 vb (PH.rows ls).length (cellsN (PH.rows ls)) :: BkB gb ls vb (mo : Int) :: Row 3 1 (.slice WA k Wc) k (cellsN ws) :: Row 4 1 (.slice FA zn Fc) zn (cellsBo W) :: Row 3 1 (.slice TA q Tc) q (cellsN D) :: Row 70 1 (.slice UA i Uc) i (rowU (PH.codeAt ls) i) :: Row 3 1 (.slice LA i Lc) i (cellsN ls) :: Row 3 1 (.slice VA i Vc) i (cellsN cs) :: L) (fun ix vx => ([(· = .pointer (some ⟨gf, 0, none⟩)), (· = .pointer (some ⟨gf, 0, none⟩)), (· = .pointer (some ⟨gf, 1, none⟩)), (· = .int .i64 (zn : Int)), (· = .pointer (some ⟨gf, 0, none⟩)), (· = .pointer (some ⟨gf, 0, none⟩)), (· = .pointer (some ⟨gf, 0, none⟩)), (· = .slice FA zn Fc), (· = .int .i64 (zn : Int)), (· = .bool true), (· = .bool true), (· = .int .i64 4), (· = .bool true), (· = .bool true), (· = .bool true), (· = .bool true), (· = .bool true), (· = .bool true)] : List (Value → Prop)).getD ix (fun _ => True) vx)
                    (fun ix vx => ([fun _ => [], fun _ => [], fun _ => [], fun _ => [], fun _ => [], fun _ => [], fun _ => [], fun _ => [], fun _ => [], fun _ => [], fun _ => [], fun _ => [], fun _ => [], fun _ => [], fun _ => [], fun _ => [], fun _ => [], fun _ => []] : List (Value → List Pr)).getD ix (fun _ => []) vx) (fun ix => ([[], [], [], [], [], [], [], [], [], [], [], [], [], [], [], [], [], []] : List (List Pr)).getD ix []) 18 262
                    [some 245, some 246, some 247, some 248, some 249, some 250, some 251, some 252, some 253, some 254, some 255, some 256, some 257, some 258, some 259, some 260, some 261, some 4]
                    [[], [0], [1], [2], [], [4], [5], [6], [7], [3, 8], [9], [10], [11, 10], [10, 12], [13, 10], [14, 14], [14, 15], [16, 15, 0, 1, 2, 3, 4, 5, 6, 7, 8, 9, 10, 11, 12, 13, 14, 15, 16]]
                    [[], [0], [0, 1], [0, 1, 2], [], [4], [4, 5], [4, 5, 6], [4, 5, 6, 7], [0, 1, 2, 3, 4, 5, 6, 7, 8], [0, 1, 2, 3, 4, 5, 6, 7, 8, 9], [0, 1, 2, 3, 4, 5, 6, 7, 8, 9, 10], [0, 1, 2, 3, 4, 5, 6, 7, 8, 9, 10, 11], [0, 1, 2, 3, 4, 5, 6, 7, 8, 9, 10, 11, 12], [0, 1, 2, 3, 4, 5, 6, 7, 8, 9, 10, 11, 12, 13], [0, 1, 2, 3, 4, 5, 6, 7, 8, 9, 10, 11, 12, 13, 14], [0, 1, 2, 3, 4, 5, 6, 7, 8, 9, 10, 11, 12, 13, 14, 15], [0, 1, 2, 3, 4, 5, 6, 7, 8, 9, 10, 11, 12, 13, 14, 15, 16]]
                    [[], [], [], [], [], [], [], [], [], [], [], [], [], [], [], [], [], []]
                    [[], [], [], [], [], [], [], [], [], [], [], [], [], [], [], [], [], []]
                    [(18, .pointer (some ⟨gf, 0, none⟩)), (29, .int .i64 4)]
                    (by kernel_rfl) rfl (by decide) (by rfl) rfl (by decide +kernel) (by decide +kernel) (by rfl) rfl rfl (by decide) (by simp) (by rfl) (H8) ?hstep ?hend
                  case hstep =>
                    refine ⟨?_, ⟨?_, ⟨?_, ⟨?_, ⟨?_, ⟨?_, ⟨?_, ⟨?_, ⟨?_, ⟨?_, ⟨?_, ⟨?_, ⟨?_, ⟨?_, ⟨?_, ⟨?_, ⟨?_, ⟨?_, trivial⟩⟩⟩⟩⟩⟩⟩⟩⟩⟩⟩⟩⟩⟩⟩⟩⟩⟩
                    · intro x wx A rest hN hS hE H K hK0
                      have e18 : A.tmps[18]?.getD undef = .pointer (some ⟨gf, 0, none⟩) := hN (18, .pointer (some ⟨gf, 0, none⟩)) (by simp)
                      replace H : Sp w0 (rest) wx := H
                      have hK : Hid (∀ (v : Value) (w' : World), v = .pointer (some ⟨gf, 0, none⟩) → Sp w0 (rest) w' → K (A.put (some 245) v) w') := Lib.hid hK0
                      clear hK0 hN hS hE
                      change Oper.wp _ _ A wx K _
                      go_step
                      exact hK.out _ _ rfl (H)
                    · intro x wx A rest hN hS hE H K hK0
                      have e245 : A.tmps[245]?.getD undef = .pointer (some ⟨gf, 0, none⟩) := ((hS 0 (by decide)).2 245 rfl).trans (hS 0 (by decide)).1
                      replace H : Sp w0 (rest) wx := H
                      have hK : Hid (∀ (v : Value) (w' : World), v = .pointer (some ⟨gf, 0, none⟩) → Sp w0 (rest) w' → K (A.put (some 246) v) w') := Lib.hid hK0
                      clear hK0 hN hS hE
                      change Oper.wp _ _ A wx K _
                      go_step
                      exact hK.out _ _ rfl (H)
                    · intro x wx A rest hN hS hE H K hK0
                      have e246 : A.tmps[246]?.getD undef = .pointer (some ⟨gf, 0, none⟩) := ((hS 1 (by decide)).2 246 rfl).trans (hS 1 (by decide)).1
                      replace H : Sp w0 (rest) wx := H
                      have hK : Hid (∀ (v : Value) (w' : World), v = .pointer (some ⟨gf, 1, none⟩) → Sp w0 (rest) w' → K (A.put (some 247) v) w') := Lib.hid hK0
                      clear hK0 hN hS hE
                      change Oper.wp _ _ A wx K _
                      go_step
                      exact hK.out _ _ rfl (H)
                    · intro x wx A rest hN hS hE H K hK0
                      have e247 : A.tmps[247]?.getD undef = .pointer (some ⟨gf, 1, none⟩) := ((hS 2 (by decide)).2 247 rfl).trans (hS 2 (by decide)).1
                      replace H : Sp w0 (rest) wx := H
                      have hK : Hid (∀ (v : Value) (w' : World), v = .int .i64 (zn : Int) → Sp w0 (rest) w' → K (A.put (some 248) v) w') := Lib.hid hK0
                      clear hK0 hN hS
                      have c1 : wx.cell? ⟨gf, 1, none⟩ = some (.int .i64 (zn : Int)) := hE (fun w => w.cell? ⟨gf, 1, none⟩ = some (.int .i64 (zn : Int))) (fun _ _ H => H.cell 0 rfl 1) _ _ H
                      change Oper.wp _ _ A wx K _
                      go_step
                      exact hK.out _ _ rfl (H)
                    · intro x wx A rest hN hS hE H K hK0
                      have e18 : A.tmps[18]?.getD undef = .pointer (some ⟨gf, 0, none⟩) := hN (18, .pointer (some ⟨gf, 0, none⟩)) (by simp)
                      replace H : Sp w0 (rest) wx := H
                      have hK : Hid (∀ (v : Value) (w' : World), v = .pointer (some ⟨gf, 0, none⟩) → Sp w0 (rest) w' → K (A.put (some 249) v) w') := Lib.hid hK0
                      clear hK0 hN hS hE
                      change Oper.wp _ _ A wx K _
                      go_step
                      exact hK.out _ _ rfl (H)
                    · intro x wx A rest hN hS hE H K hK0
                      have e249 : A.tmps[249]?.getD undef = .pointer (some ⟨gf, 0, none⟩) := ((hS 4 (by decide)).2 249 rfl).trans (hS 4 (by decide)).1
                      replace H : Sp w0 (rest) wx := H
                      have hK : Hid (∀ (v : Value) (w' : World), v = .pointer (some ⟨gf, 0, none⟩) → Sp w0 (rest) w' → K (A.put (some 250) v) w') := Lib.hid hK0
                      clear hK0 hN hS hE
                      change Oper.wp _ _ A wx K _
                      go_step
                      exact hK.out _ _ rfl (H)
                    · intro x wx A rest hN hS hE H K hK0
                      have e250 : A.tmps[250]?.getD undef = .pointer (some ⟨gf, 0, none⟩) := ((hS 5 (by decide)).2 250 rfl).trans (hS 5 (by decide)).1
                      replace H : Sp w0 (rest) wx := H
                      have hK : Hid (∀ (v : Value) (w' : World), v = .pointer (some ⟨gf, 0, none⟩) → Sp w0 (rest) w' → K (A.put (some 251) v) w') := Lib.hid hK0
                      clear hK0 hN hS hE
                      change Oper.wp _ _ A wx K _
                      go_step
                      exact hK.out _ _ rfl (H)
                    · intro x wx A rest hN hS hE H K hK0
                      have e251 : A.tmps[251]?.getD undef = .pointer (some ⟨gf, 0, none⟩) := ((hS 6 (by decide)).2 251 rfl).trans (hS 6 (by decide)).1
                      replace H : Sp w0 (rest) wx := H
                      have hK : Hid (∀ (v : Value) (w' : World), v = .slice FA zn Fc → Sp w0 (rest) w' → K (A.put (some 252) v) w') := Lib.hid hK0
                      clear hK0 hN hS
                      have c0 : wx.cell? ⟨gf, 0, none⟩ = some (.slice FA zn Fc) := hE (fun w => w.cell? ⟨gf, 0, none⟩ = some (.slice FA zn Fc)) (fun _ _ H => H.cell 0 rfl 0) _ _ H
                      change Oper.wp _ _ A wx K _
                      go_step
                      exact hK.out _ _ rfl (H)
                    · intro x wx A rest hN hS hE H K hK0
                      have e252 : A.tmps[252]?.getD undef = .slice FA zn Fc := ((hS 7 (by decide)).2 252 rfl).trans (hS 7 (by decide)).1
                      replace H : Sp w0 (rest) wx := H
                      have hK : Hid (∀ (v : Value) (w' : World), v = .int .i64 (zn : Int) → Sp w0 (rest) w' → K (A.put (some 253) v) w') := Lib.hid hK0
                      clear hK0 hN hS hE
                      change Oper.wp _ _ A wx K _
                      go_step
                      exact hK.out _ _ rfl (H)
                    · intro x wx A rest hN hS hE H K hK0
                      have e248 : A.tmps[248]?.getD undef = .int .i64 (zn : Int) := ((hS 3 (by decide)).2 248 rfl).trans (hS 3 (by decide)).1
                      have e253 : A.tmps[253]?.getD undef = .int .i64 (zn : Int) := ((hS 8 (by decide)).2 253 rfl).trans (hS 8 (by decide)).1
                      replace H : Sp w0 (rest) wx := H
                      have hK : Hid (∀ (v : Value) (w' : World), v = .bool true → Sp w0 (rest) w' → K (A.put (some 254) v) w') := Lib.hid hK0
                      clear hK0 hN hS hE
                      change Oper.wp _ _ A wx K _
                      go_step
                      exact hK.out _ _ rfl (H)
                    · intro x wx A rest hN hS hE H K hK0
                      have e254 : A.tmps[254]?.getD undef = .bool true := ((hS 9 (by decide)).2 254 rfl).trans (hS 9 (by decide)).1
                      replace H : Sp w0 (rest) wx := H
                      have hK : Hid (∀ (v : Value) (w' : World), v = .bool true → Sp w0 (rest) w' → K (A.put (some 255) v) w') := Lib.hid hK0
                      clear hK0 hN hS hE
                      change Oper.wp _ _ A wx K _
                      go_step
                      exact hK.out _ _ rfl (H)
                    · intro x wx A rest hN hS hE H K hK0
                      have e29 : A.tmps[29]?.getD undef = .int .i64 4 := hN (29, .int .i64 4) (by simp)
                      have pg := (hS 10 (by decide)).1
                      replace H : Sp w0 (rest) wx := H
                      have hK : Hid (∀ (v : Value) (w' : World), v = .int .i64 4 → Sp w0 (rest) w' → K (A.put (some 256) v) w') := Lib.hid hK0
                      clear hK0 hN hS hE
                      refine ⟨some true, by rw [pg]; rfl, ?_⟩
                      rw [if_pos rfl]
                      change Oper.wp _ _ A wx K _
                      go_step
                      exact hK.out _ _ rfl (H)
                    · intro x wx A rest hN hS hE H K hK0
                      have e256 : A.tmps[256]?.getD undef = .int .i64 4 := ((hS 11 (by decide)).2 256 rfl).trans (hS 11 (by decide)).1
                      have pg := (hS 10 (by decide)).1
                      replace H : Sp w0 (rest) wx := H
                      have hK : Hid (∀ (v : Value) (w' : World), v = .bool true → Sp w0 (rest) w' → K (A.put (some 257) v) w') := Lib.hid hK0
                      clear hK0 hN hS hE
                      refine ⟨some true, by rw [pg]; rfl, ?_⟩
                      rw [if_pos rfl]
                      change Oper.wp _ _ A wx K _
                      go_step
                      exact hK.out _ _ rfl (H)
                    · intro x wx A rest hN hS hE H K hK0
                      have e255 : A.tmps[255]?.getD undef = .bool true := ((hS 10 (by decide)).2 255 rfl).trans (hS 10 (by decide)).1
                      have e257 : A.tmps[257]?.getD undef = .bool true := ((hS 12 (by decide)).2 257 rfl).trans (hS 12 (by decide)).1
                      replace H : Sp w0 (rest) wx := H
                      have hK : Hid (∀ (v : Value) (w' : World), v = .bool true → Sp w0 (rest) w' → K (A.put (some 258) v) w') := Lib.hid hK0
                      clear hK0 hN hS hE
                      change Oper.wp _ _ A wx K _
                      go_step
                      exact hK.out _ _ rfl (H)
                    · intro x wx A rest hN hS hE H K hK0
                      have e258 : A.tmps[258]?.getD undef = .bool true := ((hS 13 (by decide)).2 258 rfl).trans (hS 13 (by decide)).1
                      replace H : Sp w0 (rest) wx := H
                      have hK : Hid (∀ (v : Value) (w' : World), v = .bool true → Sp w0 (rest) w' → K (A.put (some 259) v) w') := Lib.hid hK0
                      clear hK0 hN hS hE
                      change Oper.wp _ _ A wx K _
                      go_step
                      exact hK.out _ _ rfl (H)
                    · intro x wx A rest hN hS hE H K hK0
                      have pg := (hS 14 (by decide)).1
                      replace H : Sp w0 (rest) wx := H
                      have hK : Hid (∀ (v : Value) (w' : World), v = .bool true → Sp w0 (rest) w' → K (A.put (some 260) v) w') := Lib.hid hK0
                      clear hK0 hN hS hE
                      refine ⟨some true, by rw [pg]; rfl, ?_⟩
                      rw [if_pos rfl]
                      have HT := Lib.hid (tells_ok H)
                      change Oper.wp _ _ A wx K _
                      go_wp2_with fail
                      refine HT.out.mono ?_
                      rintro _ w9 ⟨rfl, H9⟩
                      exact hK.out _ _ rfl H9
                    · intro x wx A rest hN hS hE H K hK0
                      have e259 : A.tmps[259]?.getD undef = .bool true := ((hS 14 (by decide)).2 259 rfl).trans (hS 14 (by decide)).1
                      have e260 : A.tmps[260]?.getD undef = .bool true := ((hS 15 (by decide)).2 260 rfl).trans (hS 15 (by decide)).1
                      replace H : Sp w0 (rest) wx := H
                      have hK : Hid (∀ (v : Value) (w' : World), v = .bool true → Sp w0 (rest) w' → K (A.put (some 261) v) w') := Lib.hid hK0
                      clear hK0 hN hS hE
                      change Oper.wp _ _ A wx K _
                      go_step
                      exact hK.out _ _ rfl (H)
                    · intro x wx A rest hN hS hE H K hK0
                      have e261 : A.tmps[261]?.getD undef = .bool true := ((hS 16 (by decide)).2 261 rfl).trans (hS 16 (by decide)).1
                      replace H : Sp w0 (rest) wx := H
                      have hK : Hid (∀ (v : Value) (w' : World), v = .bool true → Sp w0 (rest) w' → K (A.put (some 4) v) w') := Lib.hid hK0
                      clear hK0 hN hS hE
                      change Oper.wp _ _ A wx K _
                      go_step
                      exact hK.out _ _ rfl (H)
                  case hend =>
                    intro x wx A hA hS H
                    replace H : Sp w0 (FeedB gf FA zn Fc zn :: Row 3 1 vb (PH.rows ls).length (cellsN (PH.rows ls)) :: BkB gb ls vb (mo : Int) :: Row 3 1 (.slice WA k Wc) k (cellsN ws) :: Row 4 1 (.slice FA zn Fc) zn (cellsBo W) :: Row 3 1 (.slice TA q Tc) q (cellsN D) :: Row 70 1 (.slice UA i Uc) i (rowU (PH.codeAt ls) i) :: Row 3 1 (.slice LA i Lc) i (cellsN ls) :: Row 3 1 (.slice VA i Vc) i (cellsN cs) :: L) wx := H
                    have y17 : x 17 = .bool true := hS 17 (by decide)
                    clear hS
                    simp only [putAll, Act.put, List.setIfInBounds_toArray, List.set_cons_succ, List.set_cons_zero, Nat.reduceAdd] at hA
                    subst hA
                    rw [y17]
                    clear y17
                    go_wp2_with fail
                    go_ret
                    exact ⟨rfl, H.pick 9 []⟩
end Go.Proofs.Ytdlbhoedmaifpaa
