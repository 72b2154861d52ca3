/- HuffKnown: the walk of the closed statement. -/
import Derived.Test.YtdlbhoedmaifpaaHuffR
import Derived.Test.YtdlbhoedmaifpaaHuffI
namespace Go.Proofs.Ytdlbhoedmaifpaa
open Go.RowKit
set_option maxRecDepth 100000 in
theorem next_none (f : Value) (w : World) : Calls Try.prog 36 #[.pointer none, f] w fun e w' => e = .returned (.tuple #[.int .i64 0, .int .i64 20]) ∧ w = w' := by
  go_enter Try.func36, Try.ntmps36
  go_wp2
  go_ret2
  exact ⟨rfl, rfl⟩
theorem new_no (A : Option Addr) (n c : Nat) (m : List Nat) {w0 w : World} {L : List Pr} (H : Sp w0 L w) (hn : n = m.length) (hb : Ent L fun w => Rd w A (cells64 (castI m))) (hl : n ≤ 1024) (h15 : ∀ x ∈ m, x ≤ 15) (hm : mayBook m = false) :
    Calls Try.prog 34 #[.slice A n c] w fun e w' => e = .returned (.tuple #[.pointer none, .int .i64 20]) ∧ Sp w0 L w' :=
  (new_ok A n c m H hn hb hl h15).mono fun e w' h => by rw [if_neg (by rw [hm]; decide)] at h; exact h
theorem new_yes (A : Option Addr) (n c : Nat) (m : List Nat) {w0 w : World} {L : List Pr} (H : Sp w0 L w) (hn : n = m.length) (hb : Ent L fun w => Rd w A (cells64 (castI m))) (hl : n ≤ 1024) (h15 : ∀ x ∈ m, x ≤ 15) (hm : mayBook m = true) :
    Calls Try.prog 34 #[.slice A n c] w fun e w' => ∃ g v, e = .returned (.tuple #[.pointer (some ⟨g, 0, none⟩), .int .i64 0]) ∧ Sp w0 (Row 3 1 v (PH.rows m).length (cellsN (PH.rows m)) :: BkB g m v (mostOf m) :: L) w' :=
  (new_ok A n c m H hn hb hl h15).mono fun e w' h => by rw [if_pos hm] at h; exact h
/-- Noughts, of a number that the text says. -/
def zrow (z : Value) (n : Nat) : List Value := List.replicate n z
theorem wpList_makez_sp {P : Program} {w0 w : World} {L : List Pr} {ops : Array Oper} {rest : List Oper} {o : Oper} {a : Act} {Q : Exit → Act → World → Prop} (hg : o.guard = none) (l c : Operand) (t : TypeId) (hop : o.op = Op.makeSlice t l c)
    (e : TypeId) (i : TypeInfo) (z : Value) (h1 : P.underlying t = some (.slice e)) (h2 : P.info? e = some i) (h3 : i.zero = some z) (h4 : i.size = 1) (hz1 : z.cells = #[z])
    (n : Nat) (hl : a.eval l = .int .i64 (n : Int)) (hc : a.eval c = .int .i64 (n : Int)) (b2 : i.bytes * n ≤ 281474976710656) (b3 : n ≤ maxLen) (H : Sp w0 L w)
    (hK : ∀ (ad : Addr) w', Sp w0 (Row e 1 (.slice (some ad) n n) n (zrow z n) :: L) w' → wpList P ops Q rest (a.put o.dst (.slice (some ad) n n)) w') :
    wpList P ops Q (o :: rest) a w := wpList_make_sp hg l c t hop e i z h1 h2 h3 h4 hz1 n hl hc b2 b3 H hK
def fxl (i : Nat) : Nat := if i < 144 then 8 else if i < 256 then 9 else if i < 280 then 7 else 8
def fixedL : List Nat := (List.range 288).map fxl
def fxRow (k : Nat) : List Value := (List.range 288).map fun i => .int .i64 (if i < k then (fxl i : Int) else 0)
theorem fxRow_get (k i : Nat) (h : i < 288) : (fxRow k)[i]? = some (.int .i64 (if i < k then (fxl i : Int) else 0)) := by
  unfold fxRow
  rw [List.getElem?_map, List.getElem?_range h]; rfl
theorem fxRow_set (k : Nat) (v : Int) (hv : v = (fxl k : Int)) : (fxRow k).set k (.int .i64 v) = fxRow (k + 1) := by
  apply List.ext_getElem?
  intro i
  rw [List.getElem?_set]
  by_cases h : i < 288
  · rw [fxRow_get _ _ h, fxRow_get _ _ h]
    by_cases e : k = i
    · subst e
      rw [if_pos rfl, if_pos (by rw [fxRow, List.length_map, List.length_range]; exact h), if_pos (by omega), hv]
    · rw [if_neg e]
      by_cases h2 : i < k
      · rw [if_pos h2, if_pos (by omega)]
      · rw [if_neg h2, if_neg (by omega)]
  · have h1 : (fxRow k)[i]? = none := List.getElem?_eq_none (by rw [fxRow, List.length_map, List.length_range]; omega)
    have h2 : (fxRow (k + 1))[i]? = none := List.getElem?_eq_none (by rw [fxRow, List.length_map, List.length_range]; omega)
    rw [h1, h2]
    split
    · rw [if_neg (by rw [fxRow, List.length_map, List.length_range]; omega)]
    · rfl
theorem fxRow_zero : zrow (Value.int .i64 0) 288 = fxRow 0 := by
  unfold zrow
  apply List.ext_getElem?
  intro i
  by_cases h : i < 288
  · rw [fxRow_get _ _ h, List.getElem?_replicate, if_pos h, if_neg (Nat.not_lt_zero _)]
  · rw [List.getElem?_eq_none (by rw [List.length_replicate]; omega), List.getElem?_eq_none (by rw [fxRow, List.length_map, List.length_range]; omega)]
theorem fxRow_end : fxRow 288 = cells64 (castI fixedL) := by
  unfold fxRow fixedL castI cells64
  rw [List.map_map, List.map_map]
  refine List.map_congr_left fun i hi => ?_
  show Value.int .i64 (if i < 288 then (fxl i : Int) else 0) = _
  rw [if_pos (List.mem_range.1 hi)]; rfl
theorem fixedL_le : ∀ x ∈ fixedL, x ≤ 15 := by decide +kernel
theorem fixedL_sum : PH.sum fixedL = 32768 := by decide +kernel
theorem fixedL_state : PH.state fixedL = 0 := by unfold PH.state; rw [fixedL_sum]; decide
theorem fixedL_len : fixedL.length = 288 := by simp [fixedL]
theorem fixedL_codes : PH.codeAt fixedL 0 = 48 ∧ PH.codeAt fixedL 144 = 400 ∧ PH.codeAt fixedL 256 = 0 ∧ PH.codeAt fixedL 280 = 192 := by decide +kernel
set_option maxRecDepth 100000 in
set_option maxHeartbeats 16000000 in
theorem known_any {w0 w : World} {L : List Pr} (H : Sp w0 L w) :
    Calls Try.prog 13 #[] w fun e w' => e = .returned (.bool true) ∧ Sp w0 L w' := by
  obtain ⟨i1, hj, hj0, hj1, hj2⟩ := info_parts infoJ
  have es : (w.alloc (.cells #[.bool true, .bool true] 4)).heap.size = w.heap.size + 1 := Array.size_push _
  have H1 := ((H.newBk [.bool true, .bool true] 4).newBk [.slice (some ⟨w.heap.size, 0, none⟩) 2 2, .int .i64 0] 75).tail2
  go_enter Try.func13, Try.ntmps13
  go_wp2_with fail
  refine (next_none _ _).mono ?_
  rintro _ _ ⟨rfl, rfl⟩
  generalize (w.alloc _).alloc _ = w1 at H1 ⊢
  clear es
  have H1b := H1.newBk [.int .i64 1, .int .i64 1, .int .i64 1] 3
  have c1 := lengths_bad (some ⟨w1.heap.size, 0, none⟩) 3 3 [1, 1, 1] 1 H1b rfl (fun _ _ H => rd_ints [1, 1, 1] (H.blk 0 rfl) rfl) (by omega) (by decide +kernel)
  have C1 := Lib.hid c1
  clear c1
  go_wp2_with fail
  refine C1.out.mono ?_
  rintro _ w2 ⟨rfl, H2⟩
  replace H2 := H2.tail
  clear C1 H1b H1
  have H2b := H2.newBk [.int .i64 (-1)] 3
  have c1 := lengths_bad (some ⟨w2.heap.size, 0, none⟩) 1 1 [(-1)] 5 H2b rfl (fun _ _ H => rd_ints [(-1)] (H.blk 0 rfl) rfl) (by omega) (by decide +kernel)
  have C1 := Lib.hid c1
  clear c1
  go_wp2_with fail
  refine C1.out.mono ?_
  rintro _ w3 ⟨rfl, H3⟩
  replace H3 := H3.tail
  clear C1 H2b H2
  have H3b := H3.newBk [.int .i64 4294967297] 3
  have c1 := lengths_bad (some ⟨w3.heap.size, 0, none⟩) 1 1 [4294967297] 5 H3b rfl (fun _ _ H => rd_ints [4294967297] (H.blk 0 rfl) rfl) (by omega) (by decide +kernel)
  have C1 := Lib.hid c1
  clear c1
  go_wp2_with fail
  refine C1.out.mono ?_
  rintro _ w4 ⟨rfl, H4⟩
  replace H4 := H4.tail
  clear C1 H3b H3
  have hb25 : PL.may (List.replicate 1025 0) 5 = false := by
    unfold PL.may
    rw [List.length_replicate, decide_eq_false (by omega : ¬ 1025 ≤ 1024)]; rfl
  have HB25 := Lib.hid hb25
  clear hb25
  go_wp2_with (at_make; refine wpList_make_sp rfl _ _ _ rfl 3 i1 (.int .i64 0) Try.underlying52 hj hj0 hj1 rfl 1025 rfl rfl (by rw [hj2]; omega) (by unfold maxLen; omega) H4 ?_)
  intro ad25 w25 H25
  have c1 := lengths_bad (some ad25) 1025 1025 (List.replicate 1025 0) 5 H25 (by rw [List.length_replicate]) (fun _ _ H => by
    obtain ⟨A9, c9, e9, hr9, _, _⟩ := H.row_rd 0 rfl
    injection e9 with e9
    have e : cells64 (List.replicate 1025 0) = List.replicate 1025 (Value.int .i64 0) := by unfold cells64; rw [List.map_replicate]
    rw [e9, e]; exact hr9) (by omega) HB25.out
  have C1 := Lib.hid c1
  clear c1 HB25
  go_wp2_with fail
  refine C1.out.mono ?_
  rintro _ w5 ⟨rfl, H5⟩
  replace H5 := H5.tail
  clear C1 H25 H4
  have c1 := lengths_bad none 0 0 [] 0 H5 rfl (fun _ _ _ => Rd.nil) (by omega) (by decide +kernel)
  have C1 := Lib.hid c1
  clear c1
  go_wp2_with fail
  refine C1.out.mono ?_
  rintro _ w6 ⟨rfl, H6⟩
  clear C1 H5
  have c1 := lengths_bad none 0 0 [] 16 H6 rfl (fun _ _ _ => Rd.nil) (by omega) (by decide +kernel)
  have C1 := Lib.hid c1
  clear c1
  go_wp2_with fail
  refine C1.out.mono ?_
  rintro _ w7 ⟨rfl, H7⟩
  clear C1 H6
  have e1 : PL.lens [0, 9, 0] 1 = [0, 1, 0] := by decide +kernel
  have H7b := H7.newBk [.int .i64 0, .int .i64 9, .int .i64 0] 3
  have c1 := lengths_ok (some ⟨w7.heap.size, 0, none⟩) 3 3 [0, 9, 0] 1 H7b rfl (fun _ _ H => rd_ints (castN [0, 9, 0]) (H.blk 0 rfl) rfl) (by omega) (by omega) (by omega) (by decide) (by decide)
  rw [e1] at c1
  have C1 := Lib.hid c1
  clear c1 e1
  go_wp2_with fail
  refine C1.out.mono ?_
  rintro _ w8 ⟨vh, rfl, H8⟩
  replace H8 : Sp w0 (Row 3 1 vh 3 (cellsN [0, 1, 0]) :: L) w8 := H8.pick 2 [0]
  obtain ⟨Ah, ch, hvh, _, _⟩ := Row.form H8 0 rfl
  subst hvh
  clear C1 H7b H7
  have H8b := H8.newBk [.int .i64 16] 3
  have c1 := state_bad (some ⟨w8.heap.size, 0, none⟩) 1 1 [16] H8b rfl (fun _ _ H => rd_ints [16] (H.blk 0 rfl) rfl) (by omega) (by decide +kernel)
  have C1 := Lib.hid c1
  clear c1
  go_wp2_with fail
  refine C1.out.mono ?_
  rintro _ w9 ⟨rfl, H9⟩
  replace H9 := H9.tail
  clear C1 H8b H8
  have H9b := H9.newBk [.int .i64 (-1)] 3
  have c1 := new_bad (some ⟨w9.heap.size, 0, none⟩) 1 1 [(-1)] H9b rfl (fun _ _ H => rd_ints [(-1)] (H.blk 0 rfl) rfl) (by omega) (by decide +kernel)
  have C1 := Lib.hid c1
  clear c1
  go_wp2_with fail
  refine C1.out.mono ?_
  rintro _ w10 ⟨rfl, H10⟩
  replace H10 := H10.tail
  clear C1 H9b H9
  have H10b := H10.newBk [.int .i64 1, .int .i64 1, .int .i64 1] 3
  have c1 := new_no (some ⟨w10.heap.size, 0, none⟩) 3 3 [1, 1, 1] H10b rfl (fun _ _ H => rd_ints (castI [1, 1, 1]) (H.blk 0 rfl) rfl) (by omega) (by decide) (by decide +kernel)
  have C1 := Lib.hid c1
  clear c1
  go_wp2_with fail
  refine C1.out.mono ?_
  rintro _ w11 ⟨rfl, H11⟩
  replace H11 := H11.tail
  clear C1 H10b H10
  have H11b := H11.newBk [.int .i64 2] 3
  have c1 := new_no (some ⟨w11.heap.size, 0, none⟩) 1 1 [2] H11b rfl (fun _ _ H => rd_ints (castI [2]) (H.blk 0 rfl) rfl) (by omega) (by decide) (by decide +kernel)
  have C1 := Lib.hid c1
  clear c1
  go_wp2_with fail
  refine C1.out.mono ?_
  rintro _ w12 ⟨rfl, H12⟩
  replace H12 := H12.tail
  clear C1 H11b H11
  have H12b := H12.newBk [.int .i64 1, .int .i64 2] 3
  have c1 := new_no (some ⟨w12.heap.size, 0, none⟩) 2 2 [1, 2] H12b rfl (fun _ _ H => rd_ints (castI [1, 2]) (H.blk 0 rfl) rfl) (by omega) (by decide) (by decide +kernel)
  have C1 := Lib.hid c1
  clear c1
  go_wp2_with fail
  refine C1.out.mono ?_
  rintro _ w13 ⟨rfl, H13⟩
  replace H13 := H13.tail
  clear C1 H12b H12
  go_wp2_with (at_make; refine wpList_makez_sp rfl _ _ _ rfl 3 i1 (.int .i64 0) Try.underlying52 hj hj0 hj1 rfl 288 rfl rfl (by rw [hj2]; omega) (by unfold maxLen; omega) H13 ?_)
  intro ad w30 H30
  rw [fxRow_zero] at H30
  clear H13
  go_wp2_with fail
  go_loopw [106] (fun iv wr => ∃ (i : Nat), iv = .int .i64 (i : Int) ∧ i ≤ 288 ∧ Sp w0 (Row 3 1 (.slice (some ad) 288 288) 288 (fxRow i) :: Row 3 1 (.slice Ah 3 ch) 3 (cellsN [0, 1, 0]) :: L) wr) (fun iv _ => 288 - (intOf iv).toNat)
  case atStart => exact ⟨0, rfl, Nat.zero_le _, H30⟩
  case round =>
    clear H30
    obtain ⟨i, rfl, hi, H⟩ := hrel
    by_cases hlt : i < 288
    · have k1 : (i : Int) < 288 := by omega
      obtain ⟨ad2, c2, ev, _, hc, hz, hset⟩ := H.rowSet hlt
      injection ev with ev ev2 ev3
      injection ev with ev
      subst ev
      clear ev2 ev3
      rw [fxRow_get _ _ hlt, if_neg (Nat.lt_irrefl _)] at hc
      by_cases q1 : i < 144
      · have q1i : (i : Int) < 144 := by omega
        have hst := hset (.int .i64 8)
        rw [fxRow_set i 8 (by unfold fxl; rw [if_pos q1]; rfl)] at hst
        have HST := Lib.hid hst
        clear hst hset
        go_wp2_with fail
        go_roundw
        case rel => exact ⟨i + 1, by go_num, by omega, HST.out⟩
        case measure => first | (simp [intOf]; omega) | simp [intOf]
      · have q1i : ¬ (i : Int) < 144 := by omega
        by_cases q2 : i < 256
        · have q2i : (i : Int) < 256 := by omega
          have hst := hset (.int .i64 9)
          rw [fxRow_set i 9 (by unfold fxl; rw [if_neg q1, if_pos q2]; rfl)] at hst
          have HST := Lib.hid hst
          clear hst hset
          go_wp2_with fail
          go_roundw
          case rel => exact ⟨i + 1, by go_num, by omega, HST.out⟩
          case measure => first | (simp [intOf]; omega) | simp [intOf]
        · have q2i : ¬ (i : Int) < 256 := by omega
          by_cases q3 : i < 280
          · have q3i : (i : Int) < 280 := by omega
            have hst := hset (.int .i64 7)
            rw [fxRow_set i 7 (by unfold fxl; rw [if_neg q1, if_neg q2, if_pos q3]; rfl)] at hst
            have HST := Lib.hid hst
            clear hst hset
            go_wp2_with fail
            go_roundw
            case rel => exact ⟨i + 1, by go_num, by omega, HST.out⟩
            case measure => first | (simp [intOf]; omega) | simp [intOf]
          · have q3i : ¬ (i : Int) < 280 := by omega
            have hst := hset (.int .i64 8)
            rw [fxRow_set i 8 (by unfold fxl; rw [if_neg q1, if_neg q2, if_neg q3]; rfl)] at hst
            have HST := Lib.hid hst
            clear hst hset
            go_wp2_with fail
            go_roundw
            case rel => exact ⟨i + 1, by go_num, by omega, HST.out⟩
            case measure => first | (simp [intOf]; omega) | simp [intOf]
    · have k1 : ¬ (i : Int) < 288 := by omega
      obtain rfl : i = 288 := by omega
      rw [fxRow_end] at H
      have hent : ∀ (M : List Pr) (j : Nat), M[j]? = some (Row 3 1 (.slice (some ad) 288 288) 288 (cells64 (castI fixedL))) → Ent M fun w => Rd w (some ad) (cells64 (castI fixedL)) := fun M j hj => fun _ _ H => by
        obtain ⟨A9, c9, e9, hr9, _, _⟩ := H.row_rd j hj
        injection e9 with e9
        rw [e9]; exact hr9
      have c1 := codes_ok (some ad) 288 288 fixedL H fixedL_len.symm (hent _ 0 rfl) (by omega) fixedL_le (by rw [fixedL_sum]; exact Nat.le_refl _)
      have C1 := Lib.hid c1
      have HE := Lib.hid hent
      clear c1 hent
      go_wp2_with fail
      refine C1.out.mono ?_
      rintro _ w31 ⟨vc, rfl, H31⟩
      clear C1 H
      obtain ⟨Ac, cc, hvc, hrc, _, _⟩ := H31.row_rd 0 rfl
      subst hvc
      obtain ⟨ac, hac, _⟩ := hrc (by intro h; have := congrArg List.length h; simp [rowU] at this)
      subst hac
      clear hrc
      have c1 := state_ok (some ad) 288 288 fixedL H31 fixedL_len.symm (HE.out _ 1 rfl) (by omega) fixedL_le
      rw [fixedL_state] at c1
      have C1 := Lib.hid c1
      clear c1 HE
      go_wp2_with fail
      refine C1.out.mono ?_
      rintro _ w32 ⟨rfl, H32⟩
      clear C1 H31
      have c1 := state_ok none 0 0 [] H32 rfl (fun _ _ _ => Rd.nil) (by omega) (by decide)
      rw [show PH.state [] = -1 by decide +kernel] at c1
      have C1 := Lib.hid c1
      clear c1
      go_wp2_with fail
      refine C1.out.mono ?_
      rintro _ w33 ⟨rfl, H33⟩
      clear C1 H32
      have H34 := H33.newBk [.int .i64 0, .int .i64 1, .int .i64 0] 3
      have c1 := ints_ok Ah (some ⟨w33.heap.size, 0, none⟩) 3 ch 3 3 (castN [0, 1, 0]) [0, 1, 0] H34 rfl rfl (rowN_rd 3 rfl) (fun _ _ H => rd_ints [0, 1, 0] (H.blk 0 rfl) rfl) (by omega)
      rw [show decide (castN [0, 1, 0] = [0, 1, 0]) = true by decide] at c1
      have C1 := Lib.hid c1
      clear c1 H33
      go_wp2_with fail
      refine C1.out.mono ?_
      rintro _ w35 ⟨rfl, H35⟩
      clear C1 H34
      obtain ⟨A9, c9, e9, hr9, _, _⟩ := H35.row_rd 1 rfl
      injection e9 with e9 e10 e11
      obtain ⟨a9, ha9, hc9⟩ := hr9 (by intro h; have := congrArg List.length h; simp [rowU] at this)
      rw [← e9] at ha9
      injection ha9 with ha9
      subst ha9
      obtain ⟨f0, f1, f2, f3⟩ := fixedL_codes
      have d0 : w35.cell? ac = some (.int .u32 48) := by
        have h := hc9 0 _ (rowU_get _ _ _ (by omega))
        rw [f0] at h; exact h
      have d1 : w35.cell? ⟨ac.block, ac.off + 144, none⟩ = some (.int .u32 400) := by
        have h := hc9 144 _ (rowU_get _ _ _ (by omega))
        rw [f1] at h; exact h
      have d2 : w35.cell? ⟨ac.block, ac.off + 256, none⟩ = some (.int .u32 0) := by
        have h := hc9 256 _ (rowU_get _ _ _ (by omega))
        rw [f2] at h; exact h
      have d3 : w35.cell? ⟨ac.block, ac.off + 280, none⟩ = some (.int .u32 192) := by
        have h := hc9 280 _ (rowU_get _ _ _ (by omega))
        rw [f3] at h; exact h
      have t1 := fun w => turned_any 6 3 3 w (by decide) (by decide)
      have t2 := fun w => turned_any 1 32 32 w (by decide) (by decide)
      have t3 := fun w => turned_any 9 0 (-4) w (by decide) (by decide)
      rw [show PBits.rev 6 3 = 3 by decide +kernel] at t1
      rw [show PBits.rev 1 32 = 2147483648 by decide +kernel] at t2
      rw [show PBits.rev 9 0 = 0 by decide +kernel] at t3
      have T1 := Lib.hid t1
      have T2 := Lib.hid t2
      have T3 := Lib.hid t3
      have HT := Lib.hid (tells_ok H35)
      clear hr9 hc9 e9 e10 e11 f0 f1 f2 f3 t1 t2 t3
      go_wp2_with fail
      refine (T1.out _).mono ?_
      rintro _ _ ⟨rfl, rfl⟩
      go_wp2_with fail
      refine (T2.out _).mono ?_
      rintro _ _ ⟨rfl, rfl⟩
      go_wp2_with fail
      refine (T3.out _).mono ?_
      rintro _ _ ⟨rfl, rfl⟩
      clear T1 T2 T3
      go_wp2_with fail
      refine HT.out.mono ?_
      rintro _ w40 ⟨rfl, H40⟩
      go_wp2_with fail
      go_ret
      exact ⟨rfl, H40.pick 4 []⟩
end Go.Proofs.Ytdlbhoedmaifpaa