/- MatchY: Expand. -/
import Derived.Test.YtdlbhoedmaifpaaMatchX
namespace Go.Proofs.Ytdlbhoedmaifpaa
open Go.RowKit Go.MapKept
namespace PM
theorem mays_at (Y : List St) (m i : Nat) (h : mays Y m) (hi : i < Y.length) : fits (Y[i]'hi) (m + size (Y.take i)) := by
  induction Y generalizing m i with
  | nil => exact absurd hi (Nat.not_lt_zero _)
  | cons s Y ih =>
    cases i with
    | zero => exact h.1
    | succ i =>
      have hi2 : i < Y.length := by simpa using hi
      have := ih (m + made s) i h.2 hi2
      show fits (Y[i]'hi2) (m + (made s + size (Y.take i)))
      rwa [← Nat.add_assoc]
theorem size_append (a b : List St) : size (a ++ b) = size a + size b := by
  induction a with
  | nil => exact (Nat.zero_add _).symm
  | cons s a ih => show made s + size (a ++ b) = made s + size a + size b; rw [ih, Nat.add_assoc]
theorem size_take (Y : List St) (i : Nat) : size (Y.take i) ≤ size Y := by
  have := size_append (Y.take i) (Y.drop i)
  rw [List.take_append_drop] at this
  omega
end PM
theorem cells8_append (a b : List UInt8) : cells8 (a ++ b) = cells8 a ++ cells8 b := List.map_append
set_option maxRecDepth 100000 in
theorem expand_bad (V : Option Addr) (n c : Nat) (X : List StI) (cap : Int) {w0 w : World} {L : List Pr} (H : Sp w0 L w) (hn : n = X.length) (hnm : n ≤ 1000000) (h : Ent L (fun w => StI_ w V X)) (hbad : cap < 0 ∨ mayI X 0 = false) :
    Calls Try.prog 22 #[.slice V n c, .int .i64 cap] w fun e w' => e = .returned (.tuple #[.slice none 0 0, .int .i64 1]) ∧ Sp w0 L w' := by
  have HN := Lib.hid hn
  have HX := Lib.hid h
  clear hn h
  by_cases hc : cap < 0
  · clear hbad
    go_enter Try.func22, Try.ntmps22
    go_wp2_with fail
    go_ret2
    exact ⟨rfl, H⟩
  · have hm : mayI X 0 = false := hbad.resolve_left hc
    have hcm := may_ok V n c X H HN.out hnm HX.out
    rw [hm] at hcm
    clear hm hbad
    go_enter Try.func22, Try.ntmps22
    go_wp2_with fail
    refine hcm.mono ?_
    rintro _ w1 ⟨rfl, H1⟩
    clear hcm
    go_wp2_with fail
    go_ret2
    exact ⟨rfl, H1⟩
set_option maxRecDepth 100000 in
theorem expand_cap (V : Option Addr) (n c : Nat) (X : List StI) (cap : Int) {w0 w : World} {L : List Pr} (H : Sp w0 L w) (hn : n = X.length) (hnm : n ≤ 1000000) (h : Ent L (fun w => StI_ w V X)) (hc : ¬ cap < 0) (hm : mayI X 0 = true) (hb : ∀ s ∈ X, s.1 ≤ 1000000) (hs : cap < sizeI X) :
    Calls Try.prog 22 #[.slice V n c, .int .i64 cap] w fun e w' => e = .returned (.tuple #[.slice none 0 0, .int .i64 22]) ∧ Sp w0 L w' := by
  have HN := Lib.hid hn
  have HX := Lib.hid h
  clear hn h
  have hcm := may_ok V n c X H HN.out hnm HX.out
  rw [hm] at hcm
  clear hm
  go_enter Try.func22, Try.ntmps22
  go_wp2_with fail
  refine hcm.mono ?_
  rintro _ w1 ⟨rfl, H1⟩
  clear hcm
  go_wp2_with fail
  refine (size_ok V n c X H1 HN.out hnm hb HX.out).mono ?_
  rintro _ w2 ⟨rfl, H2⟩
  go_wp2_with fail
  go_ret2
  exact ⟨rfl, H2⟩
set_option maxRecDepth 100000 in
set_option maxHeartbeats 4000000 in
theorem expand_ok (V : Option Addr) (n c : Nat) (Y : List PM.St) (cap : Int) {w0 w : World} {L : List Pr} (H : Sp w0 L w) (hn : n = Y.length) (hnm : n ≤ 1000000) (h : Ent L (fun w => StAt w V Y)) (hm : PM.mays Y 0) (hs : (PM.size Y : Int) ≤ cap) (hsm : PM.size Y ≤ 1000000) :
    Calls Try.prog 22 #[.slice V n c, .int .i64 cap] w fun e w' => ∃ v, e = .returned (.tuple #[v, .int .i64 0]) ∧ Sp w0 (Row 5 1 v (PM.expand Y []).length (cells8 (PM.expand Y [])) :: L) w' := by
  obtain ⟨i0, hi0, hz0, hz1, hz2⟩ := info_parts info8
  have hXI : Ent L (fun w => StI_ w V (Y.map toI)) := h.mono fun w h => h.toI
  have hbd : ∀ s ∈ Y.map toI, s.1 ≤ 1000000 := by
    intro s hs
    obtain ⟨t, ht, rfl⟩ := List.mem_map.1 hs
    obtain ⟨i, hi, rfl⟩ := List.getElem_of_mem ht
    have := PM.mays_at Y 0 i hm hi
    show ((Y[i].1 : Nat) : Int) ≤ 1000000
    rcases this with h | h
    · rw [h.1]; omega
    · have := h.2.1; omega
  have hcm := may_ok V n c (Y.map toI) H (by rw [List.length_map]; exact hn) hnm hXI
  rw [show mayI (Y.map toI) 0 = true from mayI_map Y 0 hm] at hcm
  have hcs := fun (w : World) (H : Sp w0 L w) => size_ok V n c (Y.map toI) H (by rw [List.length_map]; exact hn) hnm hbd hXI
  rw [sizeI_map] at hcs
  have HN := Lib.hid hn
  have HY := Lib.hid h
  have HM := Lib.hid hm
  have HCS := Lib.hid hcs
  obtain ⟨z0, hz⟩ : ∃ z, PM.size Y = z := ⟨_, rfl⟩
  rw [hz] at hs hsm HCS
  have HZ := Lib.hid hz
  have k0 : ¬ cap < 0 := by omega
  have k1 : ¬ cap < (z0 : Int) := by omega
  clear hn h hm hcs hz hXI hbd
  go_enter Try.func22, Try.ntmps22
  go_wp2_with fail
  refine hcm.mono ?_
  rintro _ w1 ⟨rfl, H1⟩
  clear hcm
  go_wp2_with fail
  refine (HCS.out _ H1).mono ?_
  rintro _ w2 ⟨rfl, H2⟩
  go_wp2_with fail
  clear HCS H1 H
  go_loopw [6, 24] (fun bv iv wr => ∃ (i : Nat) (V6 : Option Addr) (c6 : Nat) (b : List UInt8), iv = .int .i64 (i : Int) ∧ bv = .slice V6 b.length c6 ∧ i ≤ n ∧ PM.expand (Y.take i) [] = b ∧ Sp w0 (Row 5 1 (.slice V6 b.length c6) b.length (cells8 b) :: L) wr) (fun _ iv _ => n - (intOf iv).toNat)
  case atStart => exact ⟨0, none, 0, [], rfl, rfl, Nat.zero_le _, rfl, H2.rowNil _ _⟩
  case round =>
    obtain ⟨i, V6, c6, b, rfl, rfl, hin, hb, H⟩ := hrel
    by_cases hi : i < n
    · have k2 : (i : Int) < (n : Int) := by omega
      have hiY : i < Y.length := by rw [← HN.out]; exact hi
      obtain ⟨ad, rfl, p0, p1, p2⟩ := HY.out _ _ H.tail i hiY
      have hfit := PM.mays_at Y 0 i HM.out hiY
      have hbl : b.length = PM.size (Y.take i) := by rw [← hb, PM.expand_length]; exact Nat.zero_add _
      rw [Nat.zero_add, ← hbl] at hfit
      have hexp : PM.expand (Y.take (i + 1)) [] = PM.step Y[i] b := by
        rw [List.take_succ_eq_append_getElem hiY, PM.expand_append, hb]; rfl
      have hszb : b.length + PM.made Y[i] ≤ z0 := by
        have h1 := PM.size_take Y (i + 1)
        rw [List.take_succ_eq_append_getElem hiY, PM.size_append, HZ.out] at h1
        have : PM.size [Y[i]] = PM.made Y[i] := Nat.add_zero _
        rw [this] at h1
        omega
      obtain ⟨x, hx⟩ : ∃ x, Y[i].1 = x := ⟨_, rfl⟩
      obtain ⟨y, hy⟩ : ∃ y, Y[i].2.1 = y := ⟨_, rfl⟩
      obtain ⟨z, hz⟩ : ∃ z, Y[i].2.2 = z := ⟨_, rfl⟩
      have hYi : Y[i] = (x, y, z) := by rw [← hx, ← hy, ← hz]
      rw [hx] at p0
      rw [hy] at p1
      rw [hz] at p2
      rw [hYi] at hexp hfit hszb
      have HEXP := Lib.hid hexp
      have HB := Lib.hid hb
      clear hexp hx hy hz hYi hb hbl
      replace hszb : b.length + max x 1 ≤ z0 := hszb
      have t0 : ∀ o, (wr.alloc o).cell? (ad.add (i * 3)) = some (.int .i64 (x : Int)) := fun o => by rw [cell_alloc_old o p0]; exact p0
      by_cases hx0 : x = 0
      · have hy0 : y = 0 := by
          rcases hfit with h | h
          · exact h.2
          · have : 3 ≤ x := h.1
            omega
        subst hx0 hy0
        have q0 : wr.cell? (ad.add (i * 3)) = some (.int .i64 0) := p0
        have q1 : wr.cell? ⟨(ad.add (i * 3)).block, (ad.add (i * 3)).off + 1, none⟩ = some (.int .i64 0) := p1
        have es : (wr.alloc (.cells #[.int .i64 0, .int .i64 0, .int .u8 (z.toNat : Int)] 25)).heap.size = wr.heap.size + 1 := Array.size_push _
        have hr9 : Rd ((wr.alloc (.cells #[.int .i64 0, .int .i64 0, .int .u8 (z.toNat : Int)] 25)).alloc (.cells #[.int .u8 (z.toNat : Int)] 5)) (some ⟨wr.heap.size + 1, 0, none⟩) [.int .u8 (z.toNat : Int)] := by
          have := Rd.of_blk (Blk.new (wr.alloc (.cells #[.int .i64 0, .int .i64 0, .int .u8 (z.toNat : Int)] 25)) 5 [.int .u8 (z.toNat : Int)])
          rwa [es] at this
        have h9 := ((H.newBk [.int .i64 0, .int .i64 0, .int .u8 (z.toNat : Int)] 25).alloc (.cells #[.int .u8 (z.toNat : Int)] 5)).swap
        have HR9 := Lib.hid hr9
        have HH9 := Lib.hid h9
        have hb1 : b.length + 1 ≤ 1000000 := by omega
        clear t0 p0 p1 hr9 h9 es
        go_wp2_with (at_builtin; refine wpList_append_sp rfl _ _ 22 rfl 5 i0 (.int .u8 0) 1 1 Try.underlying22 hi0 hz0 hz1 hz2 rfl (by decide) (.slice V6 b.length c6) b.length (cells8 b) rfl HH9.out (some ⟨wr.heap.size + 1, 0, none⟩) 1 1 [.int .u8 (z.toNat : Int)] rfl rfl HR9.out (by intro u hu; rw [List.mem_singleton.1 hu]; rfl) (by simp only [maxLen]; omega) (by omega) ?_)
        intro v5 w5 H5 _
        clear HR9 HH9
        obtain ⟨V5, c5, rfl, _, _⟩ := Row.form H5 0 rfl
        generalize wr.heap.size = s at H5 ⊢
        have t0 : w5.cell? ⟨s, 0, none⟩ = some (.int .i64 0) := H5.cell 1 rfl 0
        rw [show cells8 b ++ [.int .u8 (z.toNat : Int)] = cells8 (b ++ [z]) from (cells8_append b [z]).symm] at H5
        go_wp2_with fail
        go_loopw [6, 38] (fun bv kv wr => bv = .slice V5 (b.length + 1) c5 ∧ kv = .int .i64 0 ∧ Sp w0 (Row 5 1 (.slice V5 (b.length + 1) c5) (b.length + 1) (cells8 (b ++ [z])) :: L) wr) (fun _ _ _ => 0)
        case atStart => exact ⟨rfl, rfl, H5.pick 2 [0]⟩
        case round =>
          obtain ⟨rfl, rfl, H6⟩ := hrel
          go_wp2_with fail
          go_roundw
          case rel =>
            refine ⟨i + 1, V5, c5, b ++ [z], by go_num, by rw [List.length_append]; rfl, by omega, HEXP.out, ?_⟩
            rw [List.length_append]
            exact H6
          case measure => first | (simp [intOf]; omega) | simp [intOf]
      · have hf : 3 ≤ x ∧ x ≤ 258 ∧ 1 ≤ y ∧ y ≤ 32768 ∧ y ≤ b.length ∧ z = 0 := by
          rcases hfit with h | h
          · exact absurd h.1 hx0
          · exact h
        obtain ⟨f1, f2, f3, f4, f5, rfl⟩ := hf
        have k3 : ((x : Int) == 0) = false := by
          rw [beq_eq_false_iff_ne]; omega
        have q2 : wr.cell? ⟨(ad.add (i * 3)).block, (ad.add (i * 3)).off + 2, none⟩ = some (.int .u8 0) := p2
        have h9 := (H.newBk [.int .i64 (x : Int), .int .i64 (y : Int), .int .u8 0] 25).swap
        clear t0 p2 hfit
        go_wp2_with fail
        generalize wr.heap.size = s at h9 ⊢
        generalize wr.alloc _ = w5 at h9 ⊢
        clear p0 p1 q2
        have hstep : PM.step (x, y, 0) b = PM.grow y x b := if_neg hx0
        rw [hstep] at HEXP
        clear hstep hx0
        go_loopw [6, 38] (fun bv kv wr => ∃ (k : Nat) (V7 : Option Addr) (c7 : Nat) (b7 : List UInt8), kv = .int .i64 (k : Int) ∧ bv = .slice V7 b7.length c7 ∧ k ≤ x ∧ PM.grow y k b = b7 ∧ Sp w0 (Row 5 1 (.slice V7 b7.length c7) b7.length (cells8 b7) :: Bk s 25 [.int .i64 (x : Int), .int .i64 (y : Int), .int .u8 0] :: L) wr) (fun _ kv _ => x - (intOf kv).toNat)
        case atStart => exact ⟨0, V6, c6, b, rfl, rfl, Nat.zero_le _, rfl, h9⟩
        case round =>
          obtain ⟨k, V7, c7, b7, rfl, rfl, hk, hg, H7⟩ := hrel
          by_cases hkx : k < x
          · have k4 : (k : Int) < (x : Int) := by omega
            have hbl7 : b7.length = b.length + k := by rw [← hg, PM.grow_length]
            obtain ⟨j, hj⟩ : ∃ j, b7.length - y = j := ⟨_, rfl⟩
            have e1 : (b7.length : Int) - (y : Int) = (j : Int) := by omega
            have k5 : (j : Int) < (b7.length : Int) := by omega
            have k6 : b7.length ≤ 900000 ∨ True := .inr trivial
            have hlen7 : b7.length + 1 ≤ 1000000 := by omega
            obtain ⟨V8, c8, ev, hr, _, _⟩ := H7.row_rd 0 rfl
            injection ev with ev _ e3
            subst ev
            subst e3
            obtain ⟨a7, rfl, hce⟩ := hr.at8 (k := j) (by omega)
            obtain ⟨gb, hgb⟩ : ∃ gb : UInt8, b7[j]'(by omega) = gb := ⟨_, rfl⟩
            rw [hgb] at hce
            have hgr : PM.grow y (k + 1) b = b7 ++ [gb] := by
              rw [PM.grow_succ, hg, hj, List.getD_eq_getElem?_getD, List.getElem?_eq_getElem (by omega), hgb]; rfl
            have HGR := Lib.hid hgr
            have HG := Lib.hid hg
            have t0 : wr.cell? ⟨s, 0, none⟩ = some (.int .i64 (x : Int)) := H7.cell 1 rfl 0
            have t1 : wr.cell? ⟨s, 1, none⟩ = some (.int .i64 (y : Int)) := H7.cell 1 rfl 1
            have hr9 := Rd.of_blk (Blk.new wr 5 [.int .u8 (gb.toNat : Int)])
            have g9 := (H7.newBk [.int .u8 (gb.toNat : Int)] 5).swap
            have HR9 := Lib.hid hr9
            have HH9 := Lib.hid g9
            clear hr hgb hj hbl7 hg hgr hr9 g9 k6
            go_wp2_with (at_builtin; refine wpList_append_sp rfl _ _ 22 rfl 5 i0 (.int .u8 0) 1 1 Try.underlying22 hi0 hz0 hz1 hz2 rfl (by decide) (.slice (some a7) b7.length c7) b7.length (cells8 b7) rfl HH9.out (some ⟨wr.heap.size, 0, none⟩) 1 1 [.int .u8 (gb.toNat : Int)] rfl rfl HR9.out (by intro u hu; rw [List.mem_singleton.1 hu]; rfl) (by simp only [maxLen]; omega) (by omega) ?_)
            intro v5 w6 H6 _
            clear HR9 HH9
            obtain ⟨V5, c5, rfl, _, _⟩ := Row.form H6 0 rfl
            rw [show cells8 b7 ++ [.int .u8 (gb.toNat : Int)] = cells8 (b7 ++ [gb]) from (cells8_append b7 [gb]).symm] at H6
            go_wp2_with fail
            go_roundw
            case rel =>
              refine ⟨k + 1, V5, c5, b7 ++ [gb], by go_num, by rw [List.length_append]; rfl, by omega, HGR.out, ?_⟩
              rw [List.length_append]
              exact H6.pick 3 [0, 2]
            case measure => first | (simp [intOf]; omega) | simp [intOf]
          · have k4 : ¬ (k : Int) < (x : Int) := by omega
            obtain rfl : k = x := by omega
            have hgx := HEXP.out.trans hg
            have HGX := Lib.hid hgx
            clear hgx hg
            go_wp2_with fail
            go_roundw
            case rel => exact ⟨i + 1, V7, c7, b7, by go_num, rfl, by omega, HGX.out, H7.pick 2 [0]⟩
            case measure => first | (simp [intOf]; omega) | simp [intOf]
    · have k2 : ¬ (i : Int) < (n : Int) := by omega
      go_wp2_with fail
      go_ret2
      rw [List.take_of_length_le (by rw [← HN.out]; omega)] at hb
      refine ⟨_, rfl, ?_⟩
      rw [hb]
      exact H
end Go.Proofs.Ytdlbhoedmaifpaa
