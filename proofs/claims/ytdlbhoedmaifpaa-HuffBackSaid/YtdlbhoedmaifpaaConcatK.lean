/- ConcatK: slices.Grow of nothing, slices.Concat, at one type. -/
import Derived.Test.YtdlbhoedmaifpaaLib5
namespace Go.Proofs.Ytdlbhoedmaifpaa
open Go.RowKit
theorem infoK : (Try.prog.info? 102).map (fun i => (i.zero, i.size, i.bytes)) = some (some (.agg #[.int .i64 0, .int .i64 0, .pointer none]), 3, 24) := by kernel_rfl
set_option maxRecDepth 100000 in
set_option maxHeartbeats 2000000 in
theorem grow_okK (n : Nat) {w0 w : World} {L : List Pr} (H : Sp w0 L w) (hn : n ≤ 1000000000) :
    Calls Try.prog 72 #[.slice none 0 0, .int .i64 (n : Int)] w fun e w' => ∃ v, e = .returned v ∧ Sp w0 (Row 102 3 v 0 [] :: L) w' := by
  obtain ⟨i0, hi, hz0, hz1, hz2⟩ := info_parts infoK
  by_cases h0 : 0 < n
  · have k1 : (0 : Int) < (n : Int) := by omega
    go_enter Try.func72, Try.ntmps72
    go_wp2_with (at_builtin; refine wpList_zeros_sp rfl _ _ 99 3 rfl 102 i0 (.agg #[.int .i64 0, .int .i64 0, .pointer none]) 3 24 Try.underlying99 Try.underlying3 hi hz0 hz1 hz2 rfl (by decide) n rfl rfl h0 hn (by decide) H ?_)
    intro g c w2 h1 h2 H2
    have H3 := H2.rowCut 0 (Nat.zero_le _)
    rw [Nat.zero_mul, List.take_zero] at H3
    have k2 : (0 : Int) ≤ (c : Int) := by omega
    go_wp2_with fail
    go_ret
    exact ⟨_, rfl, H3⟩
  · have k1 : ¬ (0 : Int) < (n : Int) := by omega
    obtain rfl : n = 0 := by omega
    go_enter Try.func72, Try.ntmps72
    go_wp2_with fail
    go_ret
    exact ⟨_, rfl, H.rowNil _ _⟩
set_option maxRecDepth 100000 in
set_option maxHeartbeats 2000000 in
theorem concat_okK (ad : Addr) (k c : Nat) (qs : List Part) {w0 w : World} {L : List Pr} (H : Sp w0 L w) (hk : qs.length = k) (hb : Ent L (fun w => Rd w (some ad) (qs.map Part.val))) (hq : ∀ q ∈ qs, q.Ok L 3) (hs : Part.sum qs ≤ 1000000) (hkm : k ≤ 1000000) :
    Calls Try.prog 65 #[.slice (some ad) k c] w fun e w' => ∃ v, e = .returned v ∧ Sp w0 (Row 102 3 v (Part.sum qs) (Part.cat qs) :: L) w' := by
  obtain ⟨i0, hi, hz0, hz1, hz2⟩ := info_parts infoK
  obtain ⟨N, hN⟩ : ∃ N, Part.sum qs = N := ⟨_, rfl⟩
  have hle : ∀ i, Part.sum (qs.take i) ≤ N := fun i => by rw [← hN]; exact Part.sum_take qs i
  have HK := Lib.hid hk
  have HB := Lib.hid hb
  have HQ := Lib.hid hq
  have HN := Lib.hid hN
  have HLE := Lib.hid hle
  have hNl : N ≤ 1000000 := by omega
  rw [hN]
  have hget : ∀ i, i < k → ∃ q, qs[i]? = some q ∧ q.Ok L 3 ∧ qs.take (i + 1) = qs.take i ++ [q] ∧ ∀ w', Sp w0 L w' → w'.cell? (ad.add i) = some (.slice q.A q.n q.c) := fun i hi => by
    have hil : i < qs.length := by rw [hk]; exact hi
    refine ⟨qs[i], List.getElem?_eq_getElem hil, hq _ (List.getElem_mem hil), List.take_succ_eq_append_getElem hil, fun w' H' => ?_⟩
    obtain ⟨ad', e, hc⟩ := hb _ _ H' (by intro h; have := congrArg List.length h; simp at this; subst this; simp at hil)
    injection e with e
    subst e
    refine hc i _ ?_
    rw [List.getElem?_map, List.getElem?_eq_getElem hil]; rfl
  have HG := Lib.hid hget
  clear hk hb hq hN hle hs hget
  go_enter Try.func65, Try.ntmps65
  go_wp2_with fail
  go_loopw [3, 11] (fun sv iv wr => ∃ (i s : Nat), iv = .int .i64 (i : Int) ∧ sv = .int .i64 (s : Int) ∧ i ≤ k ∧ Hid (Part.sum (qs.take i) = s) ∧ Sp w0 L wr) (fun _ iv _ => k - (intOf iv).toNat)
  case atStart => exact ⟨0, 0, rfl, rfl, Nat.zero_le _, Lib.hid rfl, H⟩
  case round =>
    clear H
    obtain ⟨i, s, rfl, rfl, hik, HS, H⟩ := hrel
    have hsN : s ≤ N := by rw [← HS.out]; exact HLE.out i
    by_cases hin : i < k
    · have k1 : (i : Int) < (k : Int) := by omega
      obtain ⟨q, h1, h2, h3, h4⟩ := HG.out i hin
      have hc := h4 _ H
      have hs2 : Part.sum (qs.take (i + 1)) = s + q.n := by rw [h3, Part.sum_snoc, HS.out]
      have hs3 : s + q.n ≤ N := by rw [← hs2]; exact HLE.out _
      have HS2 := Lib.hid hs2
      obtain ⟨qA, qn, qc, qx⟩ := q
      simp only at hc HS2 hs3
      have k2 : ¬ (s : Int) + (qn : Int) < 0 := by omega
      clear h1 h2 h3 h4 hs2
      go_wp2_with fail
      go_roundw
      case rel => exact ⟨i + 1, s + qn, by go_num, by go_num, by omega, HS2, H⟩
      case measure => first | (simp [intOf]; omega) | simp [intOf]
    · have k1 : ¬ (i : Int) < (k : Int) := by omega
      obtain rfl : i = k := by omega
      have hsN2 : s = N := by rw [← HS.out, ← HN.out, List.take_of_length_le (by rw [HK.out]; exact Nat.le_refl _)]
      subst hsN2
      have hg := grow_okK s H (by omega)
      have HGR := Lib.hid hg
      clear hg
      go_wp2_with fail
      refine HGR.out.mono ?_
      rintro _ w2 ⟨v, rfl, H2⟩
      clear HGR H
      go_wp2_with fail
      go_loopw [6, 27] (fun vv jv wr => ∃ (j : Nat), jv = .int .i64 (j : Int) ∧ j ≤ i ∧ Sp w0 (Row 102 3 vv (Part.sum (qs.take j)) (Part.cat (qs.take j)) :: L) wr) (fun _ jv _ => i - (intOf jv).toNat)
      case atStart => exact ⟨0, rfl, Nat.zero_le _, H2⟩
      case round =>
        rename_i v0 _
        clear H2
        rename_i u6 u27
        obtain ⟨j, rfl, hjk, H⟩ := hrel
        obtain ⟨r, hr⟩ : ∃ r, Part.sum (qs.take j) = r := ⟨_, rfl⟩
        obtain ⟨X, hX⟩ : ∃ X, Part.cat (qs.take j) = X := ⟨_, rfl⟩
        have hrN : r ≤ s := by rw [← hr]; exact HLE.out j
        rw [hr, hX] at H
        obtain ⟨VA, Vc, hvf, _, _⟩ := Row.form H 0 rfl
        subst hvf
        by_cases hjn : j < i
        · have k1 : (j : Int) < (i : Int) := by omega
          obtain ⟨q, h1, h2, h3, h4⟩ := HG.out j hjn
          have hc := h4 _ H.tail
          have hs2 : Part.sum (qs.take (j + 1)) = r + q.n := by rw [h3, Part.sum_snoc, hr]
          have hs3 : r + q.n ≤ s := by rw [← hs2]; exact HLE.out _
          have hx2 : Part.cat (qs.take (j + 1)) = X ++ q.xs := by rw [h3, Part.cat_snoc, hX]
          have HS2 := Lib.hid hs2
          have HX2 := Lib.hid hx2
          have HO := Lib.hid h2
          obtain ⟨qA, qn, qc, qx⟩ := q
          simp only at hc HS2 HX2 hs3
          clear h1 h2 h3 h4 hs2 hx2 hr hX
          go_wp2_with (at_builtin; refine wpList_append_sp rfl _ _ 99 rfl 102 i0 (.agg #[.int .i64 0, .int .i64 0, .pointer none]) 3 24 Try.underlying99 hi hz0 hz1 hz2 rfl (by decide) _ r X rfl H qA qn qc qx rfl HO.out.1 (HO.out.2.1 _ _ H.tail) HO.out.2.2 (by unfold maxLen; omega) (by omega) ?_)
          intro v9 w9 H9 _
          go_wp2_with fail
          go_roundw
          case rel => exact ⟨j + 1, by go_num, by omega, by rw [HS2.out, HX2.out]; exact H9⟩
          case measure => first | (simp [intOf]; omega) | simp [intOf]
        · have k1 : ¬ (j : Int) < (i : Int) := by omega
          obtain rfl : j = i := by omega
          have e1 : qs.take j = qs := List.take_of_length_le (by rw [HK.out]; exact Nat.le_refl _)
          rw [e1, HN.out] at hr
          rw [e1] at hX
          have HR := Lib.hid hr
          have HX := Lib.hid hX
          clear hr hX e1
          go_wp2_with fail
          go_ret
          exact ⟨_, rfl, by rw [HX.out, HR.out]; exact H⟩
end Go.Proofs.Ytdlbhoedmaifpaa
