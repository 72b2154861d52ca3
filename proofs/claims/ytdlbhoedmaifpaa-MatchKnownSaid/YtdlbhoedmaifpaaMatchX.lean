/- MatchX: May, Size. -/
import Derived.Test.YtdlbhoedmaifpaaMatchE
namespace Go.Proofs.Ytdlbhoedmaifpaa
open Go.RowKit Go.MapKept
theorem mayI_cons {X : List StI} {i : Nat} {a : Int} (h : i < X.length) : mayI (X.drop i) a = (fitsI X[i] a && mayI (X.drop (i + 1)) (a + madeI X[i])) := by
  rw [List.drop_eq_getElem_cons h]; rfl
theorem sizeI_cons {X : List StI} {i : Nat} (h : i < X.length) : sizeI (X.drop i) = madeI X[i] + sizeI (X.drop (i + 1)) := by
  rw [List.drop_eq_getElem_cons h]; rfl
set_option maxRecDepth 100000 in
set_option maxHeartbeats 1000000 in
theorem may_ok (V : Option Addr) (n c : Nat) (X : List StI) {w0 w : World} {L : List Pr} (H : Sp w0 L w) (hn : n = X.length) (hnm : n ≤ 1000000) (h : Ent L (fun w => StI_ w V X)) :
    Calls Try.prog 23 #[.slice V n c] w fun e w' => e = .returned (.bool (mayI X 0)) ∧ Sp w0 L w' := by
  have HN := Lib.hid hn
  have HX := Lib.hid h
  clear hn h
  go_enter Try.func23, Try.ntmps23
  go_wp2_with fail
  go_loopw [3, 8] (fun av iv wr => ∃ (i : Nat) (a : Int), av = .int .i64 a ∧ iv = .int .i64 (i : Int) ∧ i ≤ n ∧ 0 ≤ a ∧ a ≤ 258 * (i : Int) ∧ mayI X 0 = mayI (X.drop i) a ∧ Sp w0 L wr) (fun _ iv _ => n - (intOf iv).toNat)
  case atStart => exact ⟨0, 0, rfl, rfl, Nat.zero_le _, by omega, by omega, rfl, H⟩
  case round =>
    obtain ⟨i, a, rfl, rfl, hi, ha0, ha1, hm, H⟩ := hrel
    have HM := Lib.hid hm
    clear hm
    by_cases hin : i < n
    · have k1 : (i : Int) < (n : Int) := by omega
      have hiX : i < X.length := by rw [← HN.out]; exact hin
      obtain ⟨ad, rfl, p0, p1, p2⟩ := HX.out _ _ H i hiX
      have hcons := mayI_cons (a := a) hiX
      obtain ⟨x, hx⟩ : ∃ x, X[i].1 = x := ⟨_, rfl⟩
      obtain ⟨y, hy⟩ : ∃ y, X[i].2.1 = y := ⟨_, rfl⟩
      obtain ⟨z, hz⟩ : ∃ z, X[i].2.2 = z := ⟨_, rfl⟩
      have hXi : X[i] = (x, y, z) := by rw [← hx, ← hy, ← hz]
      rw [hx] at p0
      rw [hy] at p1
      rw [hz] at p2
      rw [hXi] at hcons
      have HCONS := Lib.hid hcons
      clear hcons hx hy hz hXi
      go_wp2_with fail
      refine (fits_ok x y a z _).mono ?_
      rintro _ w2 ⟨rfl, K2⟩
      have H2 := K2.sep (H.newBk [.int .i64 x, .int .i64 y, .int .u8 (z.toNat : Int)] 25)
      generalize wr.heap.size = s at H2 ⊢
      clear K2 p0 p1 p2
      by_cases hf : fitsI (x, y, z) a = true
      · have hmd := fitsI_made hf
        rw [hf]
        have t0 := H2.cell 0 rfl 0
        have t1 := H2.cell 0 rfl 1
        have t2 := H2.cell 0 rfl 2
        simp only [List.getElem?_cons_zero, List.getElem?_cons_succ] at t0 t1 t2
        obtain ⟨m, hmm⟩ : ∃ m, max x 1 = m := ⟨_, rfl⟩
        have hmI : madeI (x, y, z) = m := hmm
        rw [hmI] at hmd
        have e := HCONS.out
        rw [hf, Bool.true_and, hmI] at e
        have HE := Lib.hid e
        clear e hf hmI HCONS
        go_wp2_with fail
        refine (made_okI x y (z.toNat : Int) _).mono ?_
        rintro _ w3 ⟨rfl, K3⟩
        have H3 := K3.sep H2
        rw [hmm]
        clear hmm
        go_wp2_with fail
        go_roundw
        case rel => exact ⟨i + 1, a + m, by go_num, by go_num, by omega, by omega, by omega, HM.out.trans HE.out, H3.tail⟩
        case measure => first | (simp [intOf]; omega) | simp [intOf]
      · have hf2 : fitsI (x, y, z) a = false := by simpa using hf
        rw [hf2]
        go_wp2_with fail
        go_ret
        refine ⟨ret_bool ?_, H2.tail⟩
        rw [HM.out, HCONS.out, hf2]
        rfl
    · have k1 : ¬ (i : Int) < (n : Int) := by omega
      go_wp2_with fail
      go_ret
      refine ⟨ret_bool ?_, H⟩
      rw [HM.out, List.drop_eq_nil_of_le (by rw [← HN.out]; omega)]
      rfl
set_option maxRecDepth 100000 in
set_option maxHeartbeats 1000000 in
theorem size_ok (V : Option Addr) (n c : Nat) (X : List StI) {w0 w : World} {L : List Pr} (H : Sp w0 L w) (hn : n = X.length) (hnm : n ≤ 1000000) (hb : ∀ s ∈ X, s.1 ≤ 1000000) (h : Ent L (fun w => StI_ w V X)) :
    Calls Try.prog 24 #[.slice V n c] w fun e w' => e = .returned (.int .i64 (sizeI X)) ∧ Sp w0 L w' := by
  have HN := Lib.hid hn
  have HX := Lib.hid h
  clear hn h
  go_enter Try.func24, Try.ntmps24
  go_wp2_with fail
  go_loopw [3, 8] (fun av iv wr => ∃ (i : Nat) (a : Int), av = .int .i64 a ∧ iv = .int .i64 (i : Int) ∧ i ≤ n ∧ 0 ≤ a ∧ a ≤ 1000000 * (i : Int) ∧ sizeI X = a + sizeI (X.drop i) ∧ Sp w0 L wr) (fun _ iv _ => n - (intOf iv).toNat)
  case atStart => exact ⟨0, 0, rfl, rfl, Nat.zero_le _, by omega, by omega, by rw [Int.zero_add]; rfl, H⟩
  case round =>
    obtain ⟨i, a, rfl, rfl, hi, ha0, ha1, hm, H⟩ := hrel
    have HM := Lib.hid hm
    clear hm
    by_cases hin : i < n
    · have k1 : (i : Int) < (n : Int) := by omega
      have hiX : i < X.length := by rw [← HN.out]; exact hin
      obtain ⟨ad, rfl, p0, p1, p2⟩ := HX.out _ _ H i hiX
      have hcons := sizeI_cons hiX
      have hxb := hb _ (List.getElem_mem hiX)
      obtain ⟨x, hx⟩ : ∃ x, X[i].1 = x := ⟨_, rfl⟩
      obtain ⟨y, hy⟩ : ∃ y, X[i].2.1 = y := ⟨_, rfl⟩
      obtain ⟨z, hz⟩ : ∃ z, X[i].2.2 = z := ⟨_, rfl⟩
      have hXi : X[i] = (x, y, z) := by rw [← hx, ← hy, ← hz]
      rw [hx] at p0
      rw [hy] at p1
      rw [hz] at p2
      rw [hXi] at hcons hxb
      replace hxb : x ≤ 1000000 := hxb
      obtain ⟨m, hmm⟩ : ∃ m, max x 1 = m := ⟨_, rfl⟩
      have hmI : madeI (x, y, z) = m := hmm
      rw [hmI] at hcons
      have hm1 : 1 ≤ m := by omega
      have hm2 : m ≤ 1000000 := by omega
      have HCONS := Lib.hid hcons
      clear hcons hx hy hz hXi hmI
      go_wp2_with fail
      refine (made_okI x y (z.toNat : Int) _).mono ?_
      rintro _ w2 ⟨rfl, K2⟩
      have H2 := K2.sep (H.newBk [.int .i64 x, .int .i64 y, .int .u8 (z.toNat : Int)] 25)
      rw [hmm]
      clear hmm
      go_wp2_with fail
      go_roundw
      case rel => exact ⟨i + 1, a + m, by go_num, by go_num, by omega, by omega, by omega, by rw [HM.out, HCONS.out]; omega, H2.tail⟩
      case measure => first | (simp [intOf]; omega) | simp [intOf]
    · have k1 : ¬ (i : Int) < (n : Int) := by omega
      go_wp2_with fail
      go_ret
      refine ⟨ret_i64 ?_, H⟩
      rw [HM.out, List.drop_eq_nil_of_le (by rw [← HN.out]; omega)]
      show a = a + 0
      omega
end Go.Proofs.Ytdlbhoedmaifpaa
