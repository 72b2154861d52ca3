/- SortF: the stable sort of packs, whole. -/
import Derived.Test.YtdlbhoedmaifpaaSortE
namespace Go.Proofs.Ytdlbhoedmaifpaa
open Go.RowKit
theorem ins_seg (ad : Addr) (n c : Nat) (P S R : List PK) (a b : Nat) {w0 w : World} {L : List Pr} (H : Sp w0 (RowK (.slice (some ad) n c) (P ++ S ++ R) :: L) w) (hn : n = P.length + S.length + R.length) (hl : n ≤ 1000000) (ha : P.length = a) (hb : a + S.length = b) :
    Calls Try.prog 75 #[.slice (some ad) n c, .int .i64 (a : Int), .int .i64 (b : Int), cmpF] w fun e w' => e = .returned (.tuple #[]) ∧
      Sp w0 (RowK (.slice (some ad) n c) (P ++ SS.isort keyK S ++ R) :: L) w' := by
  have h := ins_ok ad n c (P ++ S ++ R) a b H (by simp only [List.length_append]; omega) hl (by omega) (by omega)
  have e1 : (P ++ S ++ R).take a = P := by rw [List.append_assoc, List.take_append_of_le_length (by omega), List.take_of_length_le (by omega)]
  have e2 : ((P ++ S ++ R).drop a).take (b - a) = S := by
    rw [List.append_assoc, List.drop_append, List.drop_eq_nil_of_le (by omega), List.nil_append, show a - P.length = 0 by omega, List.drop_zero, List.take_append_of_le_length (by omega), List.take_of_length_le (by omega)]
  have e3 : (P ++ S ++ R).drop b = R := by
    rw [List.drop_append, List.drop_eq_nil_of_le (by rw [List.length_append]; omega), List.nil_append, List.length_append, show b - (P.length + S.length) = 0 by omega, List.drop_zero]
  rw [e1, e2, e3] at h
  exact h
/-- How the row stands while pieces of s are sorted. -/
def StA (s : Nat) (l D : List PK) (a : Nat) : Prop := ∃ k d l0 y, SS.Chs keyK s k d l0 ∧ l = l0 ++ y ∧ D = d ++ y ∧ a = k * s
def StB (s : Nat) (l D : List PK) : Prop := ∃ k d l0 y, SS.Chs keyK s k d l0 ∧ l = l0 ++ y ∧ D = d ++ SS.isort keyK y ∧ y.length < s
def StC (s : Nat) (l D : List PK) (a : Nat) : Prop := ∃ j k D0 L0 d l1 y, SS.Chs keyK (s + s) j D0 L0 ∧ SS.Chs keyK s k d l1 ∧ l = L0 ++ l1 ++ y ∧ D = D0 ++ d ++ SS.isort keyK y ∧ y.length < s ∧ a = j * (s + s)
theorem stA_next {s : Nat} {l D : List PK} {a n : Nat} (h : StA s l D a) (hn : l.length = n) (hb : a + s ≤ n) : ∃ P S R, D = P ++ S ++ R ∧ P.length = a ∧ S.length = s ∧ n = P.length + S.length + R.length ∧ StA s l (P ++ SS.isort keyK S ++ R) (a + s) := by
  obtain ⟨k, d, l0, y, h1, rfl, rfl, rfl⟩ := h
  have hl := h1.len
  rw [List.length_append] at hn
  refine ⟨d, y.take s, y.drop s, by rw [List.append_assoc, List.take_append_drop], hl.1, by rw [List.length_take]; omega, by rw [List.length_take, List.length_drop]; omega, k + 1, _, l0 ++ y.take s, y.drop s, h1.snoc (by rw [List.length_take]; omega), by rw [List.append_assoc, List.take_append_drop], rfl, by rw [Nat.succ_mul]⟩
theorem stA_end {s : Nat} {l D : List PK} {a n : Nat} (h : StA s l D a) (hn : l.length = n) (han : a ≤ n) (hb : n < a + s) : ∃ P S R, D = P ++ S ++ R ∧ P.length = a ∧ a + S.length = n ∧ n = P.length + S.length + R.length ∧ StB s l (P ++ SS.isort keyK S ++ R) := by
  obtain ⟨k, d, l0, y, h1, rfl, rfl, rfl⟩ := h
  have hl := h1.len
  rw [List.length_append] at hn
  refine ⟨d, y, [], by rw [List.append_nil], hl.1, by omega, by simp; omega, k, d, l0, y, h1, rfl, by rw [List.append_nil], by omega⟩
theorem stC_next {s : Nat} {l D : List PK} {a n : Nat} (h : StC s l D a) (hn : l.length = n) (hb : a + (s + s) ≤ n) : ∃ X U V Y, D = X ++ U ++ V ++ Y ∧ X.length = a ∧ U.length = s ∧ V.length = s ∧ n = X.length + U.length + V.length + Y.length ∧ SS.Srt keyK U ∧ SS.Srt keyK V ∧ StC s l (X ++ SS.mrg keyK U V ++ Y) (a + (s + s)) := by
  obtain ⟨j, k, D0, L0, d, l1, y, h1, h2, rfl, rfl, h3, rfl⟩ := h
  have hl1 := h1.len
  have hl2 := h2.len
  rw [List.length_append, List.length_append, hl1.2, hl2.2] at hn
  have hk2 : ∃ k', k = k' + 2 := by
    rcases k with _ | _ | k
    · simp at hn; omega
    · simp at hn; omega
    · exact ⟨k, rfl⟩
  obtain ⟨k, rfl⟩ := hk2
  obtain ⟨x1, d1, m1, hx1, rfl, rfl, h4⟩ := h2.inv
  obtain ⟨x2, d2, m2, hx2, rfl, rfl, h5⟩ := h4.inv
  have hl5 := h5.len
  have e1 : (k + 2) * s = k * s + s + s := by rw [Nat.add_mul]; omega
  refine ⟨D0, SS.isort keyK x1, SS.isort keyK x2, d2 ++ SS.isort keyK y, by simp, hl1.1, by rw [SS.len_isort, hx1], by rw [SS.len_isort, hx2], by rw [SS.len_isort, SS.len_isort, List.length_append, SS.len_isort, hx1, hx2, hl1.1, hl5.1]; omega, SS.srt_isort _, SS.srt_isort _, j + 1, k, D0 ++ SS.isort keyK (x1 ++ x2), L0 ++ (x1 ++ x2), d2, m2, y, h1.snoc (by rw [List.length_append, hx1, hx2]), h5, by simp, by rw [SS.mrg_isorts]; simp, h3, by rw [Nat.succ_mul]⟩
theorem stC_end {s : Nat} {l D : List PK} {a n : Nat} (h : StC s l D a) (hn : l.length = n) (hb : n < a + (s + s)) : (a + s < n → ∃ X U V Y, D = X ++ U ++ V ++ Y ∧ X.length = a ∧ U.length = s ∧ a + s + V.length = n ∧ n = X.length + U.length + V.length + Y.length ∧ SS.Srt keyK U ∧ SS.Srt keyK V ∧ StB (s + s) l (X ++ SS.mrg keyK U V ++ Y)) ∧ (¬ a + s < n → StB (s + s) l D) := by
  obtain ⟨j, k, D0, L0, d, l1, y, h1, h2, rfl, rfl, h3, rfl⟩ := h
  have hl1 := h1.len
  have hl2 := h2.len
  rw [List.length_append, List.length_append, hl1.2, hl2.2] at hn
  rcases k with _ | k
  · obtain ⟨rfl, rfl⟩ := h2.zero
    simp only [Nat.zero_mul, Nat.add_zero] at hn
    refine ⟨fun h => by omega, fun _ => ⟨j, D0, L0, y, h1, by simp, by simp, by omega⟩⟩
  · have e1 : (k + 1) * s = k * s + s := Nat.succ_mul _ _
    have hk : k = 0 ∨ s ≤ k * s := by
      rcases k with _ | k
      · exact .inl rfl
      · right; rw [Nat.succ_mul]; omega
    obtain rfl : k = 0 := by
      rcases hk with h | h
      · exact h
      · omega
    obtain ⟨x1, d1, m1, hx1, rfl, rfl, h4⟩ := h2.inv
    obtain ⟨rfl, rfl⟩ := h4.zero
    simp only [Nat.zero_add, Nat.one_mul] at hn
    refine ⟨fun _ => ⟨D0, SS.isort keyK x1, SS.isort keyK y, [], by simp, hl1.1, by rw [SS.len_isort, hx1], by rw [SS.len_isort]; omega, by rw [SS.len_isort, SS.len_isort, hx1, hl1.1]; simp; omega, SS.srt_isort _, SS.srt_isort _, j, D0, L0, x1 ++ y, h1, by simp, by rw [SS.mrg_isorts]; simp, by rw [List.length_append]; omega⟩, fun h => ?_⟩
    have : y = [] := List.eq_nil_of_length_eq_zero (by omega)
    subst this
    exact ⟨j, D0, L0, x1, h1, by simp, by simp [SS.isort, SS.mrg], by omega⟩
theorem stB_start {s : Nat} {l D : List PK} (h : StB s l D) : StC s l D 0 := by
  obtain ⟨k, d, l0, y, h1, rfl, rfl, h3⟩ := h
  exact ⟨0, k, [], [], d, l0, y, .nil, h1, rfl, rfl, h3, by simp⟩
theorem stB_done {s n : Nat} {l D : List PK} (h : StB s l D) (hn : l.length = n) (hs : n ≤ s) : D = SS.isort keyK l := by
  obtain ⟨k, d, l0, y, h1, rfl, rfl, h3⟩ := h
  rw [List.length_append] at hn
  exact h1.end_ (by omega)
set_option maxRecDepth 100000 in
set_option maxHeartbeats 4000000 in
theorem stable_ok (ad : Addr) (n c : Nat) (l : List PK) {w0 w : World} {L : List Pr} (H : Sp w0 (RowK (.slice (some ad) n c) l :: L) w) (hn : l.length = n) (hl : n ≤ 1000000) :
    Calls Try.prog 73 #[.slice (some ad) n c, .int .i64 (n : Int), cmpF] w fun e w' => e = .returned (.tuple #[]) ∧
      Sp w0 (RowK (.slice (some ad) n c) (SS.isort keyK l) :: L) w' := by
  have HN := Lib.hid hn
  have hst : StA 20 l l 0 := ⟨0, [], [], l, .nil, rfl, rfl, by simp⟩
  have HST := Lib.hid hst
  clear hst hn
  go_enter Try.func73, Try.ntmps73
  go_wp2_with fail
  go_loopw [7, 8] (fun av bv wr => ∃ (a b : Nat) (D : List PK), av = .int .i64 (a : Int) ∧ bv = .int .i64 (b : Int) ∧ Hid (b = a + 20 ∧ StA 20 l D a) ∧ a ≤ n ∧ b ≤ n + 20 ∧ Sp w0 (RowK (.slice (some ad) n c) D :: L) wr) (fun _ bv _ => n + 20 - (intOf bv).toNat)
  case atStart => exact ⟨0, 20, l, rfl, rfl, Lib.hid ⟨rfl, HST.out⟩, Nat.zero_le _, by omega, H⟩
  case round =>
    clear H HST
    obtain ⟨a, b, D, rfl, rfl, HE, han, hbn, H⟩ := hrel
    by_cases hb : b ≤ n
    · have k1 : (b : Int) ≤ (n : Int) := by omega
      obtain ⟨P, S, R, hD, h1, h2, h3, h4⟩ := stA_next HE.out.2 HN.out (by have := HE.out.1; omega)
      subst hD
      have hc := ins_seg ad n c P S R a b H h3 hl h1 (by have := HE.out.1; omega)
      have HC := Lib.hid hc
      have H4 := Lib.hid h4
      have kb : b ≤ 1000000 := by omega
      clear hc h4 h1 h2 h3
      go_wp2_with fail
      refine HC.out.mono ?_
      rintro _ w9 ⟨rfl, H9⟩
      clear HC H
      go_wp2_with fail
      go_roundw
      case rel =>
        refine ⟨b, b + 20, _, rfl, by go_num, Lib.hid ⟨rfl, ?_⟩, hb, by omega, H9⟩
        rw [HE.out.1]
        exact H4.out
      case measure => first | (simp [intOf]; omega) | simp [intOf]
    · have k1 : ¬ (b : Int) ≤ (n : Int) := by omega
      obtain ⟨P, S, R, hD, h1, h2, h3, h4⟩ := stA_end HE.out.2 HN.out han (by have := HE.out.1; omega)
      subst hD
      have hc := ins_seg ad n c P S R a n H h3 hl h1 h2
      generalize P ++ SS.isort keyK S ++ R = D at hc h4
      have HC := Lib.hid hc
      have H4 := Lib.hid h4
      clear hc h4 h1 h2 h3
      go_wp2_with fail
      refine HC.out.mono ?_
      rintro _ w9 ⟨rfl, H9⟩
      clear HC H
      go_wp2_with fail
      go_loopw [6] (fun sv wr => ∃ (s : Nat) (D : List PK), sv = .int .i64 (s : Int) ∧ 20 ≤ s ∧ s ≤ 2 * n + 20 ∧ Hid (StB s l D) ∧ Sp w0 (RowK (.slice (some ad) n c) D :: L) wr) (fun sv _ => n - (intOf sv).toNat)
      case atStart => exact ⟨20, D, rfl, Nat.le_refl _, by omega, H4, H9⟩
      case round =>
        clear H9 H4 HE
        obtain ⟨s, D, rfl, hs20, hsn, HE, H⟩ := hrel
        by_cases hsl : s < n
        · have k2 : (s : Int) < (n : Int) := by omega
          obtain ⟨s2, hs2⟩ : ∃ s2, s + s = s2 := ⟨_, rfl⟩
          have y1 : (2 : Int) * (s : Int) = (s2 : Int) := by omega
          have y2 : (s : Int) * 2 = (s2 : Int) := by omega
          have HS2 := Lib.hid hs2
          have hs22 : s < s2 := by omega
          have hs23 : s2 ≤ 2000000 := by omega
          have hs24 : s2 ≤ 2 * n + 20 := by omega
          clear hs2
          go_wp2_with fail
          go_loopw [7, 8] (fun av bv wr => ∃ (a b : Nat) (D : List PK), av = .int .i64 (a : Int) ∧ bv = .int .i64 (b : Int) ∧ Hid (b = a + s2 ∧ StC s l D a) ∧ a ≤ n ∧ b ≤ n + s2 ∧ Sp w0 (RowK (.slice (some ad) n c) D :: L) wr) (fun _ bv _ => n + s2 - (intOf bv).toNat)
          case atStart => exact ⟨0, s2, D, rfl, rfl, Lib.hid ⟨by omega, stB_start HE.out⟩, Nat.zero_le _, by omega, H⟩
          case round =>
            clear H HE
            obtain ⟨a, b, D, rfl, rfl, HE, han, hbn, H⟩ := hrel
            by_cases hb : b ≤ n
            · have k3 : (b : Int) ≤ (n : Int) := by omega
              obtain ⟨X, U, V, Y, hD, h1, h2, h3, h4, h5, h6, h7⟩ := stC_next HE.out.2 HN.out (by have := HE.out.1; have := HS2.out; omega)
              subst hD
              obtain ⟨m, hm⟩ : ∃ m, a + s = m := ⟨_, rfl⟩
              have y3 : (a : Int) + (s : Int) = (m : Int) := by omega
              have hc := sym_ok ad n c hl w0 L (b - a + 1) X U V Y a m b (by omega) h4 h1 (by omega) (by have := HE.out.1; have := HS2.out; omega) (by rintro rfl; simp at h2; omega) (by rintro rfl; simp at h3; omega) h5 h6 _ H
              have HC := Lib.hid hc
              have H7 := Lib.hid h7
              clear hc h1 h2 h3 h4 h5 h6 h7 hm
              go_wp2_with fail
              refine HC.out.mono ?_
              rintro _ w9 ⟨rfl, H9⟩
              clear HC H
              go_wp2_with fail
              go_roundw
              case rel =>
                refine ⟨b, b + s2, _, rfl, by go_num, Lib.hid ⟨rfl, ?_⟩, hb, by omega, H9⟩
                have h9 := H7.out
                rw [HS2.out, ← HE.out.1] at h9
                exact h9
              case measure => first | (simp [intOf]; omega) | simp [intOf]
            · have k3 : ¬ (b : Int) ≤ (n : Int) := by omega
              obtain ⟨h1, h2⟩ := stC_end HE.out.2 HN.out (by have := HE.out.1; have := HS2.out; omega)
              obtain ⟨m, hm⟩ : ∃ m, a + s = m := ⟨_, rfl⟩
              have y3 : (a : Int) + (s : Int) = (m : Int) := by omega
              rw [hm] at h1 h2
              by_cases hmn : m < n
              · have k4 : (m : Int) < (n : Int) := by omega
                obtain ⟨X, U, V, Y, hD, q1, q2, q3, q4, q5, q6, q7⟩ := h1 hmn
                subst hD
                have hc := sym_ok ad n c hl w0 L (n - a + 1) X U V Y a m n (by omega) q4 q1 (by omega) (by omega) (by rintro rfl; simp at q2; omega) (by rintro rfl; simp at q3; omega) q5 q6 _ H
                have HC := Lib.hid hc
                have H7 := Lib.hid q7
                clear hc h1 h2 q1 q2 q3 q4 q5 q6 q7 hm
                go_wp2_with fail
                refine HC.out.mono ?_
                rintro _ w9 ⟨rfl, H9⟩
                clear HC H
                go_wp2_with fail
                go_roundw
                case rel =>
                  refine ⟨s2, _, rfl, by omega, hs24, Lib.hid ?_, H9⟩
                  have h9 := H7.out
                  rw [HS2.out] at h9
                  exact h9
                case measure => first | (simp [intOf]; omega) | simp [intOf]
              · have k4 : ¬ (m : Int) < (n : Int) := by omega
                have h3 := h2 hmn
                have H3 := Lib.hid h3
                clear h1 h2 h3 hm
                go_wp2_with fail
                go_roundw
                case rel =>
                  refine ⟨s2, D, rfl, by omega, hs24, Lib.hid ?_, H⟩
                  have h9 := H3.out
                  rw [HS2.out] at h9
                  exact h9
                case measure => first | (simp [intOf]; omega) | simp [intOf]
        · have k2 : ¬ (s : Int) < (n : Int) := by omega
          have hd := stB_done HE.out HN.out (by omega)
          subst hd
          go_wp2_with fail
          go_end0
          exact ⟨rfl, H⟩
set_option maxRecDepth 100000 in
theorem sortStable_ok (ad : Addr) (n c : Nat) (l : List PK) {w0 w : World} {L : List Pr} (H : Sp w0 (RowK (.slice (some ad) n c) l :: L) w) (hn : l.length = n) (hl : n ≤ 1000000) :
    Calls Try.prog 66 #[.slice (some ad) n c, cmpF] w fun e w' => e = .returned (.tuple #[]) ∧
      Sp w0 (RowK (.slice (some ad) n c) (SS.isort keyK l) :: L) w' := by
  have hc := stable_ok ad n c l H hn hl
  have HC := Lib.hid hc
  clear hc hn
  go_enter Try.func66, Try.ntmps66
  go_wp2_with fail
  refine HC.out.mono ?_
  rintro _ w9 ⟨rfl, H9⟩
  go_wp2_with fail
  go_end0
  exact ⟨rfl, H9⟩
end Go.Proofs.Ytdlbhoedmaifpaa
