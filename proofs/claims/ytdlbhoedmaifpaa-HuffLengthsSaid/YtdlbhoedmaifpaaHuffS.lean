/- HuffS: the document's State, Codes, May. -/
import Derived.Test.YtdlbhoedmaifpaaHuffR
import Derived.Test.YtdlbhoedmaifpaaHuffJ
import Derived.Test.YtdlbhoedmaifpaaHuffCode
namespace Go.Proofs.Ytdlbhoedmaifpaa
set_option linter.unusedVariables false
open Go.RowKit
namespace PH
theorem tal_append (a b : List Nat) (n : Nat) : tal (a ++ b) n = tal a n + tal b n := by
  unfold tal
  split
  · rfl
  · exact List.count_append
theorem share_append (a b : List Nat) (k : Nat) : share (a ++ b) k = share a k + share b k := by
  induction k with
  | zero => rfl
  | succ k ih => rw [share, share, share, ih, tal_append, Nat.add_mul]; omega
theorem share_single (x : Nat) (k : Nat) : share [x] k = if 0 < x ∧ x < k then 2 ^ (15 - x) else 0 := by
  induction k with
  | zero => rw [if_neg (by omega)]; rfl
  | succ k ih =>
    rw [share, ih]
    have ht : tal [x] k = if k = 0 then 0 else if x = k then 1 else 0 := by
      unfold tal
      by_cases h0 : k = 0
      · rw [if_pos h0, if_pos h0]
      · rw [if_neg h0, if_neg h0, List.count_singleton]
        by_cases h1 : x = k
        · rw [if_pos h1, if_pos (by simpa using h1)]
        · rw [if_neg h1, if_neg (by simpa using h1)]
    rw [ht]
    by_cases h1 : x = k
    · subst h1
      by_cases h0 : x = 0
      · rw [if_pos h0, if_neg (by omega), if_neg (by omega)]; simp
      · rw [if_neg h0, if_pos rfl, if_neg (by omega), if_pos (by omega)]; omega
    · rw [show (if k = 0 then 0 else if x = k then 1 else 0) = 0 by simp [h1], Nat.zero_mul, Nat.add_zero]
      by_cases h2 : 0 < x ∧ x < k
      · rw [if_pos h2, if_pos (by omega)]
      · rw [if_neg h2, if_neg (by omega)]
theorem sum_take (m : List Nat) (i : Nat) (hi : i < m.length) (x : Nat) (hx : m[i] = x) (h15 : x ≤ 15) : sum (m.take (i + 1)) = sum (m.take i) + if 0 < x then 2 ^ (15 - x) else 0 := by
  unfold sum
  rw [List.take_succ_eq_append_getElem hi, share_append, hx, share_single]
  congr 1
  by_cases h : 0 < x
  · rw [if_pos h, if_pos (by omega)]
  · rw [if_neg h, if_neg (by omega)]
/-- How many symbols have a code. -/
def nz (m : List Nat) : Nat := (m.filter fun x => decide (0 < x)).length
theorem nz_take (m : List Nat) (i : Nat) (hi : i < m.length) (x : Nat) (hx : m[i] = x) : nz (m.take (i + 1)) = nz (m.take i) + if 0 < x then 1 else 0 := by
  unfold nz
  rw [List.take_succ_eq_append_getElem hi, List.filter_append, List.length_append, hx, List.filter_cons]
  by_cases h : 0 < x
  · rw [if_pos h, decide_eq_true h]; rfl
  · rw [if_neg h, decide_eq_false h]; rfl
theorem nz_sum (m : List Nat) (h : ∀ x ∈ m, x ≤ 15) : nz m = ((List.range 16).map (tal m)).sum := by
  have key : ∀ x, x ≤ 15 → ((List.range 16).map (tal [x])).sum = if 0 < x then 1 else 0 := by decide +kernel
  have app : ∀ (a b : List Nat) (l : List Nat), (l.map (tal (a ++ b))).sum = (l.map (tal a)).sum + (l.map (tal b)).sum := by
    intro a b l
    induction l with
    | nil => rfl
    | cons n l ih =>
      simp only [List.map_cons, List.sum_cons, ih, tal_append]; omega
  induction m with
  | nil => rfl
  | cons x m ih =>
    have h1 := app [x] m (List.range 16)
    rw [List.singleton_append] at h1
    rw [h1, key x (h x (List.mem_cons_self ..)), ← ih fun y hy => h y (List.mem_cons_of_mem _ hy)]
    unfold nz
    rw [List.filter_cons]
    by_cases h0 : 0 < x
    · rw [decide_eq_true h0, if_pos h0]; simp; omega
    · rw [decide_eq_false h0, if_neg h0]; simp
theorem rows_nz (m : List Nat) (h : ∀ x ∈ m, x ≤ 15) : (rows m).length = nz m := by
  rw [nz_sum m h]
  exact rows_len m 15 (Nat.le_refl _)
end PH
set_option maxRecDepth 100000 in
set_option maxHeartbeats 2000000 in
theorem rstate_ok (A : Option Addr) (n c : Nat) (m : List Nat) {w0 w : World} {L : List Pr} (H : Sp w0 L w) (hn : n = m.length) (hb : Ent L fun w => Rd w A (cells64 (castI m))) (hl : n ≤ 1024) (h15 : ∀ x ∈ m, x ≤ 15) :
    Calls Try.prog 38 #[.slice A n c] w fun e w' => e = .returned (.tuple #[.int .i64 (PH.state m), .int .i64 0]) ∧ Sp w0 L w' := by
  have HN := Lib.hid hn
  have HB := Lib.hid hb
  have H15 := Lib.hid h15
  have k0 : ¬ (1024 : Int) < (n : Int) := by omega
  clear hn hb h15
  obtain ⟨st, hst⟩ : ∃ st, PH.state m = st := ⟨_, rfl⟩
  rw [hst]
  have HST := Lib.hid hst
  clear hst
  go_enter Try.func38, Try.ntmps38
  go_wp2_with fail
  go_loopw [4, 5] (fun sv iv wr => ∃ (i s : Nat), iv = .int .i64 (i : Int) ∧ sv = .int .i64 (s : Int) ∧ i ≤ n ∧ s ≤ i * 16384 ∧ Hid (PH.sum (m.take i) = s) ∧ Sp w0 L wr) (fun _ iv _ => n - (intOf iv).toNat)
  case atStart => exact ⟨0, 0, rfl, rfl, Nat.zero_le _, Nat.zero_le _, Lib.hid rfl, H⟩
  case round =>
    clear H
    obtain ⟨i, s, rfl, rfl, hi, hsb, HS, H⟩ := hrel
    by_cases hin : i < n
    · have k1 : (i : Int) < (n : Int) := by omega
      have hiX : i < m.length := by rw [← HN.out]; exact hin
      obtain ⟨ad, had, hc⟩ := (HB.out _ _ H).at64 (k := i) (by simpa [castI] using hiX)
      obtain ⟨x, hx⟩ : ∃ x, m[i] = x := ⟨_, rfl⟩
      have hx15 : x ≤ 15 := by rw [← hx]; exact H15.out _ (List.getElem_mem hiX)
      replace hc : wr.cell? (ad.add i) = some (.int .i64 (x : Int)) := by
        rw [hc]
        simp [castI, hx]
      subst had
      have hsum := PH.sum_take m i hiX x hx hx15
      rw [HS.out] at hsum
      have HSU := Lib.hid hsum
      have k2 : ¬ (x : Int) < 0 := by omega
      have k3 : ¬ (15 : Int) < (x : Int) := by omega
      clear hx hsum
      by_cases hx0 : 0 < x
      · have k4 : (0 : Int) < (x : Int) := by omega
        obtain ⟨d, hd⟩ : ∃ d, 15 - x = d := ⟨_, rfl⟩
        have y1 : (15 : Int) - (x : Int) = (d : Int) := by omega
        have hd15 : d ≤ 15 := by omega
        obtain ⟨p, hp⟩ : ∃ p, 2 ^ d = p := ⟨_, rfl⟩
        have hpl : p ≤ 16384 := by
          rw [← hp]
          have : (2 : Nat) ^ d ≤ 2 ^ 14 := Nat.pow_le_pow_right (by omega) (by omega)
          exact this
        have hpw := fun w => power_ok d hd15 w
        rw [hp] at hpw
        have HPW := Lib.hid hpw
        have hs2 : PH.sum (m.take (i + 1)) = s + p := by rw [HSU.out, if_pos hx0, hd, hp]
        have HS2 := Lib.hid hs2
        clear hd hp hpw hs2
        go_wp2_with fail
        refine (HPW.out _).mono ?_
        rintro _ _ ⟨rfl, rfl⟩
        go_wp2_with fail
        go_roundw
        case rel => exact ⟨i + 1, s + p, by go_num, by go_num, by omega, by rw [Nat.succ_mul]; omega, HS2, H⟩
        case measure => first | (simp [intOf]; omega) | simp [intOf]
      · have k4 : ¬ (0 : Int) < (x : Int) := by omega
        have hs2 : PH.sum (m.take (i + 1)) = s := by rw [HSU.out, if_neg hx0, Nat.add_zero]
        have HS2 := Lib.hid hs2
        clear hs2
        go_wp2_with fail
        go_roundw
        case rel => exact ⟨i + 1, s, by go_num, rfl, by omega, by rw [Nat.succ_mul]; omega, HS2, H⟩
        case measure => first | (simp [intOf]; omega) | simp [intOf]
    · have k1 : ¬ (i : Int) < (n : Int) := by omega
      obtain rfl : i = n := by omega
      have hs := HS.out
      rw [List.take_of_length_le (by rw [HN.out]; exact Nat.le_refl _)] at hs
      have hst2 := HST.out
      unfold PH.state at hst2
      rw [hs] at hst2
      have HS3 := Lib.hid hst2
      clear hs hst2
      by_cases q1 : s < 32768
      · have q1i : (s : Int) < 32768 := by omega
        go_wp2_with fail
        go_ret2
        have h := HS3.out
        rw [if_pos q1] at h
        rw [← h]
        exact ⟨rfl, H⟩
      · have q1i : ¬ (s : Int) < 32768 := by omega
        by_cases q2 : 32768 < s
        · have q2i : (32768 : Int) < (s : Int) := by omega
          go_wp2_with fail
          go_ret2
          have h := HS3.out
          rw [if_neg q1, if_pos q2] at h
          rw [← h]
          exact ⟨rfl, H⟩
        · have q2i : ¬ (32768 : Int) < (s : Int) := by omega
          go_wp2_with fail
          go_ret2
          have h := HS3.out
          rw [if_neg q1, if_neg q2] at h
          rw [← h]
          exact ⟨rfl, H⟩
set_option maxRecDepth 100000 in
set_option maxHeartbeats 2000000 in
theorem rstate_bad (A : Option Addr) (n c : Nat) (l : List Int) {w0 w : World} {L : List Pr} (H : Sp w0 L w) (hn : n = l.length) (hb : Ent L fun w => Rd w A (cells64 l)) (hm : PH.may l = false) :
    Calls Try.prog 38 #[.slice A n c] w fun e w' => e = .returned (.tuple #[.int .i64 0, .int .i64 1]) ∧ Sp w0 L w' := by
  have HN := Lib.hid hn
  have HB := Lib.hid hb
  unfold PH.may at hm
  rw [← hn] at hm
  by_cases k0 : (1024 : Int) < (n : Int)
  · clear hn hb hm
    go_enter Try.func38, Try.ntmps38
    go_wp2_with fail
    go_ret2
    exact ⟨rfl, H⟩
  · rw [decide_eq_true (by omega : n ≤ 1024), Bool.true_and, Bool.not_eq_false'] at hm
    have HM := Lib.hid hm
    clear hn hb hm
    go_enter Try.func38, Try.ntmps38
    go_wp2_with fail
    go_loopw [4, 5] (fun sv iv wr => ∃ (i s : Nat), iv = .int .i64 (i : Int) ∧ sv = .int .i64 (s : Int) ∧ i ≤ n ∧ s ≤ i * 16384 ∧ Hid ((l.take i).any PH.bad = false) ∧ Sp w0 L wr) (fun _ iv _ => n - (intOf iv).toNat)
    case atStart => exact ⟨0, 0, rfl, rfl, Nat.zero_le _, Nat.zero_le _, Lib.hid rfl, H⟩
    case round =>
      clear H
      obtain ⟨i, s, rfl, rfl, hi, hsb, HS, H⟩ := hrel
      by_cases hin : i < n
      · have k1 : (i : Int) < (n : Int) := by omega
        have hiX : i < l.length := by rw [← HN.out]; exact hin
        obtain ⟨ad, had, hc⟩ := (HB.out _ _ H).at64 (k := i) hiX
        obtain ⟨x, hx⟩ : ∃ x, l[i] = x := ⟨_, rfl⟩
        rw [hx] at hc
        subst had
        by_cases q1 : x < 0
        · clear hx
          go_wp2_with fail
          go_ret2
          exact ⟨rfl, H⟩
        · by_cases q2 : 15 < x
          · clear hx
            go_wp2_with fail
            go_ret2
            exact ⟨rfl, H⟩
          · have hnext : (l.take (i + 1)).any PH.bad = false := by
              rw [List.take_succ_eq_append_getElem hiX, List.any_append, HS.out, hx]
              have : PH.bad x = false := by unfold PH.bad; exact decide_eq_false (by omega)
              simp [this]
            have HNX := Lib.hid hnext
            obtain ⟨xn, hxn⟩ : ∃ xn : Nat, x = (xn : Int) := ⟨x.toNat, by omega⟩
            subst hxn
            clear hx hnext
            by_cases hx0 : 0 < xn
            · have k4 : (0 : Int) < (xn : Int) := by omega
              obtain ⟨d, hd⟩ : ∃ d, 15 - xn = d := ⟨_, rfl⟩
              have y1 : (15 : Int) - (xn : Int) = (d : Int) := by omega
              have hd15 : d ≤ 15 := by omega
              obtain ⟨p, hp⟩ : ∃ p, 2 ^ d = p := ⟨_, rfl⟩
              have hpl : p ≤ 16384 := by
                rw [← hp]
                have : (2 : Nat) ^ d ≤ 2 ^ 14 := Nat.pow_le_pow_right (by omega) (by omega)
                exact this
              have hpw := fun w => power_ok d hd15 w
              rw [hp] at hpw
              have HPW := Lib.hid hpw
              clear hd hp hpw
              go_wp2_with fail
              refine (HPW.out _).mono ?_
              rintro _ _ ⟨rfl, rfl⟩
              go_wp2_with fail
              go_roundw
              case rel => exact ⟨i + 1, s + p, by go_num, by go_num, by omega, by rw [Nat.succ_mul]; omega, HNX, H⟩
              case measure => first | (simp [intOf]; omega) | simp [intOf]
            · have k4 : ¬ (0 : Int) < (xn : Int) := by omega
              go_wp2_with fail
              go_roundw
              case rel => exact ⟨i + 1, s, by go_num, rfl, by omega, by rw [Nat.succ_mul]; omega, HNX, H⟩
              case measure => first | (simp [intOf]; omega) | simp [intOf]
      · exfalso
        have h := HS.out
        rw [List.take_of_length_le (by rw [← HN.out]; omega), HM.out] at h
        cases h
set_option maxRecDepth 100000 in
theorem rcodes_bad (A : Option Addr) (n c : Nat) (l : List Int) {w0 w : World} {L : List Pr} (H : Sp w0 L w) (hn : n = l.length) (hb : Ent L fun w => Rd w A (cells64 l)) (hm : PH.may l = false) :
    Calls Try.prog 39 #[.slice A n c] w fun e w' => e = .returned (.tuple #[.slice none 0 0, .int .i64 1]) ∧ Sp w0 L w' := by
  have hst := rstate_bad A n c l H hn hb hm
  have HST := Lib.hid hst
  clear hst hn hb hm
  go_enter Try.func39, Try.ntmps39
  go_wp2_with fail
  refine HST.out.mono ?_
  rintro _ w2 ⟨rfl, H2⟩
  go_wp2_with fail
  go_ret2
  exact ⟨rfl, H2⟩
set_option maxRecDepth 100000 in
theorem rcodes_many (A : Option Addr) (n c : Nat) (m : List Nat) {w0 w : World} {L : List Pr} (H : Sp w0 L w) (hn : n = m.length) (hb : Ent L fun w => Rd w A (cells64 (castI m))) (hl : n ≤ 1024) (h15 : ∀ x ∈ m, x ≤ 15) (hs : PH.state m = 1) :
    Calls Try.prog 39 #[.slice A n c] w fun e w' => e = .returned (.tuple #[.slice none 0 0, .int .i64 20]) ∧ Sp w0 L w' := by
  have hst := rstate_ok A n c m H hn hb hl h15
  rw [hs] at hst
  have HST := Lib.hid hst
  clear hst hn hb hs
  go_enter Try.func39, Try.ntmps39
  go_wp2_with fail
  refine HST.out.mono ?_
  rintro _ w2 ⟨rfl, H2⟩
  go_wp2_with fail
  go_ret2
  exact ⟨rfl, H2⟩
/-- The codes laid so far: of lengths below q, and of q ahead of symbol i. -/
def laid (m : List Nat) (q i j : Nat) : Nat := if m.getD j 0 = 0 then 0 else if m.getD j 0 < q ∨ (m.getD j 0 = q ∧ j < i) then PH.codeAt m j else 0
set_option maxRecDepth 100000 in
set_option maxHeartbeats 4000000 in
theorem rcodes_ok (A : Option Addr) (n c : Nat) (m : List Nat) {w0 w : World} {L : List Pr} (H : Sp w0 L w) (hn : n = m.length) (hb : Ent L fun w => Rd w A (cells64 (castI m))) (hl : n ≤ 1024) (h15 : ∀ x ∈ m, x ≤ 15) (hs : PH.sum m ≤ 32768) :
    Calls Try.prog 39 #[.slice A n c] w fun e w' => ∃ v, e = .returned (.tuple #[v, .int .i64 0]) ∧ Sp w0 (Row 70 1 v n (rowU (PH.codeAt m) n) :: L) w' := by
  obtain ⟨i0, hi0, hz0, hz1, hz2⟩ := info_parts infoU
  have hst := rstate_ok A n c m H hn hb hl h15
  have hne : ((PH.state m) == 1) = false := by
    rw [beq_eq_false_iff_ne]
    unfold PH.state
    split
    · omega
    · rw [if_neg (by omega)]; omega
  obtain ⟨st, hst2⟩ : ∃ st, PH.state m = st := ⟨_, rfl⟩
  rw [hst2] at hst hne
  have HST := Lib.hid hst
  have HN := Lib.hid hn
  have HB := Lib.hid hb
  have H15 := Lib.hid h15
  have hf : ∀ k, k ≤ 16 → PH.fst m k ≤ 65536 := fun k hk => PH.fst_le m k hk hs
  have HF := Lib.hid hf
  clear hn hb h15 hs hf hst hst2
  go_enter Try.func39, Try.ntmps39
  go_wp2_with fail
  refine HST.out.mono ?_
  rintro _ w1 ⟨rfl, H1⟩
  clear HST H
  go_wp2_with (at_make; refine wpList_make_sp rfl _ _ _ rfl 70 i0 (.int .u32 0) Try.underlying60 hi0 hz0 hz1 rfl n rfl rfl (by rw [hz2]; omega) (by unfold maxLen; omega) H1 ?_)
  intro ad w2 H2
  rw [rowU_zero] at H2
  clear H1
  go_wp2_with fail
  go_loopw [7, 8] (fun xv qv wr => ∃ (q x : Nat), qv = .int .i64 ((q + 1 : Nat) : Int) ∧ xv = .int .u32 (x : Int) ∧ q ≤ 15 ∧ x ≤ 70000 ∧ Hid (x = PH.fst m q + PH.tal m q) ∧ Sp w0 (Row 70 1 (.slice (some ad) n n) n (rowU (laid m (q + 1) 0) n) :: L) wr) (fun _ qv _ => 16 - (intOf qv).toNat)
  case atStart =>
    refine ⟨0, 0, rfl, rfl, by omega, by omega, Lib.hid rfl, ?_⟩
    have e : laid m (0 + 1) 0 = fun _ => 0 := by
      funext j
      unfold laid
      split
      · rfl
      · rw [if_neg (by omega)]
    rw [e]
    exact H2
  case round =>
    clear H2
    obtain ⟨q, x, rfl, rfl, hq, hx, HX, H⟩ := hrel
    have e1 : ((q + 1 : Nat) : Int) = (q : Int) + 1 := by omega
    rw [e1]
    by_cases hq15 : q < 15
    · have k1 : (q : Int) + 1 ≤ 15 := by omega
      obtain ⟨y, hy⟩ : ∃ y, 2 * x = y := ⟨_, rfl⟩
      have hyf : y = PH.fst m (q + 1) := by rw [PH.fst_next, ← HX.out, hy]
      have hyl : y ≤ 65536 := by rw [hyf]; exact HF.out _ (by omega)
      have yy : (2 : Int) * (x : Int) = (y : Int) := by omega
      have HY := Lib.hid hyf
      clear hy hyf
      go_wp2_with fail
      go_loopw [7, 9] (fun xv iv wr => ∃ (i z : Nat), iv = .int .i64 (i : Int) ∧ xv = .int .u32 (z : Int) ∧ i ≤ n ∧ z ≤ 67000 ∧ Hid (z = y + (m.take i).count (q + 1)) ∧ Sp w0 (Row 70 1 (.slice (some ad) n n) n (rowU (laid m (q + 1) i) n) :: L) wr) (fun _ iv _ => n - (intOf iv).toNat)
      case atStart => exact ⟨0, y, rfl, rfl, Nat.zero_le _, by omega, Lib.hid (by simp), H⟩
      case round =>
        clear H
        obtain ⟨i, z, rfl, rfl, hi, hz, HZ, H⟩ := hrel
        by_cases hin : i < n
        · have k2 : (i : Int) < (n : Int) := by omega
          have hiX : i < m.length := by rw [← HN.out]; exact hin
          obtain ⟨al, hal, hc⟩ := (HB.out _ _ H.tail).at64 (k := i) (by simpa [castI] using hiX)
          obtain ⟨t, ht⟩ : ∃ t, m[i] = t := ⟨_, rfl⟩
          have ht15 : t ≤ 15 := by rw [← ht]; exact H15.out _ (List.getElem_mem hiX)
          replace hc : wr.cell? (al.add i) = some (.int .i64 (t : Int)) := by
            rw [hc]
            simp [castI, ht]
          subst hal
          have hgd : m.getD i 0 = t := by rw [List.getD_eq_getElem?_getD, List.getElem?_eq_getElem hiX, ht]; rfl
          have hcnt : (m.take (i + 1)).count (q + 1) = (m.take i).count (q + 1) + if t = q + 1 then 1 else 0 := by
            rw [List.take_succ_eq_append_getElem hiX, List.count_append, ht, List.count_singleton]
            by_cases e : t = q + 1
            · rw [if_pos e, if_pos (by simpa using e)]
            · rw [if_neg e, if_neg (by simpa using e)]
          have hcl : (m.take (i + 1)).count (q + 1) ≤ 1024 := Nat.le_trans List.count_le_length (by rw [List.length_take]; omega)
          have HCNT := Lib.hid hcnt
          have HGD := Lib.hid hgd
          have hzb : z + 1 ≤ 67000 ∨ t ≠ q + 1 := by
            by_cases e : t = q + 1
            · left
              rw [if_pos e] at hcnt
              have := HZ.out
              omega
            · exact .inr e
          clear ht hgd hcnt hcl
          by_cases htq : t = q + 1
          · have k3 : ((t : Int) == (q : Int) + 1) = true := by rw [beq_iff_eq]; omega
            obtain ⟨ad2, c2, ev, _, hcc, hfz, hset⟩ := H.rowSet hin
            injection ev with ev ev2 ev3
            injection ev with ev
            subst ev
            clear ev2 ev3
            have hlz : laid m (q + 1) i i = 0 := by
              unfold laid
              rw [HGD.out]
              split
              · rfl
              · rw [if_neg (by omega)]
            rw [rowU_get _ _ _ hin, hlz] at hcc
            replace hcc : wr.cell? (ad.add i) = some (.int .u32 0) := hcc
            have H8 := hset (.int .u32 (z : Int))
            rw [rowU_set] at H8
            have hcode : PH.codeAt m i = z := by
              rw [PH.codeAt_of m i (q + 1) (by rw [HGD.out]; exact htq) (by omega), HZ.out, HY.out]
            have e2 : (fun j => if j = i then z else laid m (q + 1) i j) = laid m (q + 1) (i + 1) := by
              funext j
              by_cases e : j = i
              · subst e
                rw [if_pos rfl]
                unfold laid
                rw [HGD.out, if_neg (by omega), if_pos (by omega), hcode]
              · rw [if_neg e]
                unfold laid
                split
                · rfl
                · by_cases h : m.getD j 0 < q + 1 ∨ (m.getD j 0 = q + 1 ∧ j < i)
                  · rw [if_pos h, if_pos (by omega)]
                  · rw [if_neg h, if_neg (by omega)]
            rw [e2] at H8
            have HH8 := Lib.hid H8
            have hz1 : z + 1 ≤ 67000 := by omega
            clear H8 hset e2 hcode hlz hzb
            go_wp2_with fail
            go_roundw
            case rel => exact ⟨i + 1, z + 1, by go_num, by go_num, by omega, hz1, Lib.hid (by rw [HCNT.out, if_pos htq, HZ.out]; omega), HH8.out⟩
            case measure => first | (simp [intOf]; omega) | simp [intOf]
          · have k3 : ((t : Int) == (q : Int) + 1) = false := by rw [beq_eq_false_iff_ne]; omega
            have e2 : laid m (q + 1) i = laid m (q + 1) (i + 1) := by
              funext j
              unfold laid
              split
              · rfl
              · by_cases h : m.getD j 0 < q + 1 ∨ (m.getD j 0 = q + 1 ∧ j < i)
                · rw [if_pos h, if_pos (by omega)]
                · rw [if_neg h, if_neg]
                  rintro (h2 | ⟨h2, h3⟩)
                  · exact h (.inl h2)
                  · by_cases e : j = i
                    · subst e
                      rw [HGD.out] at h2
                      exact htq h2
                    · exact h (.inr ⟨h2, by omega⟩)
            rw [e2] at H
            clear e2 hzb
            go_wp2_with fail
            go_roundw
            case rel => exact ⟨i + 1, z, by go_num, rfl, by omega, hz, Lib.hid (by rw [HCNT.out, if_neg htq, Nat.add_zero]; exact HZ.out), H⟩
            case measure => first | (simp [intOf]; omega) | simp [intOf]
        · have k2 : ¬ (i : Int) < (n : Int) := by omega
          obtain rfl : i = n := by omega
          have hzt : z = PH.fst m (q + 1) + PH.tal m (q + 1) := by
            rw [PH.tal_pos m (q + 1) (by omega), ← HY.out]
            have h := HZ.out
            rwa [List.take_of_length_le (by rw [HN.out]; exact Nat.le_refl _)] at h
          have e2 : rowU (laid m (q + 1) i) i = rowU (laid m (q + 1 + 1) 0) i := by
            unfold rowU
            refine List.map_congr_left fun j hj => ?_
            have hj2 := List.mem_range.1 hj
            show Value.int .u32 ((laid m (q + 1) i j : Nat) : Int) = Value.int .u32 ((laid m (q + 1 + 1) 0 j : Nat) : Int)
            congr 2
            unfold laid
            split
            · rfl
            · by_cases h : m.getD j 0 < q + 1 ∨ (m.getD j 0 = q + 1 ∧ j < i)
              · rw [if_pos h, if_pos (by omega)]
              · rw [if_neg h, if_neg (by omega)]
          rw [e2] at H
          have HZT := Lib.hid hzt
          have hzl : z ≤ 70000 := by omega
          clear hzt e2
          go_wp2_with fail
          go_roundw
          case rel => exact ⟨q + 1, z, by first | (go_num; done) | exact congrArg (Value.int .i64) (by omega), rfl, by omega, hzl, HZT, H⟩
          case measure => first | (simp [intOf]; omega) | simp [intOf]
    · have k1 : ¬ (q : Int) + 1 ≤ 15 := by omega
      obtain rfl : q = 15 := by omega
      have e2 : rowU (laid m (15 + 1) 0) n = rowU (PH.codeAt m) n := by
        unfold rowU
        refine List.map_congr_left fun j hj => ?_
        have hj2 := List.mem_range.1 hj
        have hj3 : j < m.length := by rw [← HN.out]; exact hj2
        show Value.int .u32 ((laid m (15 + 1) 0 j : Nat) : Int) = _
        congr 2
        have h := H15.out _ (List.getElem_mem hj3)
        have hg : m.getD j 0 = m[j] := by rw [List.getD_eq_getElem?_getD, List.getElem?_eq_getElem hj3]; rfl
        unfold laid
        by_cases h0 : m.getD j 0 = 0
        · rw [if_pos h0]; unfold PH.codeAt; rw [if_pos h0]
        · rw [if_neg h0, if_pos (by rw [hg]; omega)]
      rw [e2] at H
      go_wp2_with fail
      go_ret2
      exact ⟨_, rfl, H⟩
set_option maxRecDepth 100000 in
theorem rmay_bad (A : Option Addr) (n c : Nat) (l : List Int) {w0 w : World} {L : List Pr} (H : Sp w0 L w) (hn : n = l.length) (hb : Ent L fun w => Rd w A (cells64 l)) (hm : PH.may l = false) :
    Calls Try.prog 40 #[.slice A n c] w fun e w' => e = .returned (.int .i64 1) ∧ Sp w0 L w' := by
  have hst := rstate_bad A n c l H hn hb hm
  have HST := Lib.hid hst
  clear hst hn hb hm
  go_enter Try.func40, Try.ntmps40
  go_wp2_with fail
  refine HST.out.mono ?_
  rintro _ w2 ⟨rfl, H2⟩
  go_wp2_with fail
  go_ret
  exact ⟨rfl, H2⟩
set_option maxRecDepth 100000 in
set_option maxHeartbeats 2000000 in
theorem rmay_ok (A : Option Addr) (n c : Nat) (m : List Nat) {w0 w : World} {L : List Pr} (H : Sp w0 L w) (hn : n = m.length) (hb : Ent L fun w => Rd w A (cells64 (castI m))) (hl : n ≤ 1024) (h15 : ∀ x ∈ m, x ≤ 15) :
    Calls Try.prog 40 #[.slice A n c] w fun e w' => e = .returned (.int .i64 (if mayBook m = true then 0 else 20)) ∧ Sp w0 L w' := by
  have hst := rstate_ok A n c m H hn hb hl h15
  obtain ⟨res, hres⟩ : ∃ res : Int, (if mayBook m = true then 0 else 20) = res := ⟨_, rfl⟩
  rw [hres]
  obtain ⟨st, hst2⟩ : ∃ st, PH.state m = st := ⟨_, rfl⟩
  rw [hst2] at hst
  have hmb : mayBook m = (decide (st = 0) || (decide (PH.nz m = 0) || (decide (PH.nz m = 1) && decide (m.count 1 = 1)))) := by
    unfold mayBook
    rw [PH.rows_nz m h15, hst2]; rfl
  rw [hmb] at hres
  have HRES := Lib.hid hres
  have HST := Lib.hid hst
  have HN := Lib.hid hn
  have HB := Lib.hid hb
  clear hn hb hst hst2 hmb hres
  go_enter Try.func40, Try.ntmps40
  go_wp2_with fail
  refine HST.out.mono ?_
  rintro _ w1 ⟨rfl, H1⟩
  clear HST H
  go_wp2_with fail
  go_loopw [5, 6, 7] (fun av bv iv wr => ∃ (i a b : Nat), iv = .int .i64 (i : Int) ∧ av = .int .i64 (a : Int) ∧ bv = .int .i64 (b : Int) ∧ i ≤ n ∧ a ≤ i ∧ b ≤ i ∧ Hid (PH.nz (m.take i) = a ∧ (m.take i).count 1 = b) ∧ Sp w0 L wr) (fun _ _ iv _ => n - (intOf iv).toNat)
  case atStart => exact ⟨0, 0, 0, rfl, rfl, rfl, Nat.zero_le _, Nat.zero_le _, Nat.zero_le _, Lib.hid ⟨rfl, rfl⟩, H1⟩
  case round =>
    clear H1
    obtain ⟨i, a, b, rfl, rfl, rfl, hi, hai, hbi, HAB, H⟩ := hrel
    by_cases hin : i < n
    · have k1 : (i : Int) < (n : Int) := by omega
      have hiX : i < m.length := by rw [← HN.out]; exact hin
      obtain ⟨al, hal, hc⟩ := (HB.out _ _ H).at64 (k := i) (by simpa [castI] using hiX)
      obtain ⟨x, hx⟩ : ∃ x, m[i] = x := ⟨_, rfl⟩
      replace hc : wr.cell? (al.add i) = some (.int .i64 (x : Int)) := by
        rw [hc]
        simp [castI, hx]
      subst hal
      have h1 := PH.nz_take m i hiX x hx
      have h2 : (m.take (i + 1)).count 1 = b + if x = 1 then 1 else 0 := by
        rw [List.take_succ_eq_append_getElem hiX, List.count_append, hx, List.count_singleton, HAB.out.2]
        by_cases e : x = 1
        · rw [if_pos e, if_pos (by simpa using e)]
        · rw [if_neg e, if_neg (by simpa using e)]
      rw [HAB.out.1] at h1
      have H12 := Lib.hid (And.intro h1 h2)
      clear hx h1 h2
      by_cases hx0 : 0 < x
      · have k2 : (0 : Int) < (x : Int) := by omega
        by_cases hx1 : x = 1
        · have k3 : ((x : Int) == 1) = true := by rw [beq_iff_eq]; omega
          go_wp2_with fail
          go_roundw
          case rel => exact ⟨i + 1, a + 1, b + 1, by go_num, by go_num, by go_num, by omega, by omega, by omega, Lib.hid ⟨by rw [H12.out.1, if_pos hx0], by rw [H12.out.2, if_pos hx1]⟩, H⟩
          case measure => first | (simp [intOf]; omega) | simp [intOf]
        · have k3 : ((x : Int) == 1) = false := by rw [beq_eq_false_iff_ne]; omega
          go_wp2_with fail
          go_roundw
          case rel => exact ⟨i + 1, a + 1, b, by go_num, by go_num, rfl, by omega, by omega, by omega, Lib.hid ⟨by rw [H12.out.1, if_pos hx0], by rw [H12.out.2, if_neg hx1, Nat.add_zero]⟩, H⟩
          case measure => first | (simp [intOf]; omega) | simp [intOf]
      · have k2 : ¬ (0 : Int) < (x : Int) := by omega
        have k3 : ((x : Int) == 1) = false := by rw [beq_eq_false_iff_ne]; omega
        go_wp2_with fail
        go_roundw
        case rel => exact ⟨i + 1, a, b, by go_num, rfl, rfl, by omega, by omega, by omega, Lib.hid ⟨by rw [H12.out.1, if_neg hx0, Nat.add_zero], by rw [H12.out.2, if_neg (by omega), Nat.add_zero]⟩, H⟩
        case measure => first | (simp [intOf]; omega) | simp [intOf]
    · have k1 : ¬ (i : Int) < (n : Int) := by omega
      obtain rfl : i = n := by omega
      have hab := HAB.out
      rw [List.take_of_length_le (by rw [HN.out]; exact Nat.le_refl _)] at hab
      have hr := HRES.out
      rw [hab.1, hab.2] at hr
      have HR := Lib.hid hr
      clear hab hr
      by_cases h0 : st = 0
      · have hre : res = 0 := by
          rw [← HR.out, decide_eq_true h0]; simp
        subst h0 hre
        go_wp2_with fail
        go_ret
        exact ⟨rfl, H⟩
      · have k2 : (st == 0) = false := by rw [beq_eq_false_iff_ne]; exact h0
        by_cases ha0 : a = 0
        · have hre : res = 0 := by rw [← HR.out, decide_eq_true ha0]; simp
          have k3 : ((a : Int) == 0) = true := by rw [beq_iff_eq]; omega
          subst hre
          go_wp2_with fail
          go_ret
          exact ⟨rfl, H⟩
        · have k3 : ((a : Int) == 0) = false := by rw [beq_eq_false_iff_ne]; omega
          by_cases ha1 : a = 1
          · have k4 : ((a : Int) == 1) = true := by rw [beq_iff_eq]; omega
            by_cases hb1 : b = 1
            · have k5 : ((b : Int) == 1) = true := by rw [beq_iff_eq]; omega
              have hre : res = 0 := by rw [← HR.out, decide_eq_true ha1, decide_eq_true hb1]; simp
              subst hre
              go_wp2_with fail
              go_ret
              exact ⟨rfl, H⟩
            · have k5 : ((b : Int) == 1) = false := by rw [beq_eq_false_iff_ne]; omega
              have hre : res = 20 := by rw [← HR.out, decide_eq_false h0, decide_eq_false ha0, decide_eq_false hb1]; simp
              subst hre
              go_wp2_with fail
              go_ret
              exact ⟨rfl, H⟩
          · have k4 : ((a : Int) == 1) = false := by rw [beq_eq_false_iff_ne]; omega
            have hre : res = 20 := by rw [← HR.out, decide_eq_false h0, decide_eq_false ha0, decide_eq_false ha1]; simp
            subst hre
            go_wp2_with fail
            go_ret
            exact ⟨rfl, H⟩
end Go.Proofs.Ytdlbhoedmaifpaa
