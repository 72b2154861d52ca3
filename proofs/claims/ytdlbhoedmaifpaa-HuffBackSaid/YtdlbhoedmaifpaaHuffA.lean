/- HuffA: may, tally, State. -/
import Derived.Test.YtdlbhoedmaifpaaHuffPlain
import Derived.Test.YtdlbhoedmaifpaaLib3
namespace Go.Proofs.Ytdlbhoedmaifpaa
open Go.RowKit
theorem Rd.at64 {w : World} {A : Option Addr} {l : List Int} (h : Rd w A (cells64 l)) {k : Nat} (hk : k < l.length) :
    ∃ ad, A = some ad ∧ w.cell? (ad.add k) = some (.int .i64 l[k]) := by
  obtain ⟨ad, e, hc⟩ := h.at_ (k := k) (by simpa [cells64] using hk)
  exact ⟨ad, e, by simpa [cells64] using hc⟩
theorem bad_ok (n : Int) (w : World) : Calls Try.prog 69 #[.int .i64 n] w fun e w' => e = .returned (.bool (PH.bad n)) ∧ w = w' := by
  obtain ⟨r, hr⟩ : ∃ r, PH.bad n = r := ⟨_, rfl⟩
  have HR := Lib.hid hr
  rw [hr]
  clear hr
  go_enter Try.func69, Try.ntmps69
  go_wp2
  all_goals (
    go_ret
    refine ⟨ret_bool ?_, rfl⟩
    rw [← HR.out]
    unfold PH.bad
    first
      | exact (decide_eq_true (by omega)).symm
      | exact (decide_eq_false (by omega)).symm
      | (rw [Bool.eq_iff_iff]; simp only [Bool.or_eq_true, decide_eq_true_eq]; done)
      | (rw [Bool.eq_iff_iff]; simp only [Bool.or_eq_true, decide_eq_true_eq]; omega))
set_option maxRecDepth 100000 in
theorem index_ok (A : Option Addr) (n c : Nat) (l : List Int) {w0 w : World} {L : List Pr} (H : Sp w0 L w) (hn : n = l.length) (hb : Ent L fun w => Rd w A (cells64 l)) (hl : n ≤ 1000000000) :
    Calls Try.prog 74 #[.slice A n c, .func (.func 69) #[] #[]] w fun e w' => ∃ r : Int, e = .returned (.int .i64 r) ∧ (0 ≤ r ↔ l.any PH.bad = true) ∧ Sp w0 L w' := by
  have HN := Lib.hid hn
  have HB := Lib.hid hb
  clear hn hb
  obtain ⟨z, hz⟩ : ∃ z, l.any PH.bad = z := ⟨_, rfl⟩
  rw [hz]
  have HZ := Lib.hid hz
  clear hz
  go_enter Try.func74, Try.ntmps74
  go_wp2_with fail
  go_loopw [8] (fun iv wr => ∃ i : Nat, iv = .int .i64 (i : Int) ∧ i ≤ n ∧ (l.take i).any PH.bad = false ∧ Sp w0 L wr) (fun iv _ => n - (intOf iv).toNat)
  case atStart => exact ⟨0, rfl, Nat.zero_le _, rfl, H⟩
  case round =>
    obtain ⟨i, rfl, hi, hno, H⟩ := hrel
    have HNO := Lib.hid hno
    clear hno
    by_cases hin : i < n
    · have k1 : (i : Int) < (n : Int) := by omega
      have hiX : i < l.length := by rw [← HN.out]; exact hin
      obtain ⟨ad, rfl, hc⟩ := (HB.out _ _ H).at64 hiX
      obtain ⟨x, hx⟩ : ∃ x, l[i] = x := ⟨_, rfl⟩
      rw [hx] at hc
      have htk : (l.take (i + 1)).any PH.bad = PH.bad x := by
        rw [List.take_succ_eq_append_getElem hiX, List.any_append, HNO.out, hx]
        simp
      have HTK := Lib.hid htk
      have hmem : x ∈ l := by rw [← hx]; exact List.getElem_mem hiX
      have HMEM := Lib.hid hmem
      clear htk hx hmem
      go_wp2_with fail
      refine (bad_ok x _).mono ?_
      rintro _ _ ⟨rfl, rfl⟩
      cases hbx : PH.bad x
      · rw [hbx] at HTK
        go_wp2_with fail
        go_roundw
        case rel => exact ⟨i + 1, by go_num, by omega, HTK.out, H⟩
        case measure => first | (simp [intOf]; omega) | simp [intOf]
      · have HBX := Lib.hid hbx
        clear hbx
        go_wp2_with fail
        go_ret
        exact ⟨_, rfl, ⟨fun _ => by rw [← HZ.out]; exact List.any_eq_true.2 ⟨x, HMEM.out, HBX.out⟩, fun _ => by omega⟩, H⟩
    · have k1 : ¬ (i : Int) < (n : Int) := by omega
      go_wp2_with fail
      go_ret
      have h0 := HNO.out
      rw [List.take_of_length_le (by rw [← HN.out]; omega), HZ.out] at h0
      refine ⟨_, rfl, ?_, H⟩
      rw [h0]
      exact ⟨fun h => absurd h (by omega), fun h => by cases h⟩
set_option maxRecDepth 100000 in
set_option maxHeartbeats 1000000 in
theorem contains_ok (A : Option Addr) (n c : Nat) (l : List Int) {w0 w : World} {L : List Pr} (H : Sp w0 L w) (hn : n = l.length) (hb : Ent L fun w => Rd w A (cells64 l)) (hl : n ≤ 1000000000) :
    Calls Try.prog 68 #[.slice A n c, .func (.func 69) #[] #[]] w fun e w' => e = .returned (.bool (l.any PH.bad)) ∧ Sp w0 L w' := by
  have hix := index_ok A n c l H hn hb hl
  obtain ⟨z, hz⟩ : ∃ z, l.any PH.bad = z := ⟨_, rfl⟩
  rw [hz] at hix ⊢
  have HIX := Lib.hid hix
  clear hix hz hb hn
  go_enter Try.func68, Try.ntmps68
  go_wp2_with fail
  refine HIX.out.mono ?_
  rintro _ w2 ⟨r, rfl, hr, H2⟩
  clear HIX
  by_cases h0 : 0 ≤ r
  · have h1 := hr.1 h0
    subst h1
    clear hr
    go_wp2
    go_ret
    exact ⟨rfl, H2⟩
  · have h1 : z = false := by
      cases z
      · rfl
      · exact absurd (hr.2 rfl) h0
    subst h1
    have k : decide (0 ≤ r) = false := decide_eq_false h0
    clear hr h0
    go_wp2
    go_ret
    exact ⟨rfl, H2⟩
set_option maxRecDepth 100000 in
set_option maxHeartbeats 1000000 in
theorem hmay_ok (A : Option Addr) (n c : Nat) (l : List Int) {w0 w : World} {L : List Pr} (H : Sp w0 L w) (hn : n = l.length) (hb : Ent L fun w => Rd w A (cells64 l)) (hl : n ≤ 1000000000) :
    Calls Try.prog 56 #[.slice A n c] w fun e w' => e = .returned (.bool (PH.may l)) ∧ Sp w0 L w' := by
  have hc := contains_ok A n c l H hn hb hl
  obtain ⟨z, hz⟩ : ∃ z, l.any PH.bad = z := ⟨_, rfl⟩
  obtain ⟨m, hm⟩ : ∃ m, PH.may l = m := ⟨_, rfl⟩
  rw [hz] at hc
  rw [hm]
  have HC := Lib.hid hc
  have hmz : m = (decide (n ≤ 1024) && !z) := by rw [← hm, ← hz, hn]; rfl
  have HMZ := Lib.hid hmz
  clear hc hz hm hmz hb hn
  by_cases h : n ≤ 1024
  · have k1 : decide ((n : Int) ≤ 1024) = true := decide_eq_true (by omega)
    go_enter Try.func56, Try.ntmps56
    go_wp2_with fail
    refine HC.out.mono ?_
    rintro _ w2 ⟨rfl, H2⟩
    go_wp2
    go_ret
    exact ⟨ret_bool (by rw [HMZ.out, decide_eq_true h]; rfl), H2⟩
  · have k1 : decide ((n : Int) ≤ 1024) = false := decide_eq_false (by omega)
    go_enter Try.func56, Try.ntmps56
    go_wp2
    go_ret
    exact ⟨ret_bool (by rw [HMZ.out, decide_eq_false h]; rfl), H⟩
end Go.Proofs.Ytdlbhoedmaifpaa
