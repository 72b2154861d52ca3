/- MatchD: rows of steps, cell by cell; whether two are the same. -/
import Derived.Test.YtdlbhoedmaifpaaMatchQ
namespace Go.Proofs.Ytdlbhoedmaifpaa
open Go.RowKit Go.MapKept
theorem stsV_at (X : List PM.St) (i : Nat) (h : i < X.length) : (stsV X)[i * 3]? = some (.int .i64 (X[i].1 : Int)) ∧ (stsV X)[i * 3 + 1]? = some (.int .i64 (X[i].2.1 : Int)) ∧ (stsV X)[i * 3 + 2]? = some (.int .u8 (X[i].2.2.toNat : Int)) := by
  induction X generalizing i with
  | nil => exact absurd h (Nat.not_lt_zero _)
  | cons x X ih =>
    have e : stsV (x :: X) = stCells x ++ stsV X := rfl
    rw [e]
    cases i with
    | zero => exact ⟨rfl, rfl, rfl⟩
    | succ i =>
      have h3 : (stCells x).length = 3 := rfl
      have := ih i (by simpa using h)
      rw [List.getElem?_append_right (by rw [h3]; omega), List.getElem?_append_right (by rw [h3]; omega), List.getElem?_append_right (by rw [h3]; omega), h3, show (i + 1) * 3 - 3 = i * 3 by omega, show (i + 1) * 3 + 1 - 3 = i * 3 + 1 by omega, show (i + 1) * 3 + 2 - 3 = i * 3 + 2 by omega]
      simpa using this
/-- Steps that lie side by side. -/
def StAt (w : World) (V : Option Addr) (X : List PM.St) : Prop := ∀ (i : Nat) (h : i < X.length), ∃ ad, V = some ad ∧ w.cell? (ad.add (i * 3)) = some (.int .i64 (X[i].1 : Int)) ∧
  w.cell? ⟨(ad.add (i * 3)).block, (ad.add (i * 3)).off + 1, none⟩ = some (.int .i64 (X[i].2.1 : Int)) ∧ w.cell? ⟨(ad.add (i * 3)).block, (ad.add (i * 3)).off + 2, none⟩ = some (.int .u8 (X[i].2.2.toNat : Int))
theorem StAt.of_rd {w : World} {V : Option Addr} {X : List PM.St} (h : Rd w V (stsV X)) : StAt w V X := fun i hi => by
  obtain ⟨ad, e, hc⟩ := h (by
    have := stsV_length X
    intro h0
    rw [h0] at this
    simp only [List.length_nil] at this
    omega)
  obtain ⟨a1, a2, a3⟩ := stsV_at X i hi
  refine ⟨ad, e, hc _ _ a1, ?_, ?_⟩
  · rw [field_addr ad (i * 3) 1 (by omega)]; exact hc _ _ a2
  · rw [field_addr ad (i * 3) 2 (by omega)]; exact hc _ _ a3
theorem Sp.stAt {w0 w : World} {L : List Pr} (H : Sp w0 L w) (k : Nat) {e : TypeId} {n c : Nat} {V : Option Addr} {X : List PM.St} (hk : L[k]? = some (Row e 3 (.slice V n c) n (stsV X))) : StAt w V X := by
  obtain ⟨A, c', e, hr, _⟩ := H.row_rd k hk
  injection e with e
  subst e
  exact .of_rd hr
set_option maxRecDepth 100000 in
theorem same_ok (V1 V2 : Option Addr) (n c1 c2 : Nat) (X : List PM.St) {w0 w : World} {L : List Pr} (H : Sp w0 L w) (hn : n = X.length) (hnm : n ≤ 1000000000) (h1 : Ent L (fun w => StAt w V1 X)) (h2 : Ent L (fun w => StAt w V2 X)) :
    Calls Try.prog 20 #[.slice V1 n c1, .slice V2 n c2] w fun e w' => e = .returned (.bool true) ∧ Sp w0 L w' := by
  have HN := Lib.hid hn
  have H1 := Lib.hid h1
  have H2 := Lib.hid h2
  clear hn h1 h2
  go_enter Try.func20, Try.ntmps20
  go_wp2_with fail
  go_loopw [13] (fun iv wr => ∃ i : Nat, iv = .int .i64 (i : Int) ∧ i ≤ n ∧ Sp w0 L wr) (fun iv _ => n - (intOf iv).toNat)
  case atStart => exact ⟨0, rfl, Nat.zero_le _, H⟩
  case round =>
    obtain ⟨i, rfl, hi, H⟩ := hrel
    by_cases hin : i < n
    · have k1 : (i : Int) < (n : Int) := by omega
      obtain ⟨a1, rfl, p0, p1, p2⟩ := H1.out _ _ H i (by rw [← HN.out]; exact hin)
      obtain ⟨a2, rfl, q0, q1, q2⟩ := H2.out _ _ H i (by rw [← HN.out]; exact hin)
      generalize (X[i]'(by rw [← HN.out]; exact hin)).1 = x1 at p0 q0
      generalize (X[i]'(by rw [← HN.out]; exact hin)).2.1 = x2 at p1 q1
      generalize (X[i]'(by rw [← HN.out]; exact hin)).2.2.toNat = x3 at p2 q2
      go_wp2_with fail
      go_quiet (fail)
      go_wp2
      go_roundw
      case rel => exact ⟨i + 1, by go_num, by omega, H.drewN _⟩
      case measure => first | (simp [intOf]; omega) | simp [intOf]
    · have k1 : ¬ (i : Int) < (n : Int) := by omega
      go_wp2_with fail
      go_ret
      exact ⟨rfl, H⟩
end Go.Proofs.Ytdlbhoedmaifpaa
