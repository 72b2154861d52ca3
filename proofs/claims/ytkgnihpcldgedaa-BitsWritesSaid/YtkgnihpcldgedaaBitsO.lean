/- BitsO: the reader's Align, Bytes. -/
import Derived.Test.YtkgnihpcldgedaaBitsP
namespace Go.Proofs.Ytkgnihpcldgedaa
open Go.RowKit
set_option maxRecDepth 100000 in
theorem ralign_ok (g : Nat) (l : List UInt8) (at_ : Nat) {w0 w : World} {L : List Pr} (H : Sp w0 (Rr g l at_ :: L) w) (ha : at_ ≤ 8 * l.length) (hl : l.length ≤ 1000000000) :
    Calls Try.prog 53 #[.pointer (some ⟨g, 0, none⟩)] w fun e w' => e = .returned (.int .i64 0) ∧ Sp w0 (Rr g l ((at_ + 7) / 8 * 8) :: L) w' := by
  obtain ⟨A, c, H, _, c0, c1, c2⟩ := rr_open H
  have z1 : w.frozen? ⟨g, 1, none⟩ = false := H.frozen 0 rfl 1
  have h1 : (at_ : Int) ≤ 9000000000 := by omega
  have e1 : bits .and .i64 (-(at_ : Int)) 7 = (((8 - at_ % 8) % 8 : Nat) : Int) := by rw [i64_and7]; omega
  obtain ⟨d, hd⟩ : ∃ d, (8 - at_ % 8) % 8 = d := ⟨_, rfl⟩
  rw [hd] at e1
  have hd8 : d < 8 := by omega
  have HD := Lib.hid hd
  clear hd
  go_enter Try.func53, Try.ntmps53
  go_wp2_with fail
  refine (rnone_any g _ c2).mono ?_
  rintro e w2 ⟨rfl, rfl⟩
  go_wp2
  go_still_tail 13, (by kernel_rfl)
  change wpList _ _ _ _ _ w.drew
  go_wp2
  go_ret
  refine ⟨rfl, Sp.ex (.slice A l.length c) (Sp.star ?_)⟩
  have e2 : (((at_ + 7) / 8 * 8 : Nat) : Int) = (at_ : Int) + d := by have := HD.out; omega
  unfold RrB
  rw [e2, e1]
  exact (H.set 1 (.int .i64 ((at_ : Int) + d))).drew
set_option maxRecDepth 100000 in
theorem rbytes_ok (g : Nat) (l : List UInt8) (q k : Nat) {w0 w : World} {L : List Pr} (H : Sp w0 (Rr g l (8 * q) :: L) w) (ha : q + k ≤ l.length) (hl : l.length ≤ 1000000000) :
    Calls Try.prog 55 #[.pointer (some ⟨g, 0, none⟩), .int .i64 (k : Int)] w (Ret fun v w' => ∃ u, v = .tuple #[u, .int .i64 0] ∧ Sp w0 (Row 5 1 u k (cells8 ((l.drop q).take k)) :: Rr g l (8 * (q + k)) :: L) w') := by
  obtain ⟨_, _, _, _, _, c1, c2⟩ := rr_open H
  rw [Int.natCast_mul] at c1
  have hq2 : (q : Int) ≤ 1000000000 := by omega
  have hk2 : (k : Int) ≤ 1000000000 := by omega
  have t0 : ((8 : Int) * q % 8 == 0) = true := by rw [beq_iff_eq]; omega
  go_enter Try.func55, Try.ntmps55
  go_wp2_with fail
  refine (rasks_ok g 0 _ c2 (by omega) (by omega)).mono ?_
  rintro e w2 ⟨rfl, rfl⟩
  clear t0 c1 c2
  go_wp2_with fail
  refine (left_ok g l (8 * q) H (by omega) hl).mono ?_
  rintro e w2 ⟨rfl, hK⟩
  replace H := hK.sep H
  clear hK
  obtain ⟨A, c, H, hB, c0, c1, c2⟩ := rr_open H
  have z1 : w2.frozen? ⟨g, 1, none⟩ = false := H.frozen 0 rfl 1
  rw [Int.natCast_mul] at c1
  have hcm : c ≤ maxLen := by obtain ⟨_, _, e, _, _, h⟩ := hB; injection e with _ _ e; omega
  have hcl : l.length ≤ c := by obtain ⟨_, _, e, _, h, _⟩ := hB; injection e with _ _ e; omega
  unfold maxLen at hcm
  have t1 : ¬ ((8 * l.length - 8 * q : Nat) : Int) / 8 < k := by omega
  have t2 : (8 : Int) * q / 8 = q := by omega
  have t3 : (q : Int) + k ≤ c := by omega
  have t4 : (0 : Int) ≤ (q : Int) + k := by omega
  have e8 : ((8 * (q + k) : Nat) : Int) = 8 * (q : Int) + 8 * k := by omega
  have H2 : Sp w0 (RrB g (.slice A l.length c) (8 * (q + k)) :: Row 5 1 (.slice A l.length c) l.length (cells8 l) :: L) (w2.setCell ⟨g, 1, none⟩ (.int .i64 (8 * (q : Int) + 8 * k))) := by
    have := H.set 1 (.int .i64 (8 * (q : Int) + 8 * k))
    unfold RrB
    rw [e8]
    exact this
  clear e8
  have hB2 : Byt (w2.setCell ⟨g, 1, none⟩ (.int .i64 (8 * (q : Int) + 8 * k))) (.slice A l.length c) l := H2.row_byt 1 rfl
  by_cases hcq : c = q
  · subst hcq
    obtain rfl : k = 0 := by omega
    go_wp2_with fail
    refine (clone_ok (l := []) H2 ⟨_, _, rfl, Rd.nil, Nat.zero_le _, by simp [maxLen]⟩ (by simp)).mono ?_
    rintro e w3 ⟨u, rfl, H3⟩
    go_wp2
    go_ret2
    exact ⟨_, rfl, _, rfl, Sp.swap (Sp.ex (.slice A l.length c) (Sp.star (by simpa using H3.pick 3 [1, 2, 0])))⟩
  · have hs := (hB2.drop q (by omega)).take k (by simp; omega)
    go_wp2_with fail
    refine (clone_ok H2 hs (by simp; omega)).mono ?_
    rintro e w3 ⟨u, rfl, H3⟩
    go_wp2
    go_ret2
    refine ⟨_, rfl, _, rfl, Sp.swap (Sp.ex (.slice A l.length c) (Sp.star ?_))⟩
    have e9 : ((l.drop q).take k).length = k := by simp; omega
    rw [e9] at H3
    exact H3.pick 3 [1, 2, 0]
end Go.Proofs.Ytkgnihpcldgedaa
