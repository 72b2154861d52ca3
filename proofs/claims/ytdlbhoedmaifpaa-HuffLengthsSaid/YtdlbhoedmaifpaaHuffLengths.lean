/- HuffLengths: the walk: lengths are the document's, and so is what they cost. -/
import Derived.Test.YtdlbhoedmaifpaaHuffX
import Derived.Test.YtdlbhoedmaifpaaHuffR
namespace Go.Proofs.Ytdlbhoedmaifpaa
set_option linter.unusedVariables false
set_option linter.unusedSimpArgs false
open Go.RowKit
/-- A row of numbers that is owned, read. -/
theorem rowN_rdN {M : List Pr} {V : Option Addr} {n kk : Nat} {l : List Nat} (j : Nat) (hj : M[j]? = some (Row 3 1 (.slice V n kk) n (cellsN l))) : Ent M fun w => Rd w V (cellsN l) := fun _ _ H => by
  obtain ⟨A9, c9, e9, hr9, _, _⟩ := H.row_rd j hj
  injection e9 with e9
  rw [e9]; exact hr9
set_option maxRecDepth 100000 in
set_option maxHeartbeats 20000000 in
theorem lengths_law (A : Option Addr) (ln ca : Nat) (l : List Int) (lm : Int) {w0 w : World} {L : List Pr} (H : Sp w0 L w) (ha : Ent L fun w => Rd w A (cells64 l)) (hla : ln = l.length) (hca : ln ≤ ca) (hcm : ca ≤ maxLen) :
    Calls Try.prog 8 #[.slice A ln ca, .int .i64 lm] w fun e w' => e = .returned (.bool true) ∧ Sp w0 L w' := by
  obtain ⟨i1, hj, hj0, hj1, hj2⟩ := info_parts infoJ
  unfold maxLen at hcm
  obtain ⟨n, hn⟩ : ∃ n, min ln 60 = n := ⟨_, rfl⟩
  have hmn : ∀ W : World, (Builtin.min_ #[3, 3] 3 #[.int .i64 (ln : Int), .int .i64 60]).run Try.prog W = .ok (.int .i64 (n : Int)) W := fun W => by
    simp [Builtin.min_, Builtin.min2]
    split <;> omega
  have hnc : n ≤ ca := by omega
  have hnl : n ≤ 60 := by omega
  have kn1 : (n : Int) ≤ (ca : Int) := by omega
  have kn0 : (0 : Int) ≤ (n : Int) := by omega
  obtain ⟨m, hm⟩ : ∃ m, l.take n = m := ⟨_, rfl⟩
  have hml : n = m.length := by rw [← hm, List.length_take]; omega
  have hra : Ent L fun w => Rd w A (cells64 m) := fun w0' w' H' => by
    have h := (ha w0' w' H').take n
    have e : (cells64 l).take n = cells64 m := by rw [← hm]; unfold cells64; rw [List.map_take]
    rw [e] at h
    exact h
  have HML := Lib.hid hml
  have HRA := Lib.hid hra
  clear hn hm hml ha hra hla hca hcm
  obtain ⟨X, hX⟩ : ∃ X, PL.lensI m lm = X := ⟨_, rfl⟩
  obtain ⟨q, hq⟩ : ∃ q, X.length = q := ⟨_, rfl⟩
  obtain ⟨er, her⟩ : ∃ er, PL.errI m lm = er := ⟨_, rfl⟩
  obtain ⟨co, hco⟩ : ∃ co : Nat, PL.costI m lm = co := ⟨_, rfl⟩
  have hqn : q ≤ n := by rw [← hq, ← hX, HML.out]; exact PL.lensI_len _ _
  have c1 := fun (M : List Pr) (V : Option Addr) (Vc j : Nat) (h : M[j]? = some (Row 3 1 (.slice V n Vc) n (cells64 m))) w (H : Sp w0 M w) => lengths_any V n Vc m lm H HML.out (rowI_rd j h) (by omega)
  have c2 := fun (M : List Pr) (V : Option Addr) (Vc j : Nat) (h : M[j]? = some (Row 3 1 (.slice V n Vc) n (cells64 m))) w (H : Sp w0 M w) => rlengths_any V n Vc m lm H HML.out (rowI_rd j h) (by omega)
  have c3 := fun (M : List Pr) (V : Option Addr) (Vc j : Nat) (h : M[j]? = some (Row 3 1 (.slice V n Vc) n (cells64 m))) (U : Option Addr) (Uc i : Nat) (hu : M[i]? = some (Row 3 1 (.slice U q Uc) q (cellsN X))) w (H : Sp w0 M w) => cost_any V U n Vc q Uc m lm H HML.out (by rw [hX, hq]) (rowI_rd j h) (by rw [hX]; exact rowN_rdN i hu) (by omega)
  have c4 := fun (M : List Pr) (V : Option Addr) (Vc j : Nat) (h : M[j]? = some (Row 3 1 (.slice V n Vc) n (cells64 m))) (U : Option Addr) (Uc i : Nat) (hu : M[i]? = some (Row 3 1 (.slice U q Uc) q (cellsN X))) w (H : Sp w0 M w) => rcost_any V U n Vc q Uc m lm H HML.out (by rw [hX, hq]) (rowI_rd j h) (by rw [hX]; exact rowN_rdN i hu) (by omega)
  have c5 := fun (M : List Pr) (V : Option Addr) (Vc j : Nat) (h : M[j]? = some (Row 3 1 (.slice V n Vc) n (cells64 m))) (U : Option Addr) (Uc i : Nat) (hu : M[i]? = some (Row 3 1 (.slice U n Uc) n (cells64 m))) w (H : Sp w0 M w) => ints_ok V U n Vc n Uc m m H HML.out HML.out (rowI_rd j h) (rowI_rd i hu) (by omega)
  have c6 := fun (M : List Pr) (V : Option Addr) (Vc j : Nat) (h : M[j]? = some (Row 3 1 (.slice V q Vc) q (cellsN X))) (U : Option Addr) (Uc i : Nat) (hu : M[i]? = some (Row 3 1 (.slice U q Uc) q (cellsN X))) w (H : Sp w0 M w) => ints_ok V U q Vc q Uc (castN X) (castN X) H (by rw [← hq, castN, List.length_map]) (by rw [← hq, castN, List.length_map]) (rowN_rd j h) (rowN_rd i hu) (by omega)
  rw [hX, hq, her] at c1 c2
  rw [hco] at c3 c4
  have dm : decide (m = m) = true := by simp
  have dX : decide (castN X = castN X) = true := by simp
  rw [dm] at c5
  rw [dX] at c6
  have ke : (er == er) = true := by simp
  have kc : ((co : Int) == (co : Int)) = true := by simp
  have C1 := Lib.hid c1
  have C2 := Lib.hid c2
  have C3 := Lib.hid c3
  have C4 := Lib.hid c4
  have C5 := Lib.hid c5
  have C6 := Lib.hid c6
  clear c1 c2 c3 c4 c5 c6 dm dX hX hq her hco
  go_enter Try.func8, Try.ntmps8
  go_wp2_with (at_builtin; refine wpList_append_sp rfl _ _ 52 rfl 3 i1 (.int .i64 0) 1 8 Try.underlying52 hj hj0 hj1 hj2 rfl (by decide) (.slice none 0 0) 0 [] rfl (H.rowNil 3 1) A n ca (cells64 m) rfl (by rw [show (cells64 m).length = m.length by simp [cells64], ← HML.out]; omega) (HRA.out _ _ H) (by intro u hu; obtain ⟨x9, _, rfl⟩ := List.mem_map.1 hu; rfl) (by simp only [maxLen]; omega) (by omega) ?_)
  intro v1 w2 H2 _
  clear H HRA hmn
  obtain ⟨V, Vc, hv1, hvc, _⟩ := Row.form H2 0 rfl
  subst hv1
  go_wp2_with (at_builtin; refine wpList_append_sp rfl _ _ 52 rfl 3 i1 (.int .i64 0) 1 8 Try.underlying52 hj hj0 hj1 hj2 rfl (by decide) (.slice none 0 0) 0 [] rfl (H2.rowNil 3 1) V n Vc (cells64 m) rfl (by rw [show (cells64 m).length = m.length by simp [cells64], ← HML.out]; omega) (rowI_rd 0 rfl _ _ H2) (by intro u hu; obtain ⟨x9, _, rfl⟩ := List.mem_map.1 hu; rfl) (by simp only [maxLen]; omega) (by omega) ?_)
  intro v2 w3 H3 _
  clear H2
  obtain ⟨U, Uc, hv2, huc, _⟩ := Row.form H3 0 rfl
  subst hv2
  have HC := Lib.hid (C1.out _ U Uc 0 rfl _ H3)
  go_wp2_with fail
  refine HC.out.mono ?_
  rintro _ w4 ⟨va, rfl, H4⟩
  clear HC H3 C1
  obtain ⟨XA, Xc, hva, _, _⟩ := Row.form H4 0 rfl
  subst hva
  have HC := Lib.hid (C2.out _ V Vc 2 rfl _ H4)
  go_wp2_with fail
  refine HC.out.mono ?_
  rintro _ w5 ⟨vb, rfl, H5⟩
  clear HC H4 C2
  obtain ⟨XB, Yc, hvb, _, _⟩ := Row.form H5 0 rfl
  subst hvb
  have HC := Lib.hid (C6.out _ XA Xc 1 rfl XB Yc 0 rfl _ H5)
  go_wp2_with fail
  refine HC.out.mono ?_
  rintro _ w6 ⟨rfl, H6⟩
  clear HC H5 C6
  have HC := Lib.hid (C5.out _ U Uc 2 rfl V Vc 3 rfl _ H6)
  go_wp2_with fail
  refine HC.out.mono ?_
  rintro _ w7 ⟨rfl, H7⟩
  clear HC H6 C5
  have HC := Lib.hid (C3.out _ V Vc 3 rfl XA Xc 1 rfl _ H7)
  go_wp2_with fail
  refine HC.out.mono ?_
  rintro _ w8 ⟨rfl, H8⟩
  clear HC H7 C3
  have HC := Lib.hid (C4.out _ V Vc 3 rfl XB Yc 0 rfl _ H8)
  go_wp2_with fail
  refine HC.out.mono ?_
  rintro _ w9 ⟨rfl, H9⟩
  clear HC H8 C4
  have HC := Lib.hid (tells_ok H9)
  go_wp2_with fail
  refine HC.out.mono ?_
  rintro _ w10 ⟨rfl, H10⟩
  clear HC H9
  go_wp2_with fail
  go_ret
  exact ⟨rfl, H10.tail.tail.tail.tail⟩
end Go.Proofs.Ytdlbhoedmaifpaa
