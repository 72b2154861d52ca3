/- HuffM: merge: the items and the packages as one list. -/
import Derived.Test.YtdlbhoedmaifpaaSortF
import Derived.Test.YtdlbhoedmaifpaaConcatK
namespace Go.Proofs.Ytdlbhoedmaifpaa
open Go.RowKit
set_option maxRecDepth 100000 in
set_option maxHeartbeats 2000000 in
theorem merge_ok (A1 A2 : Option Addr) (n1 c1 n2 c2 : Nat) (l1 l2 : List PK) {w0 w : World} {L : List Pr} (H : Sp w0 L w) (h1 : l1.length = n1) (h2 : l2.length = n2) (hb1 : Ent L (fun w => Rd w A1 (cellsK l1))) (hb2 : Ent L (fun w => Rd w A2 (cellsK l2))) (h0 : 0 < n1) (hs : n1 + n2 ≤ 1000000) :
    Calls Try.prog 52 #[.slice A1 n1 c1, .slice A2 n2 c2] w fun e w' => ∃ v, e = .returned v ∧ Sp w0 (RowK v (SS.isort keyK (l1 ++ l2)) :: L) w' := by
  have H1 := H.newBk [.slice A1 n1 c1, .slice A2 n2 c2] 99
  have hrd := Rd.of_blk (H1.blk 0 rfl)
  have hc := concat_okK ⟨w.heap.size, 0, none⟩ 2 2 [⟨A1, n1, c1, cellsK l1⟩, ⟨A2, n2, c2, cellsK l2⟩] H1 rfl (fun _ _ H => Rd.of_blk (H.blk 0 rfl))
    (fun q hq => by
      rcases List.mem_cons.1 hq with rfl | hq
      · exact ⟨by rw [cellsK_len, h1], hb1.cons _, cellsK_one _⟩
      · rw [List.mem_singleton.1 hq]
        exact ⟨by rw [cellsK_len, h2], hb2.cons _, cellsK_one _⟩) (by simp [Part.sum]; omega) (by omega)
  have hsum : Part.sum [⟨A1, n1, c1, cellsK l1⟩, ⟨A2, n2, c2, cellsK l2⟩] = (l1 ++ l2).length := by simp [Part.sum, h1, h2]
  have hcat : Part.cat [⟨A1, n1, c1, cellsK l1⟩, ⟨A2, n2, c2, cellsK l2⟩] = cellsK (l1 ++ l2) := by simp [Part.cat, cellsK_append]
  rw [hsum, hcat] at hc
  have HC := Lib.hid hc
  have hlen : (l1 ++ l2).length = n1 + n2 := by rw [List.length_append, h1, h2]
  have HLEN := Lib.hid hlen
  clear hc hsum hcat hrd h1 h2 hb1 hb2 hlen
  go_enter Try.func52, Try.ntmps52
  go_wp2_with fail
  refine HC.out.mono ?_
  rintro _ w2 ⟨v, rfl, H2⟩
  replace H2 : Sp w0 (RowK v (l1 ++ l2) :: L) w2 := H2.pick 2 [0]
  clear HC H1
  obtain ⟨V, cv, hvf, _, _⟩ := RowK.form H2 0 rfl
  subst hvf
  rw [HLEN.out] at H2 ⊢
  obtain ⟨ad, had⟩ : ∃ ad, V = some ad := by
    obtain ⟨A9, c9, e9, hr9, _, _⟩ := H2.row_rd 0 rfl
    injection e9 with e9
    obtain ⟨ad, ha, _⟩ := hr9 (by
      intro h
      have := cellsK_len (l1 ++ l2)
      rw [h, HLEN.out] at this
      simp at this; omega)
    exact ⟨ad, by rw [e9, ha]⟩
  subst had
  have hc := sortStable_ok ad (n1 + n2) cv (l1 ++ l2) H2 HLEN.out hs
  unfold cmpF at hc
  have HC := Lib.hid hc
  clear hc
  go_wp2_with fail
  refine HC.out.mono ?_
  rintro _ w3 ⟨rfl, H3⟩
  go_wp2_with fail
  go_ret
  exact ⟨_, rfl, H3⟩
end Go.Proofs.Ytdlbhoedmaifpaa
