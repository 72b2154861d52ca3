/- MatchW: the document's examples of matches. -/
import Derived.Test.YtdlbhoedmaifpaaMatchT
import Derived.Test.YtdlbhoedmaifpaaLib3
namespace Go.Proofs.Ytdlbhoedmaifpaa
open Go.RowKit Go.MapKept
set_option maxRecDepth 100000 in
theorem is_ok (ad : Addr) (n c i k a b : Nat) (w : World) (hi : i < n) (hk : i * 3 = k) (f0 : w.cell? (ad.add k) = some (.int .i64 (a : Int))) (f1 : w.cell? (ad.add (k + 1)) = some (.int .i64 (b : Int))) :
    Calls Try.prog 46 #[.slice (some ad) n c, .int .i64 (i : Int), .int .i64 (a : Int), .int .i64 (b : Int)] w fun e w' => e = .returned (.bool true) ∧ w = w' := by
  have k1 : decide ((i : Int) < (n : Int)) = true := decide_eq_true (by omega)
  have k2 : (i : Int) < (n : Int) := by omega
  subst hk
  rw [← field_addr ad (i * 3) 1 (by omega)] at f1
  go_enter Try.func46, Try.ntmps46
  go_wp2
  go_ret
  exact ⟨rfl, rfl⟩
set_option maxRecDepth 100000 in
theorem wakes_ok {w0 w : World} {L : List Pr} (H : Sp w0 L w) :
    Calls Try.prog 15 #[] w fun e w' => e = .returned (.bool true) ∧ Sp w0 L w' := by
  have e1 : cutL [97, 97, 97, 97, 97] 8 = [(0, 0, 97), (4, 1, 0)] := by decide +kernel
  have e2 : cutL [97, 98, 99, 97, 98, 99, 100] 8 = [(0, 0, 97), (0, 0, 98), (0, 0, 99), (3, 3, 0), (0, 0, 100)] := by decide +kernel
  have e3 : cutL [97, 98, 99, 98, 99, 100, 97, 98, 99, 100] 8 = [(0, 0, 97), (0, 0, 98), (0, 0, 99), (0, 0, 98), (0, 0, 99), (0, 0, 100), (3, 6, 0), (0, 0, 100)] := by decide +kernel
  have E1 := Lib.hid e1
  have E2 := Lib.hid e2
  have E3 := Lib.hid e3
  clear e1 e2 e3
  have hcE : cutE 8 = 0 := rfl
  obtain ⟨u1, hc1, G1⟩ := lit_ok H [97, 97, 97, 97, 97]
  have hv1 : Sem.run Try.prog (convert 22 22 (.slice (some ⟨w.heap.size, 0, none⟩) 5 5)) (w.alloc (.cells #[.int .u8 97, .int .u8 97, .int .u8 97, .int .u8 97, .int .u8 97] 5)) = .ok (.slice (some ⟨w.heap.size, 0, none⟩) 5 5) u1 := hc1 5 rfl
  clear hc1
  go_enter Try.func15, Try.ntmps15
  go_wp2_with fail
  clear hv1
  generalize w.heap.size = g1 at G1 ⊢
  have hC1 := Cut_ok 5 8 (some ⟨g1, 0, none⟩) 5 [97, 97, 97, 97, 97] G1 rfl (fun _ _ H => H.lit 0 rfl (by decide)) (by omega)
  rw [E1.out, hcE] at hC1
  refine hC1.mono ?_
  rintro _ w1 ⟨v1, rfl, H1⟩
  clear hC1 G1 u1 E1
  obtain ⟨u2, hc2, G2⟩ := lit_ok H1 [97, 98, 99, 97, 98, 99, 100]
  have hv2 : Sem.run Try.prog (convert 22 22 (.slice (some ⟨w1.heap.size, 0, none⟩) 7 7)) (w1.alloc (.cells #[.int .u8 97, .int .u8 98, .int .u8 99, .int .u8 97, .int .u8 98, .int .u8 99, .int .u8 100] 5)) = .ok (.slice (some ⟨w1.heap.size, 0, none⟩) 7 7) u2 := hc2 7 rfl
  clear hc2
  
  go_wp2_with fail
  clear hv2
  generalize w1.heap.size = g2 at G2 ⊢
  have hC2 := Cut_ok 7 8 (some ⟨g2, 0, none⟩) 7 [97, 98, 99, 97, 98, 99, 100] G2 rfl (fun _ _ H => H.lit 0 rfl (by decide)) (by omega)
  rw [E2.out, hcE] at hC2
  refine hC2.mono ?_
  rintro _ w2 ⟨v2, rfl, H2⟩
  clear hC2 G2 u2 E2
  obtain ⟨u3, hc3, G3⟩ := lit_ok H2 [97, 98, 99, 98, 99, 100, 97, 98, 99, 100]
  have hv3 : Sem.run Try.prog (convert 22 22 (.slice (some ⟨w2.heap.size, 0, none⟩) 10 10)) (w2.alloc (.cells #[.int .u8 97, .int .u8 98, .int .u8 99, .int .u8 98, .int .u8 99, .int .u8 100, .int .u8 97, .int .u8 98, .int .u8 99, .int .u8 100] 5)) = .ok (.slice (some ⟨w2.heap.size, 0, none⟩) 10 10) u3 := hc3 10 rfl
  clear hc3
  
  go_wp2_with fail
  clear hv3
  generalize w2.heap.size = g3 at G3 ⊢
  have hC3 := Cut_ok 10 8 (some ⟨g3, 0, none⟩) 10 [97, 98, 99, 98, 99, 100, 97, 98, 99, 100] G3 rfl (fun _ _ H => H.lit 0 rfl (by decide)) (by omega)
  rw [E3.out, hcE] at hC3
  refine hC3.mono ?_
  rintro _ w3 ⟨v3, rfl, H3⟩
  clear hC3 G3 u3 E3
  obtain ⟨V1, c1, rfl, r1, _, _⟩ := H3.row_rd 4 rfl
  obtain ⟨V2, c2, rfl, r2, _, _⟩ := H3.row_rd 2 rfl
  obtain ⟨V3, c3, rfl, r3, _, _⟩ := H3.row_rd 0 rfl
  obtain ⟨a1, rfl, q1⟩ := r1 (by decide)
  obtain ⟨a2, rfl, q2⟩ := r2 (by decide)
  obtain ⟨a3, rfl, q3⟩ := r3 (by decide)
  have i1 := is_ok a1 2 c1 1 3 4 1 w3 (by omega) rfl (q1 3 _ rfl) (q1 4 _ rfl)
  have i2 := is_ok a2 5 c2 3 9 3 3 w3 (by omega) rfl (q2 9 _ rfl) (q2 10 _ rfl)
  have i3 := is_ok a3 8 c3 6 18 3 6 w3 (by omega) rfl (q3 18 _ rfl) (q3 19 _ rfl)
  have i4 : w3.cell? ⟨a3.block, a3.off + 21 + 2, none⟩ = some (.int .u8 100) := by
    have := field_addr a3 21 2 (by omega)
    rw [show a3.add 21 = ⟨a3.block, a3.off + 21, none⟩ by simp [Addr.add]] at this
    rw [this]
    exact q3 23 _ rfl
  have I1 := Lib.hid i1
  have I2 := Lib.hid i2
  have I3 := Lib.hid i3
  clear q1 q2 q3 r1 r2 r3 i1 i2 i3
  go_wp2_with fail
  refine I1.out.mono ?_
  rintro _ _ ⟨rfl, rfl⟩
  go_wp2_with fail
  refine I2.out.mono ?_
  rintro _ _ ⟨rfl, rfl⟩
  go_wp2_with fail
  refine I3.out.mono ?_
  rintro _ _ ⟨rfl, rfl⟩
  go_wp2_with fail
  go_ret
  exact ⟨rfl, H3.pick 6 []⟩
end Go.Proofs.Ytdlbhoedmaifpaa
