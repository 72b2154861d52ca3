/- HuffReads: the law's statement, out of its walk. States, codes, books and what they read, bit by bit, are the document's; for any lengths, bits, code and number. -/
import Derived.Test.YtdlbhoedmaifpaaRows
import Derived.Test.YtdlbhoedmaifpaaRowKit
import Derived.WalkKit
import Derived.ProofKit
import Derived.OpenShut
import Derived.ShutString
import Derived.ChangeOld
import Derived.Below
import Derived.Test.YtdlbhoedmaifpaaLawEnd
import Derived.Test.YtdlbhoedmaifpaaHuffReads
import Derived.Test.YtdlbhoedmaifpaaOpenRows
namespace Go.Proofs.Ytdlbhoedmaifpaa.huffReads
open Go.ChangeShapes Go.WideShapes Go.ChangeAt Go.RowKit Go.WideMaps Go.WideElems
open Go.ChangeMaps (open_string shut_string)
set_option linter.unusedVariables false

theorem own : ownKnob Try.prog.godebug = none := by kernel_rfl
theorem laidOut : laidOutB Try.prog = true := by kernel_rfl
set_option maxRecDepth 100000 in
set_option maxHeartbeats 1000000 in
theorem lifted (os : Os) (started : os.Started) (H : Type) (enc : TypeId × Value → H) :
    ReturnsInHanded {} Try.checked os 11 .any (Rows.huffReadsSpec.pre6 enc Try.prog Try.f11 Rows.huffReadsRow.domain false) (Rows.huffReadsSpec.post enc Try.prog Try.f11 false true false false) := by
  refine returnsInHanded_of_change (C := Try.checked) own started (by kernel_rfl) Try.func11
    (ChangeSpec.witness6 (enc := enc) (C := Try.checked) false ⟨#[], #[.slice none 0 0, .slice none 0 0, .int .u32 0, .int .i64 0], []⟩ 8 (by kernel_rfl) (by kernel_rfl) (by kernel_rfl) (by kernel_rfl)) ?_
  intro W base args ds gs before hval0 hW hcnd _
  have hval : ∀ (j : Nat) t v, Try.f11.params[j]? = some t → args[j]? = some v → Value.okWide Try.prog W .any base t v := hval0
  have hW' := hW
  obtain ⟨p, q, hA0, hV, rfl, hfz, hnd⟩ := hW
  have hA : DataW.TrodAll enc Try.prog W 0 (fun _ => true) true Try.f11.params.toList args.toList ds p := hA0
  rw [Try.params11] at hA hval
  obtain ⟨v0, vs0, d0, ds0, p0, q0, hargs, rfl, rfl, h0, r0⟩ := trodAll_cons hA
  obtain ⟨v1, vs1, d1, ds1, p1, q1, rfl, rfl, rfl, h1, r1⟩ := trodAll_cons r0
  obtain ⟨v2, vs2, d2, ds2, p2, q2, rfl, rfl, rfl, h2, r2⟩ := trodAll_cons r1
  obtain ⟨v3, vs3, d3, ds3, p3, q3, rfl, rfl, rfl, h3, r3⟩ := trodAll_cons r2
  obtain ⟨rfl, rfl, rfl⟩ := trodAll_nil r3
  obtain rfl : args = #[v0, v1, v2, v3] := by cases args; simp_all
  obtain ⟨rfl, rfl⟩ := trodVars_none hV
  obtain ⟨a0, len0, cap0, rfl⟩ := okWide_slice Try.underlying52 (hval 0 52 v0 rfl rfl)
  have k0 := h0
  have lt0 : ∀ x ∈ p0, x.block < W.heap.size := by obtain ⟨m, hm⟩ := k0; exact DataW.trod_lt m _ _ _ hm
  obtain ⟨ps0, w0, l0, c0, m0, g0⟩ : ∃ ps : List Int, Rd W a0 (ps.map (Value.int .i64)) ∧ len0 = ps.length ∧ len0 ≤ cap0 ∧ cap0 ≤ maxLen ∧ ∀ p ∈ ps, (-9223372036854775808 ≤ p ∧ p ≤ 9223372036854775807) := by
    obtain ⟨fuel, hf⟩ := h0
    exact open_row1 (Value.int .i64) _ Try.underlying52 (by kernel_rfl) (el_i64 Try.underlying3) hf
  obtain ⟨a1, len1, cap1, rfl⟩ := okWide_slice Try.underlying73 (hval 1 73 v1 rfl rfl)
  have k1 := h1
  have lt1 : ∀ x ∈ p1, x.block < W.heap.size := by obtain ⟨m, hm⟩ := k1; exact DataW.trod_lt m _ _ _ hm
  obtain ⟨ps1, w1, l1, c1, m1, g1⟩ : ∃ ps : List Bool, Rd W a1 (ps.map Value.bool) ∧ len1 = ps.length ∧ len1 ≤ cap1 ∧ cap1 ≤ maxLen ∧ ∀ p ∈ ps, True := by
    obtain ⟨fuel, hf⟩ := h1
    exact open_row1 Value.bool (fun _ => True) Try.underlying73 (by kernel_rfl) (el_bool Try.underlying4) hf
  obtain ⟨x2, rfl, rfl, rfl, wx2⟩ := open_int Try.underlying70 (hval 2 70 v2 rfl rfl) h2
  obtain ⟨n2, rfl⟩ := Int.eq_ofNat_of_zero_le (bounds_u32 wx2).1
  have bn2 := (bounds_u32 wx2).2
  obtain ⟨x3, rfl, rfl, rfl, wx3⟩ := open_int Try.underlying3 (hval 3 3 v3 rfl rfl) h3
  have bx3 := bounds_i64 wx3
  clear hA0 hval0
  refine (law_end (reads_any a0 len0 cap0 ps0 a1 len1 cap1 ps1 n2 x3 (Sp.start W) (Rd.same w0 0 rfl) (Rd.same w1 0 rfl) l0 c0 m0 l1 c1 m1 (by omega))).mono fun e W' ⟨he, bel⟩ => ?_
  subst he
  exact ⟨_, rfl, _, _, _, [], _, [], hW', trodAll_mk1 (shut_bool Try.underlying4 _), (trodAll_cons_mk (Below.trod laidOut (by kernel_rfl) (of_decide_eq_true (by kernel_rfl)) k0 bel lt0) (trodAll_cons_mk (Below.trod laidOut (by kernel_rfl) (of_decide_eq_true (by kernel_rfl)) k1 bel lt1) (trodAll_cons_mk (shut_int Try.underlying70 wx2) (trodAll_cons_mk (shut_int Try.underlying3 wx3) trodAll_mk0)))), rfl, bel.frame _, fun h => by cases h⟩

theorem over : Rows.huffReadsRow.holds Try.pinned (OpenSpec.ofChange Rows.huffReadsSpec) :=
  OpenClaim.holds_of_wide 11 Try.f11 rfl rfl rfl rfl rfl rfl rfl ⟨rfl, rfl, rfl, rfl, rfl⟩ rfl rfl rfl rfl rfl (by kernel_rfl) Try.func11 (by kernel_rfl)
    (of_decide_eq_true (by kernel_rfl)) (by unfold Func.isWrapper; first | (rw [if_pos (by decide +kernel)]; kernel_rfl) | (rw [if_neg (by decide +kernel)]; exact ⟨rfl, rfl⟩))
    (fun os started H enc _ => lifted os started H enc)
theorem row_proved : Rows.HuffReadsSaid := over
theorem proved : Rows.HuffReadsSaid := row_proved
#print axioms proved
end Go.Proofs.Ytdlbhoedmaifpaa.huffReads
