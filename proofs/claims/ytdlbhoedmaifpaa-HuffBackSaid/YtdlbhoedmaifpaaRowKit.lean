/- Between the rows' readings and the words of the walks: slices of bytes and of numbers that came in. -/
import Derived.Test.YtdlbhoedmaifpaaBase
import Derived.ProofKit
import Derived.OpenShut
namespace Go.Proofs.Ytdlbhoedmaifpaa
open Go.ChangeShapes Go.WideShapes Go.ChangeAt Go.RowKit

/-- A slice of integers that came in: nil, or a row of 'cap' cells. -/
def IsRow (k : IntKind) (w : World) (a : Option Addr) (len cap : Nat) (zs : List Int) : Prop :=
  (a = none ∧ len = 0 ∧ cap = 0 ∧ zs = []) ∨
  ∃ x, a = some x ∧ len ≤ cap ∧ cap ≤ maxLen ∧ zs.length = cap ∧ (∀ i, i < zs.length → w.cell? (x.add i) = some (.int k (zs.getD i 0))) ∧ ∀ n ∈ zs, (Lit.int k n).wf = true
theorem wf_u8 {n : Int} (h : (Lit.int .u8 n).wf = true) : 0 ≤ n ∧ n < 256 := by
  have := bounds_u8 h; omega
theorem IsRow.byt {w : World} {a : Option Addr} {len cap : Nat} {zs : List Int} (h : IsRow .u8 w a len cap zs) : ∃ l : List UInt8, len = l.length ∧ Byt w (.slice a len cap) l := by
  rcases h with ⟨rfl, rfl, rfl, rfl⟩ | ⟨x, rfl, hl, hm, hz, hc, hw⟩
  · exact ⟨[], rfl, Byt.nil w⟩
  · refine ⟨(zs.take len).map fun n => UInt8.ofNat n.toNat, by simp; omega, some x, cap, by simp; omega, fun _ => ⟨x, rfl, fun j u hu => ?_⟩, by simp; omega, hm⟩
    unfold cells8 at hu
    rw [List.map_map, List.getElem?_map, List.getElem?_take] at hu
    split at hu
    · rename_i hj
      have hjz : j < zs.length := by omega
      rw [List.getElem?_eq_getElem hjz] at hu
      simp only [Option.map_some, Function.comp_apply, Option.some.injEq] at hu
      rw [hc j hjz, ← hu, List.getD_eq_getElem?_getD, List.getElem?_eq_getElem hjz]
      have hb := wf_u8 (hw _ (List.getElem_mem hjz))
      simp only [Option.getD_some]
      congr 2
      rw [UInt8.toNat_ofNat']
      omega
    · simp at hu
/-- An array by value is an aggregate of its cells. -/
theorem okWide_array {P : Program} {w : World} {r : Reach} {base : Nat} {t e : TypeId} {n : Nat} {v : Value} (ht : P.underlying t = some (.array n e)) (h : Value.okWide P w r base t v) : ∃ cs, v = .agg cs ∧ cs.size = P.cellsOf t := by
  cases v <;> simp [Value.okWide, ht] at h
  exact ⟨_, rfl, h.1⟩
/-- Four bytes by value. -/
theorem open_arr4 {H : Type} {enc : TypeId × Value → H} {P : Program} {w : World} {r : Reach} {base b0 : Nat} {spare : Nat → Bool} {held : Bool} {t e : TypeId} {v : Value} {d : DataW H} {p : List MemPlace}
    (ht : P.underlying t = some (.array 4 e)) (he : P.underlying e = some (.int .u8)) (hce : P.cellsOf e = 1) (hct : P.cellsOf t = 4)
    (hv : Value.okWide P w r base t v) (h : DataW.Trod enc P w b0 spare held t v d p) :
    ∃ a b c d' : UInt8, v = .agg #[.int .u8 (a.toNat : Int), .int .u8 (b.toNat : Int), .int .u8 (c.toNat : Int), .int .u8 (d'.toNat : Int)] := by
  obtain ⟨cs, rfl, hsz⟩ := okWide_array ht hv
  obtain ⟨l⟩ := cs
  rw [hct] at hsz
  match l, hsz with
  | [c0, c1, c2, c3], _ =>
    obtain ⟨fuel, hf⟩ := h
    obtain ⟨xs, m, _, _, _, hn, hg⟩ := DataW.trod_array ht hf
    have one : ∀ (c : Value) (x : DataW H × List MemPlace), DataW.trod enc P w b0 spare held m e [c] = some x → ∃ u : UInt8, c = .int .u8 (u.toNat : Int) := by
      intro c x hx
      obtain ⟨k, e1, _, wk⟩ := DataW.trod_int he hx
      have hb := wf_u8 wk
      refine ⟨UInt8.ofNat k.toNat, ?_⟩
      have e2 : c = .int .u8 k := by simpa using e1
      rw [e2, UInt8.toNat_ofNat']
      congr 1
      omega
    match xs, hn with
    | [x0, x1, x2, x3], _ =>
      have g0 := hg 0 (by omega)
      have g1 := hg 1 (by omega)
      have g2 := hg 2 (by omega)
      have g3 := hg 3 (by omega)
      rw [hce] at g0 g1 g2 g3
      obtain ⟨u0, rfl⟩ := one c0 x0 (by simpa [Value.cells] using g0)
      obtain ⟨u1, rfl⟩ := one c1 x1 (by simpa [Value.cells] using g1)
      obtain ⟨u2, rfl⟩ := one c2 x2 (by simpa [Value.cells] using g2)
      obtain ⟨u3, rfl⟩ := one c3 x3 (by simpa [Value.cells] using g3)
      exact ⟨u0, u1, u2, u3, rfl⟩
end Go.Proofs.Ytdlbhoedmaifpaa
