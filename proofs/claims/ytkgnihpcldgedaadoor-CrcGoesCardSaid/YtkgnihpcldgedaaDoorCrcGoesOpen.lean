/- CrcGoes: the parts that come in, opened: a slice of structs of a flag and a slice of bytes. -/
import Derived.Test.YtkgnihpcldgedaaDoorCrcGoes
import Derived.Test.YtkgnihpcldgedaaDoorRowKit
import Derived.Deep.Slices
import Derived.Deep.Fields
import Derived.ChangeSame
namespace Go.Proofs.YtkgnihpcldgedaaDoor
open Go.ChangeShapes Go.WideShapes Go.ChangeAt Go.RowKit Go.Deep
section
variable {H : Type} {enc : TypeId × Value → H} {P : Program} {w : World} {base : Nat} {spare : Nat → Bool} {held : Bool}
/-- One part: two cells side by side. -/
theorem open_part {e : TypeId} {f0 f1 : Field} {eb : TypeId} {fuel : Nat} {cs : List Value} {x : DataW H × List MemPlace} (he : P.underlying e = some (.struct #[f0, f1])) (hone : oneCellFields P #[f0, f1] = true)
    (hC : P.cellsOf e = 2) (h0 : P.underlying f0.type = some .bool) (h1 : P.underlying f1.type = some (.slice eb)) (h2 : P.underlying eb = some (.int .u8)) (h3 : P.cellsOf eb = 1)
    (h : DataW.trod enc P w base (fun _ => true) held fuel e cs = some x) : ∃ (r : Bool) (v : Value) (l : List UInt8), cs = [.bool r, v] ∧ Byt w v l := by
  obtain ⟨y0, y1, n, _, hlen, g0, g1⟩ := trod_struct2 he h
  obtain ⟨o0, k0⟩ := hone_of hone 0 f0 rfl
  obtain ⟨o1, k1⟩ := hone_of hone 1 f1 rfl
  rw [hC] at hlen
  match cs, hlen with
  | [c0, c1], _ =>
    rw [o0, k0] at g0
    rw [o1, k1] at g1
    obtain ⟨r, er, _⟩ := DataW.trod_bool h0 g0
    have er : c0 = .bool r := by simpa using er
    subst er
    rcases open_ints h1 h2 h3 g1 with ⟨hcs, _⟩ | ⟨x, l, c, zs, hcs, _, hl, hm, hz, _, hcell, hwz⟩
    · have : c1 = .slice none 0 0 := by simpa using hcs
      subst this
      exact ⟨r, _, [], rfl, Byt.nil w⟩
    · have : c1 = .slice (some x) l c := by simpa using hcs
      subst this
      obtain ⟨l0, rfl, hb⟩ := IsRow.byt (w := w) (a := some x) (len := l) (cap := c) (zs := zs) (.inr ⟨x, rfl, hl, hm, by simpa using hz, hcell, hwz⟩)
      exact ⟨r, _, l0, rfl, hb⟩
theorem open_goes {t e eb : TypeId} {f0 f1 : Field} {A : Option Addr} {len cap : Nat} {fuel : Nat} {x : DataW H × List MemPlace} (ht : P.underlying t = some (.slice e)) (he : P.underlying e = some (.struct #[f0, f1])) (hone : oneCellFields P #[f0, f1] = true)
    (hC : P.cellsOf e = 2) (h0 : P.underlying f0.type = some .bool) (h1 : P.underlying f1.type = some (.slice eb)) (h2 : P.underlying eb = some (.int .u8)) (h3 : P.cellsOf eb = 1)
    (h : DataW.trod enc P w base (fun _ => true) held fuel t [.slice A len cap] = some x) : ∃ rs bs, GoesArg w A len rs bs := by
  rcases open_slice ht h with ⟨hcs, _⟩ | ⟨a, l, c, m, n, D, Pl, hcs, hb, hl, hm, hmm, _, hi⟩
  · have : A = none ∧ len = 0 ∧ cap = 0 := by simpa using hcs
    obtain ⟨rfl, rfl, rfl⟩ := this
    exact ⟨[], [], rfl, rfl, by omega, fun i h => by simp at h, fun i h => by simp at h⟩
  · have : A = some a ∧ len = l ∧ cap = c := by simpa using hcs
    obtain ⟨rfl, rfl, rfl⟩ := this
    rw [if_pos rfl] at hmm
    have key : ∀ i, i < len → ∃ p : Bool × List UInt8, w.cell? (a.add (i * 2)) = some (.bool p.1) ∧ ∃ v, w.cell? (a.add (i * 2 + 1)) = some v ∧ Byt w v p.2 := by
      intro i hil
      obtain ⟨cs', hc, htr⟩ := hi i (by omega)
      rw [hC] at hc
      obtain ⟨r, v, l0, rfl, hb⟩ := open_part he hone hC h0 h1 h2 h3 htr
      obtain ⟨_, hlen, hat⟩ := World.cells?_some hc
      have c0 := hat 0 (by simp)
      have c1 := hat 1 (by simp)
      rw [Go.Addr.add_add] at c0 c1
      exact ⟨(r, l0), by simpa using c0, v, by simpa using c1, hb⟩
    obtain ⟨f, hf⟩ := choose_lt key
    refine ⟨(List.range len).map fun i => (f i).1, (List.range len).map fun i => (f i).2, by simp, by simp, by unfold maxLen at hm; omega, fun i h => ?_, fun i h => ?_⟩
    · have hil : i < len := by simpa using h
      refine ⟨a, rfl, ?_⟩
      rw [(hf i hil).1]; simp
    · have hil : i < len := by simpa using h
      obtain ⟨_, v, h1, h2⟩ := hf i hil
      exact ⟨a, v, rfl, h1, by simpa using h2⟩
end
end Go.Proofs.YtkgnihpcldgedaaDoor
