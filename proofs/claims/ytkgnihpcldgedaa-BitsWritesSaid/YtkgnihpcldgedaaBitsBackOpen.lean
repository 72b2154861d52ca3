/- BitsBack: the things that come in, opened: a slice of structs of four fields. -/
import Derived.Test.YtkgnihpcldgedaaBitsBack
import Derived.Test.YtkgnihpcldgedaaRowKit
import Derived.Deep.Slices
import Derived.Deep.Fields
import Derived.ChangeSame
namespace Go.Proofs.Ytkgnihpcldgedaa
open Go.ChangeShapes Go.WideShapes Go.ChangeAt Go.RowKit Go.Deep
section
variable {H : Type} {enc : TypeId × Value → H} {P : Program} {w : World} {base : Nat} {spare : Nat → Bool} {held : Bool}
theorem trod_struct4 {t : TypeId} {f0 f1 f2 f3 : Field} {fuel : Nat} {cs : List Value} {x : DataW H × List MemPlace} (ht : P.underlying t = some (.struct #[f0, f1, f2, f3])) (h : DataW.trod enc P w base spare held fuel t cs = some x) :
    ∃ y0 y1 y2 y3 n, cs.length = P.cellsOf t ∧ DataW.trod enc P w base spare held n f0.type ((cs.drop f0.offset).take (P.cellsOf f0.type)) = some y0 ∧
      DataW.trod enc P w base spare held n f1.type ((cs.drop f1.offset).take (P.cellsOf f1.type)) = some y1 ∧ DataW.trod enc P w base spare held n f2.type ((cs.drop f2.offset).take (P.cellsOf f2.type)) = some y2 ∧
      DataW.trod enc P w base spare held n f3.type ((cs.drop f3.offset).take (P.cellsOf f3.type)) = some y3 := by
  obtain ⟨xs, n, _, rfl, hl, hlen, hf⟩ := DataW.trod_struct ht h
  match xs, hlen with
  | [y0, y1, y2, y3], _ => exact ⟨y0, y1, y2, y3, n, hl, by simpa using hf 0 f0 rfl, by simpa using hf 1 f1 rfl, by simpa using hf 2 f2 rfl, by simpa using hf 3 f3 rfl⟩
/-- A slice of bytes in one cell. -/
theorem open_byt {t eb : TypeId} {c1 : Value} {fuel : Nat} {y : DataW H × List MemPlace} (h1 : P.underlying t = some (.slice eb)) (h2 : P.underlying eb = some (.int .u8)) (h3 : P.cellsOf eb = 1)
    (h : DataW.trod enc P w base (fun _ => true) held fuel t [c1] = some y) : ∃ l, Byt w c1 l := by
  rcases open_ints h1 h2 h3 h with ⟨hcs, _⟩ | ⟨x, l, c, zs, hcs, _, hl, hm, hz, _, hcell, hwz⟩
  · have : c1 = .slice none 0 0 := by simpa using hcs
    subst this
    exact ⟨[], Byt.nil w⟩
  · have : c1 = .slice (some x) l c := by simpa using hcs
    subst this
    obtain ⟨l0, rfl, hb⟩ := IsRow.byt (w := w) (a := some x) (len := l) (cap := c) (zs := zs) (.inr ⟨x, rfl, hl, hm, by simpa using hz, hcell, hwz⟩)
    exact ⟨l0, hb⟩
theorem open_thing {e eb : TypeId} {f0 f1 f2 f3 : Field} {fuel : Nat} {cs : List Value} {x : DataW H × List MemPlace} (he : P.underlying e = some (.struct #[f0, f1, f2, f3])) (hone : oneCellFields P #[f0, f1, f2, f3] = true)
    (hC : P.cellsOf e = 4) (h0 : P.underlying f0.type = some (.int .u64)) (h1 : P.underlying f1.type = some (.int .u8)) (h2 : P.underlying f2.type = some .bool) (h3 : P.underlying f3.type = some (.slice eb)) (h4 : P.underlying eb = some (.int .u8)) (h5 : P.cellsOf eb = 1)
    (h : DataW.trod enc P w base (fun _ => true) held fuel e cs = some x) : ∃ x : Thing, cs = [.int .u64 (x.n : Int), .int .u8 (x.m : Int), .bool x.c, x.v] ∧ Byt w x.v x.b ∧ x.n < 18446744073709551616 ∧ x.m < 256 := by
  obtain ⟨y0, y1, y2, y3, n, hlen, g0, g1, g2, g3⟩ := trod_struct4 he h
  obtain ⟨o0, k0⟩ := hone_of hone 0 f0 rfl
  obtain ⟨o1, k1⟩ := hone_of hone 1 f1 rfl
  obtain ⟨o2, k2⟩ := hone_of hone 2 f2 rfl
  obtain ⟨o3, k3⟩ := hone_of hone 3 f3 rfl
  rw [hC] at hlen
  match cs, hlen with
  | [c0, c1, c2, c3], _ =>
    rw [o0, k0] at g0
    rw [o1, k1] at g1
    rw [o2, k2] at g2
    rw [o3, k3] at g3
    obtain ⟨a, q0, _, wa⟩ := DataW.trod_int h0 g0
    obtain ⟨b, q1, _, wb⟩ := DataW.trod_int h1 g1
    obtain ⟨r, q2, _⟩ := DataW.trod_bool h2 g2
    replace q0 : c0 = .int .u64 a := by simpa using q0
    replace q1 : c1 = .int .u8 b := by simpa using q1
    replace q2 : c2 = .bool r := by simpa using q2
    subst q0 q1 q2
    obtain ⟨l, hl⟩ := open_byt h3 h4 h5 g3
    have ba := bounds_u64 wa
    have bb := bounds_u8 wb
    obtain ⟨a', rfl⟩ := Int.eq_ofNat_of_zero_le ba.1
    obtain ⟨b', rfl⟩ := Int.eq_ofNat_of_zero_le bb.1
    exact ⟨⟨a', b', r, l, c3⟩, rfl, hl, by have := ba.2; simp only; omega, by have := bb.2; simp only; omega⟩
instance : Inhabited Thing := ⟨⟨0, 0, false, [], undef⟩⟩
theorem open_things {t e eb : TypeId} {f0 f1 f2 f3 : Field} {A : Option Addr} {len cap : Nat} {fuel : Nat} {x : DataW H × List MemPlace} (ht : P.underlying t = some (.slice e)) (he : P.underlying e = some (.struct #[f0, f1, f2, f3])) (hone : oneCellFields P #[f0, f1, f2, f3] = true)
    (hC : P.cellsOf e = 4) (h0 : P.underlying f0.type = some (.int .u64)) (h1 : P.underlying f1.type = some (.int .u8)) (h2 : P.underlying f2.type = some .bool) (h3 : P.underlying f3.type = some (.slice eb)) (h4 : P.underlying eb = some (.int .u8)) (h5 : P.cellsOf eb = 1)
    (h : DataW.trod enc P w base (fun _ => true) held fuel t [.slice A len cap] = some x) : ∃ ts, Things w A ts ∧ len = ts.length ∧ len ≤ cap ∧ cap ≤ maxLen := by
  rcases open_slice ht h with ⟨hcs, _⟩ | ⟨a, l, c, m, n, D, Pl, hcs, hb, hl, hm, hmm, _, hi⟩
  · have : A = none ∧ len = 0 ∧ cap = 0 := by simpa using hcs
    obtain ⟨rfl, rfl, rfl⟩ := this
    exact ⟨[], fun i h => by simp at h, rfl, Nat.le_refl _, by simp [maxLen]⟩
  · have : A = some a ∧ len = l ∧ cap = c := by simpa using hcs
    obtain ⟨rfl, rfl, rfl⟩ := this
    rw [if_pos rfl] at hmm
    have key : ∀ i, i < len → ∃ p : Thing, w.cell? (a.add (i * 4)) = some (.int .u64 (p.n : Int)) ∧ w.cell? (a.add (i * 4 + 1)) = some (.int .u8 (p.m : Int)) ∧ w.cell? (a.add (i * 4 + 2)) = some (.bool p.c) ∧ w.cell? (a.add (i * 4 + 3)) = some p.v ∧ Byt w p.v p.b ∧ p.n < 18446744073709551616 ∧ p.m < 256 := by
      intro i hil
      obtain ⟨cs', hc, htr⟩ := hi i (by omega)
      rw [hC] at hc
      obtain ⟨x, rfl, hb, hn, hm⟩ := open_thing he hone hC h0 h1 h2 h3 h4 h5 htr
      obtain ⟨_, hlen, hat⟩ := World.cells?_some hc
      have c0 := hat 0 (by simp)
      have c1 := hat 1 (by simp)
      have c2 := hat 2 (by simp)
      have c3 := hat 3 (by simp)
      rw [Go.Addr.add_add] at c0 c1 c2 c3
      exact ⟨x, by simpa using c0, by simpa using c1, by simpa using c2, by simpa using c3, hb, hn, hm⟩
    obtain ⟨f, hf⟩ := choose_lt key
    refine ⟨(List.range len).map f, fun i h => ?_, by simp, hl, hm⟩
    have hil : i < len := by simpa using h
    have e : ((List.range len).map f)[i] = f i := by simp
    rw [e]
    exact ⟨a, rfl, hf i hil⟩
end
theorem Things.same {w0 w : World} {A : Option Addr} {ts : List Thing} (h : Things w0 A ts) (hb : Below w0.heap.size w0 w) : Things w A ts := fun i hi => by
  obtain ⟨ad, e, h0, h1, h2, h3, h4, h5⟩ := h i hi
  refine ⟨ad, e, ?_, ?_, ?_, ?_, h4.below hb, h5⟩
  · rw [hb.cell (cell_lt h0)]; exact h0
  · rw [hb.cell (cell_lt h1)]; exact h1
  · rw [hb.cell (cell_lt h2)]; exact h2
  · rw [hb.cell (cell_lt h3)]; exact h3
end Go.Proofs.Ytkgnihpcldgedaa
