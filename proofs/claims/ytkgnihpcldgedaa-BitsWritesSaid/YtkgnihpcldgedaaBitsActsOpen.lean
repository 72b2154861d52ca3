/- BitsActsOpen: the calls that come in, opened: a slice of structs of four fields. -/
import Derived.Test.YtkgnihpcldgedaaBitsActs
import Derived.Test.YtkgnihpcldgedaaBitsBackOpen
import Derived.Test.YtkgnihpcldgedaaRowKit
import Derived.Deep.Slices
import Derived.Deep.Fields
import Derived.ChangeSame
namespace Go.Proofs.Ytkgnihpcldgedaa
open Go.ChangeShapes Go.WideShapes Go.ChangeAt Go.RowKit Go.Deep
section
variable {H : Type} {enc : TypeId × Value → H} {P : Program} {w : World} {base : Nat} {spare : Nat → Bool} {held : Bool}
theorem open_act {e eb : TypeId} {f0 f1 f2 f3 : Field} {fuel : Nat} {cs : List Value} {x : DataW H × List MemPlace} (he : P.underlying e = some (.struct #[f0, f1, f2, f3])) (hone : oneCellFields P #[f0, f1, f2, f3] = true)
    (hC : P.cellsOf e = 4) (h0 : P.underlying f0.type = some (.int .i64)) (h1 : P.underlying f1.type = some (.int .i64)) (h2 : P.underlying f2.type = some (.int .u64)) (h3 : P.underlying f3.type = some (.slice eb)) (h4 : P.underlying eb = some (.int .u8)) (h5 : P.cellsOf eb = 1)
    (h : DataW.trod enc P w base (fun _ => true) held fuel e cs = some x) : ∃ x : BAct, cs = [.int .i64 x.what, .int .i64 x.many, .int .u64 (x.n : Int), x.v] ∧ Byt w x.v x.b ∧ x.n < 18446744073709551616 ∧ -9223372036854775808 ≤ x.many ∧ x.many ≤ 9223372036854775807 := by
  obtain ⟨y0, y1, y2, y3, n, hlen, g0, g1, g2, g3⟩ := trod_struct4 he h
  obtain ⟨o0, k0⟩ := hone_of hone 0 f0 rfl
  obtain ⟨o1, k1⟩ := hone_of hone 1 f1 rfl
  obtain ⟨o2, k2⟩ := hone_of hone 2 f2 rfl
  obtain ⟨o3, k3⟩ := hone_of hone 3 f3 rfl
  rw [hC] at hlen
  match cs, hlen with
  | [c0, c1, c2, c3], _ =>
    rw [o0, k0] at g0
    rw [o1, k1] at g1
    rw [o2, k2] at g2
    rw [o3, k3] at g3
    obtain ⟨a, q0, _, wa⟩ := DataW.trod_int h0 g0
    obtain ⟨b, q1, _, wb⟩ := DataW.trod_int h1 g1
    obtain ⟨r, q2, _, wr⟩ := DataW.trod_int h2 g2
    replace q0 : c0 = .int .i64 a := by simpa using q0
    replace q1 : c1 = .int .i64 b := by simpa using q1
    replace q2 : c2 = .int .u64 r := by simpa using q2
    subst q0 q1 q2
    obtain ⟨l, hl⟩ := open_byt h3 h4 h5 g3
    have bb := bounds_i64 wb
    have br := bounds_u64 wr
    obtain ⟨r', rfl⟩ := Int.eq_ofNat_of_zero_le br.1
    exact ⟨⟨a, b, r', l, c3⟩, rfl, hl, by have := br.2; simp only; omega, bb.1, bb.2⟩
instance : Inhabited BAct := ⟨⟨0, 0, 0, [], undef⟩⟩
theorem open_acts {t e eb : TypeId} {f0 f1 f2 f3 : Field} {A : Option Addr} {len cap : Nat} {fuel : Nat} {x : DataW H × List MemPlace} (ht : P.underlying t = some (.slice e)) (he : P.underlying e = some (.struct #[f0, f1, f2, f3])) (hone : oneCellFields P #[f0, f1, f2, f3] = true)
    (hC : P.cellsOf e = 4) (h0 : P.underlying f0.type = some (.int .i64)) (h1 : P.underlying f1.type = some (.int .i64)) (h2 : P.underlying f2.type = some (.int .u64)) (h3 : P.underlying f3.type = some (.slice eb)) (h4 : P.underlying eb = some (.int .u8)) (h5 : P.cellsOf eb = 1)
    (h : DataW.trod enc P w base (fun _ => true) held fuel t [.slice A len cap] = some x) : ∃ ts, Acts w A ts ∧ len = ts.length ∧ len ≤ cap ∧ cap ≤ maxLen := by
  rcases open_slice ht h with ⟨hcs, _⟩ | ⟨a, l, c, m, n, D, Pl, hcs, hb, hl, hm, hmm, _, hi⟩
  · have : A = none ∧ len = 0 ∧ cap = 0 := by simpa using hcs
    obtain ⟨rfl, rfl, rfl⟩ := this
    exact ⟨[], fun i h => by simp at h, rfl, Nat.le_refl _, by simp [maxLen]⟩
  · have : A = some a ∧ len = l ∧ cap = c := by simpa using hcs
    obtain ⟨rfl, rfl, rfl⟩ := this
    rw [if_pos rfl] at hmm
    have key : ∀ i, i < len → ∃ p : BAct, w.cell? (a.add (i * 4)) = some (.int .i64 p.what) ∧ w.cell? (a.add (i * 4 + 1)) = some (.int .i64 p.many) ∧ w.cell? (a.add (i * 4 + 2)) = some (.int .u64 (p.n : Int)) ∧ w.cell? (a.add (i * 4 + 3)) = some p.v ∧ Byt w p.v p.b ∧ p.n < 18446744073709551616 ∧ -9223372036854775808 ≤ p.many ∧ p.many ≤ 9223372036854775807 := by
      intro i hil
      obtain ⟨cs', hc, htr⟩ := hi i (by omega)
      rw [hC] at hc
      obtain ⟨x, rfl, hb, hn, hm⟩ := open_act he hone hC h0 h1 h2 h3 h4 h5 htr
      obtain ⟨_, hlen, hat⟩ := World.cells?_some hc
      have c0 := hat 0 (by simp)
      have c1 := hat 1 (by simp)
      have c2 := hat 2 (by simp)
      have c3 := hat 3 (by simp)
      rw [Go.Addr.add_add] at c0 c1 c2 c3
      exact ⟨x, by simpa using c0, by simpa using c1, by simpa using c2, by simpa using c3, hb, hn, hm⟩
    obtain ⟨f, hf⟩ := choose_lt key
    refine ⟨(List.range len).map f, fun i h => ?_, by simp, hl, hm⟩
    have hil : i < len := by simpa using h
    have e : ((List.range len).map f)[i] = f i := by simp
    rw [e]
    exact ⟨a, rfl, hf i hil⟩
end
end Go.Proofs.Ytkgnihpcldgedaa
