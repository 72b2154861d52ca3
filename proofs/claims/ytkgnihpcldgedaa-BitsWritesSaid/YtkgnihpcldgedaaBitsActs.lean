/- BitsActs: calls that lie side by side; a byte of an owned row turned. -/
import Derived.Test.YtkgnihpcldgedaaBitsH
import Derived.Deep.CutRange
import Derived.Deep.CutBlock
import Derived.Deep.DeepCutAuto
namespace Go.Proofs.Ytkgnihpcldgedaa
open Go.RowKit
/-- A call of a writer or a reader. -/
structure BAct where
  what : Int
  many : Int
  n : Nat
  b : List UInt8
  v : Value
/-- Calls that lie side by side. -/
def Acts (w : World) (A : Option Addr) (ts : List BAct) : Prop := ∀ (i : Nat) (h : i < ts.length), ∃ ad, A = some ad ∧ w.cell? (ad.add (i * 4)) = some (.int .i64 ts[i].what) ∧ w.cell? (ad.add (i * 4 + 1)) = some (.int .i64 ts[i].many) ∧
  w.cell? (ad.add (i * 4 + 2)) = some (.int .u64 (ts[i].n : Int)) ∧ w.cell? (ad.add (i * 4 + 3)) = some ts[i].v ∧ Byt w ts[i].v ts[i].b ∧ ts[i].n < 18446744073709551616 ∧ -9223372036854775808 ≤ ts[i].many ∧ ts[i].many ≤ 9223372036854775807
theorem Acts.same {w0 w : World} {A : Option Addr} {ts : List BAct} (h : Acts w0 A ts) (hb : Below w0.heap.size w0 w) : Acts w A ts := fun i hi => by
  obtain ⟨ad, e, h0, h1, h2, h3, h4, h5⟩ := h i hi
  refine ⟨ad, e, ?_, ?_, ?_, ?_, h4.below hb, h5⟩
  · rw [hb.cell (cell_lt h0)]; exact h0
  · rw [hb.cell (cell_lt h1)]; exact h1
  · rw [hb.cell (cell_lt h2)]; exact h2
  · rw [hb.cell (cell_lt h3)]; exact h3
/-- A cell of the row in front, turned. -/
theorem Sp.rowSet {w0 w : World} {L : List Pr} {e : TypeId} {n i : Nat} {v : Value} {xs : List Value} (H : Sp w0 (Row e 1 v n xs :: L) w) (hi : i < n) :
    ∃ ad c, v = .slice (some ad) n c ∧ n ≤ c ∧ w.cell? (ad.add i) = xs[i]? ∧ w.frozen? (ad.add i) = false ∧ ∀ u, Sp w0 (Row e 1 v n (xs.set i u) :: L) (w.setCell (ad.add i) u) := by
  have h := H.owns 0 rfl
  rcases h.2 with ⟨rfl, rfl⟩ | ⟨g, cap, cur, rfl, _, hh, h1, h2, h3, h4⟩
  · omega
  · have e1 : (Addr.add ⟨g, 0, none⟩ i) = ⟨g, i, none⟩ := by
      unfold Addr.add; split
      · rename_i h0; subst h0; rfl
      · simp
    refine ⟨⟨g, 0, none⟩, cap, rfl, h1, ?_, ?_, fun u => ?_⟩
    · rw [e1, h.cellAt i (by omega)]
    · rw [e1]; simp [World.frozen?, hh]
    · rw [e1]
      have hb' : (w.setCell ⟨g, i, none⟩ u).heap[g]? = some (.cells (cur.setIfInBounds i u) e (0, 0)) := by
        simp [World.setCell, Array.getElem?_modify, hh]
      refine H.turn rfl rfl rfl fun s hs => ?_
      have hsg : s g := by
        rcases hs.2 with ⟨hv, _⟩ | ⟨g', cap', cur', hv, hg', _⟩
        · cases hv
        · injection hv with hv
          injection hv with hv
          injection hv with hv
          subst hv
          exact (rs_some hg').1
      refine ⟨fun b _ hsb => Below.heap_setCell _ _ _ _ (by rintro rfl; exact hsb hsg), by simpa using h.1, .inr ⟨g, cap, cur.setIfInBounds i u, rfl, (rs_pos (.inl hsg)).trans hb', h1, h2, by simpa using h3, ?_⟩⟩
      rw [Array.toList_setIfInBounds, List.take_set, h4]
end Go.Proofs.Ytkgnihpcldgedaa
