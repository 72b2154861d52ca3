/- BitsActsHeap: a row of calls is read alike where the memory is alike. -/
import Derived.Test.YtkgnihpcldgedaaBitsActs
namespace Go.Proofs.Ytkgnihpcldgedaa
open Go.RowKit
theorem Acts.heap {W w : World} {A : Option Addr} {ts : List BAct} (h : Acts W A ts) (hs : ∀ b, b < W.heap.size → w.heap[b]? = W.heap[b]?) : Acts w A ts := by
  have hz : W.heap.size ≤ w.heap.size := by
    rcases Nat.eq_zero_or_pos W.heap.size with h0 | h0
    · omega
    · have h1 := hs (W.heap.size - 1) (by omega)
      rw [Array.getElem?_eq_getElem (xs := W.heap) (by omega)] at h1
      have h2 := (Array.getElem?_eq_some_iff.1 h1).1
      omega
  have hb : Below W.heap.size W { W with heap := w.heap } := ⟨rfl, rfl, rfl, hz, hs⟩
  have h3 := h.same hb
  exact h3
end Go.Proofs.Ytkgnihpcldgedaa
