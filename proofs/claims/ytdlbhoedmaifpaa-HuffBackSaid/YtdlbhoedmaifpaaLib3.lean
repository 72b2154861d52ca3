/- Lib3: bytes of a string that the text says. -/
import Derived.Test.YtdlbhoedmaifpaaLib2
namespace Go.Proofs.Ytdlbhoedmaifpaa
open Go.RowKit
theorem run_lit {P : Program} (w : World) (t e te : TypeId) (ht : P.underlying t = some (.slice e)) (he : P.underlying e = some (.int .u8)) (g n c : Nat) (cs : Array Value) (h : w.heap[g]? = some (.cells cs te (0, 0))) :
    (convert t t (.slice (some ⟨g, 0, none⟩) n c)).run P w = .ok (.slice (some ⟨g, 0, none⟩) n c) { w with heap := w.heap.setIfInBounds g (.cells cs te (cs.size, cs.size + 1)) } := by
  have hm : w.heap.modify g (fun | .cells c elem (lo, hi) => .cells c elem (if lo == hi then (cs.size, cs.size + 1) else (min lo cs.size, max hi (cs.size + 1))) | o => o) = w.heap.setIfInBounds g (.cells cs te (cs.size, cs.size + 1)) := by
    have hg := (Array.getElem?_eq_some_iff.1 h).1
    apply Array.ext_getElem?
    intro i
    rw [Array.getElem?_modify, Array.getElem?_setIfInBounds]
    by_cases hi : g = i
    · subst hi
      rw [if_pos rfl, if_pos rfl, if_pos hg, h]
      rfl
    · rw [if_neg hi, if_neg hi]
  have hs : (shape g).run P w = .ok (some (te, cs.size)) w := by
    simp [shape, Sem.run, World.shape?, h]
  have hf : (freeze ⟨g, cs.size, none⟩ 1).run P w = .ok () (w.freeze ⟨g, cs.size, none⟩ 1) := rfl
  have hw : w.freeze ⟨g, cs.size, none⟩ 1 = { w with heap := w.heap.setIfInBounds g (.cells cs te (cs.size, cs.size + 1)) } := by
    unfold World.freeze
    rw [if_neg (by decide)]
    exact congrArg (fun x => { w with heap := x }) hm
  simp [convert, run_underlying ht, run_underlying he, markStringish, hs, Result.andThen, hf, hw]
/-- Bytes of a string that the text says. -/
def Lit (g : Nat) (l : List UInt8) : Pr := Is g (.cells (cells8 l).toArray 5 (l.length, l.length + 1))
theorem lit_ok {w0 w : World} {L : List Pr} (H : Sp w0 L w) (l : List UInt8) : ∃ w1, (∀ n, n = l.length → Sem.run Try.prog (convert 22 22 (.slice (some ⟨w.heap.size, 0, none⟩) n n)) (w.alloc (.cells (cells8 l).toArray 5)) = .ok (.slice (some ⟨w.heap.size, 0, none⟩) n n) w1) ∧ Sp w0 (Lit w.heap.size l :: L) w1 := by
  have H1 := H.newBk (cells8 l) 5
  refine ⟨_, fun n _ => run_lit _ _ 5 5 Try.underlying22 Try.underlying5 _ _ _ _ (H1.is_ 0 rfl), ?_⟩
  have h := H1.put (.cells (cells8 l).toArray 5 ((cells8 l).toArray.size, (cells8 l).toArray.size + 1))
  have e : (cells8 l).toArray.size = l.length := by simp [cells8]
  rw [e] at h ⊢
  exact h
theorem Sp.lit {w0 w : World} {L : List Pr} (H : Sp w0 L w) (k : Nat) {g : Nat} {l : List UInt8} (hk : L[k]? = some (Lit g l)) (hl : l.length ≤ maxLen) : Byt w (.slice (some ⟨g, 0, none⟩) l.length l.length) l := by
  have h := H.is_ k hk
  refine ⟨_, _, rfl, fun _ => ⟨_, rfl, fun j u hu => ?_⟩, Nat.le_refl _, hl⟩
  have e1 : (Addr.add ⟨g, 0, none⟩ j) = ⟨g, j, none⟩ := by
    unfold Addr.add; split
    · rename_i h0; subst h0; rfl
    · simp
  rw [e1]
  simp [World.cell?, h, hu]
end Go.Proofs.Ytdlbhoedmaifpaa
