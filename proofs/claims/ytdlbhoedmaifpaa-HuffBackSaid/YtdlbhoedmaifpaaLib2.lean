/- Lib2: rows that are owned: cells read and turned. -/
import Derived.Test.YtdlbhoedmaifpaaLib1
namespace Go.Proofs.Ytdlbhoedmaifpaa
open Go.RowKit
theorem Sp.row_rd {w0 w : World} {L : List Pr} (H : Sp w0 L w) (k : Nat) {e : TypeId} {z n : Nat} {v : Value} {xs : List Value} (hk : L[k]? = some (Row e z v n xs)) :
    ∃ A c, v = .slice A n c ∧ Rd w A xs ∧ n ≤ c ∧ c ≤ maxLen := by
  have h := H.owns k hk
  rcases h.2 with ⟨rfl, rfl⟩ | ⟨g, cap, cur, rfl, hb, hh, h1, h2, h3, h4⟩
  · have : xs = [] := List.eq_nil_of_length_eq_zero (by simpa using h.1)
    subst this
    exact ⟨none, 0, rfl, Rd.nil, Nat.le_refl _, by simp [maxLen]⟩
  · refine ⟨_, _, rfl, fun _ => ⟨_, rfl, fun j u hu => ?_⟩, h1, h2⟩
    have hj : j < n * z := by
      have := (List.getElem?_eq_some_iff.1 hu).1
      rw [h.1] at this
      exact this
    have e1 : (Addr.add ⟨g, 0, none⟩ j) = ⟨g, j, none⟩ := by
      unfold Addr.add; split
      · rename_i h0; subst h0; rfl
      · simp
    rw [e1, h.cellAt j hj]
    exact hu
theorem Rd.part {w : World} {A : Option Addr} {xs : List Value} (h : Rd w A xs) (q k : Nat) : Rd w (A.map (·.add q)) ((xs.drop q).take k) := fun hn => by
  obtain ⟨ad, rfl, hc⟩ := h (by rintro rfl; simp at hn)
  refine ⟨ad.add q, rfl, fun j u hu => ?_⟩
  rw [List.getElem?_take] at hu
  split at hu
  · rw [List.getElem?_drop] at hu
    rw [Go.Addr.add_add]
    exact hc _ u hu
  · cases hu
/-- A cell of the row in front, turned. -/
theorem Sp.rowSet {w0 w : World} {L : List Pr} {e : TypeId} {n i : Nat} {v : Value} {xs : List Value} (H : Sp w0 (Row e 1 v n xs :: L) w) (hi : i < n) :
    ∃ ad c, v = .slice (some ad) n c ∧ n ≤ c ∧ w.cell? (ad.add i) = xs[i]? ∧ w.frozen? (ad.add i) = false ∧ ∀ u, Sp w0 (Row e 1 v n (xs.set i u) :: L) (w.setCell (ad.add i) u) := by
  have h := H.owns 0 rfl
  rcases h.2 with ⟨rfl, rfl⟩ | ⟨g, cap, cur, rfl, _, hh, h1, h2, h3, h4⟩
  · omega
  · have e1 : (Addr.add ⟨g, 0, none⟩ i) = ⟨g, i, none⟩ := by
      unfold Addr.add; split
      · rename_i h0; subst h0; rfl
      · simp
    refine ⟨⟨g, 0, none⟩, cap, rfl, h1, ?_, ?_, fun u => ?_⟩
    · rw [e1, h.cellAt i (by omega)]
    · rw [e1]; simp [World.frozen?, hh]
    · rw [e1]
      have hb' : (w.setCell ⟨g, i, none⟩ u).heap[g]? = some (.cells (cur.setIfInBounds i u) e (0, 0)) := by
        simp [World.setCell, Array.getElem?_modify, hh]
      refine H.turn rfl rfl rfl fun s hs => ?_
      have hsg : s g := by
        rcases hs.2 with ⟨hv, _⟩ | ⟨g', cap', cur', hv, hg', _⟩
        · cases hv
        · injection hv with hv
          injection hv with hv
          injection hv with hv
          subst hv
          exact (rs_some hg').1
      refine ⟨fun b _ hsb => Below.heap_setCell _ _ _ _ (by rintro rfl; exact hsb hsg), by simpa using h.1, .inr ⟨g, cap, cur.setIfInBounds i u, rfl, (rs_pos (.inl hsg)).trans hb', h1, h2, by simpa using h3, ?_⟩⟩
      rw [Array.toList_setIfInBounds, List.take_set, h4]
theorem Ent.of_same {w1 : World} {L : List Pr} {φ : World → Prop} (k : Nat) (hk : L[k]? = some (Same w1)) (h : ∀ w, (∀ b, b < w1.heap.size → w.heap[b]? = w1.heap[b]?) → φ w) : Ent L φ := fun w0 w H => h w fun b hb => by
  obtain ⟨_, _, _, own, hs⟩ := H
  have h5 := hs k _ hk b hb
  rw [Array.getElem?_eq_getElem hb] at h5 ⊢
  exact (rs_some h5).2
theorem Ent.byt {W : World} {L : List Pr} (k : Nat) (hk : L[k]? = some (Same W)) {v : Value} {l : List UInt8} (h : Byt W v l) : Ent L (fun w => Byt w v l) :=
  Ent.of_same k hk fun _ hs => h.keep fun p _ hp => World.cell?_of_block (hs p.block (cell_lt hp))
end Go.Proofs.Ytdlbhoedmaifpaa
