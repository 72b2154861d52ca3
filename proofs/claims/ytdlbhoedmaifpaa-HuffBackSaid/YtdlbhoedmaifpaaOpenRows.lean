/- OpenRows: slices that come in, of elements of one cell. -/
import Derived.Test.YtdlbhoedmaifpaaHuffR
import Derived.Test.YtdlbhoedmaifpaaRowKit
import Derived.Deep.Slices
import Derived.Deep.Fields
import Derived.ChangeSame
namespace Go.Proofs.Ytdlbhoedmaifpaa
set_option linter.unusedVariables false
open Go.ChangeShapes Go.WideShapes Go.ChangeAt Go.RowKit Go.Deep
section
variable {H : Type} {enc : TypeId × Value → H} {P : Program} {w : World} {base : Nat} {spare : Nat → Bool} {held : Bool}
theorem open_row1 {α : Type} [Inhabited α] (f : α → Value) (Good : α → Prop) {t e : TypeId} {A : Option Addr} {len cap : Nat} {fuel : Nat} {x : DataW H × List MemPlace} (ht : P.underlying t = some (.slice e)) (hC : P.cellsOf e = 1)
    (hel : ∀ n c y, DataW.trod enc P w base (fun _ => true) held n e [c] = some y → ∃ p, c = f p ∧ Good p)
    (h : DataW.trod enc P w base (fun _ => true) held fuel t [.slice A len cap] = some x) : ∃ ps : List α, Rd w A (ps.map f) ∧ len = ps.length ∧ len ≤ cap ∧ cap ≤ maxLen ∧ ∀ p ∈ ps, Good p := by
  rcases open_slice ht h with ⟨hcs, _⟩ | ⟨a, l, c, m, n, D, Pl, hcs, hb, hl, hm, hmm, _, hi⟩
  · have : A = none ∧ len = 0 ∧ cap = 0 := by simpa using hcs
    obtain ⟨rfl, rfl, rfl⟩ := this
    exact ⟨[], Rd.nil, rfl, Nat.le_refl _, by simp [maxLen], fun p h => by cases h⟩
  · have : A = some a ∧ len = l ∧ cap = c := by simpa using hcs
    obtain ⟨rfl, rfl, rfl⟩ := this
    rw [if_pos rfl] at hmm
    have key : ∀ i, i < len → ∃ p : α, w.cell? (a.add i) = some (f p) ∧ Good p := by
      intro i hil
      obtain ⟨cs', hc, htr⟩ := hi i (by omega)
      rw [hC, Nat.mul_one] at hc
      obtain ⟨_, hlen, hat⟩ := World.cells?_some hc
      match cs', hlen with
      | [c0], _ =>
        obtain ⟨p, rfl, hg⟩ := hel _ _ _ htr
        have c0 := hat 0 (by simp)
        rw [Go.Addr.add_add] at c0
        exact ⟨p, by simpa using c0, hg⟩
    obtain ⟨g, hg⟩ := choose_lt key
    refine ⟨(List.range len).map g, fun _ => ⟨a, rfl, fun j u hu => ?_⟩, by simp, hl, hm, fun p hp => ?_⟩
    · rw [List.map_map, List.getElem?_map] at hu
      have hj : j < len := by
        rcases Nat.lt_or_ge j len with h | h
        · exact h
        · rw [List.getElem?_eq_none (by simp; omega)] at hu; simp at hu
      rw [List.getElem?_range hj] at hu
      simp only [Option.map_some, Function.comp_apply, Option.some.injEq] at hu
      rw [← hu]
      exact (hg j hj).1
    · obtain ⟨j, hj, rfl⟩ := List.mem_map.1 hp
      exact (hg j (List.mem_range.1 hj)).2
theorem el_i64 {e : TypeId} (he : P.underlying e = some (.int .i64)) (n : Nat) (c : Value) (y : DataW H × List MemPlace) (h : DataW.trod enc P w base (fun _ => true) held n e [c] = some y) : ∃ p : Int, c = .int .i64 p ∧ (-9223372036854775808 ≤ p ∧ p ≤ 9223372036854775807) := by
  obtain ⟨k, e1, _, wk⟩ := DataW.trod_int he h
  exact ⟨k, by simpa using e1, bounds_i64 wk⟩
theorem el_u32 {e : TypeId} (he : P.underlying e = some (.int .u32)) (n : Nat) (c : Value) (y : DataW H × List MemPlace) (h : DataW.trod enc P w base (fun _ => true) held n e [c] = some y) : ∃ p : Nat, c = .int .u32 (p : Int) ∧ p < 4294967296 := by
  obtain ⟨k, e1, _, wk⟩ := DataW.trod_int he h
  have hb := bounds_u32 wk
  obtain ⟨q, rfl⟩ := Int.eq_ofNat_of_zero_le hb.1
  exact ⟨q, by simpa using e1, by have := hb.2; omega⟩
theorem el_bool {e : TypeId} (he : P.underlying e = some .bool) (n : Nat) (c : Value) (y : DataW H × List MemPlace) (h : DataW.trod enc P w base (fun _ => true) held n e [c] = some y) : ∃ p : Bool, c = .bool p ∧ True := by
  obtain ⟨r, er, _⟩ := DataW.trod_bool he h
  exact ⟨r, by simpa using er, trivial⟩
end
theorem Rd.same {W : World} {A : Option Addr} {xs : List Value} (h : Rd W A xs) {L : List Pr} (k : Nat) (hk : L[k]? = some (Same W)) : Ent L (fun w => Rd w A xs) :=
  Ent.of_same k hk fun _ hs => h.keep fun p _ _ hp => World.cell?_of_block (hs p.block (cell_lt hp))
end Go.Proofs.Ytdlbhoedmaifpaa
