/- MatchG: the finder's chains, by pieces. -/
import Derived.Test.YtdlbhoedmaifpaaMatchF
namespace Go.Proofs.Ytdlbhoedmaifpaa
open Go.RowKit
def intsV (l : List Nat) : List Value := l.map fun i : Nat => .int .i64 (i : Int)
theorem intsV_append (a b : List Nat) : intsV (a ++ b) = intsV a ++ intsV b := by simp [intsV]
/-- The three bytes of a key. -/
def unkey : Value → Three
  | .agg cs => match cs.toList with
    | [.int _ a, .int _ b, .int _ c] => (UInt8.ofNat a.toNat, UInt8.ofNat b.toNat, UInt8.ofNat c.toNat)
    | _ => (0, 0, 0)
  | _ => (0, 0, 0)
theorem unkey_key (k : Three) : unkey (key3 k) = k := by
  obtain ⟨a, b, c⟩ := k
  simp [unkey, key3]
/-- The chains of a map's entries. -/
def Rows (F : Three → List Nat) : List MapEntry → Pr
  | [] => Emp
  | e :: r => Star (Row 3 1 e.val (F (unkey e.key)).length (intsV (F (unkey e.key)))) (Rows F r)
theorem rows_take {F : Three → List Nat} {w0 w : World} (a : List MapEntry) (e : MapEntry) (c : List MapEntry) {L : List Pr} (H : Sp w0 (Rows F (a ++ e :: c) :: L) w) :
    Sp w0 (Row 3 1 e.val (F (unkey e.key)).length (intsV (F (unkey e.key))) :: Rows F (a ++ c) :: L) w := by
  induction a generalizing L with
  | nil => exact H.unstar
  | cons x a ih =>
    have H1 := ih (H.unstar.swap)
    have H2 := H1.pick 3 [2, 1, 0]
    exact (Sp.star H2).swap
theorem rows_put {F : Three → List Nat} {w0 w : World} (a : List MapEntry) (e : MapEntry) (c : List MapEntry) {L : List Pr}
    (H : Sp w0 (Row 3 1 e.val (F (unkey e.key)).length (intsV (F (unkey e.key))) :: Rows F (a ++ c) :: L) w) : Sp w0 (Rows F (a ++ e :: c) :: L) w := by
  induction a generalizing L with
  | nil => exact Sp.star H
  | cons x a ih =>
    have H2 := H.swap.unstar
    have H3 := ih (H2.pick 3 [2, 1, 0])
    exact Sp.star H3.swap
theorem rows_congr {F G : Three → List Nat} (es : List MapEntry) (h : ∀ e ∈ es, F (unkey e.key) = G (unkey e.key)) : Rows F es = Rows G es := by
  induction es with
  | nil => rfl
  | cons e r ih =>
    unfold Rows
    rw [h e (List.mem_cons_self ..), ih fun e' he' => h e' (List.mem_cons_of_mem _ he')]
/-- The map holds what was noted. -/
structure FdOk (B : List UInt8) (n : Nat) (es : Array MapEntry) (clock : Nat) : Prop where
  ok : MapOk es clock
  all : ∀ i, i < n → ∃ e ∈ es.toList, e.key = key3 (PM.at3 B i)
/-- A finder of the bytes B, of which n places are noted. -/
def Fd (g : Nat) (bv : Value) (B : List UInt8) (d : Int) (n : Nat) : Pr :=
  Ex fun mb : Nat => Ex fun es : Array MapEntry => Ex fun clock : Nat => Ex fun (_ : FdOk B n es clock) =>
    Star (FdB g bv d mb n) (Star (Is mb (.map es clock)) (Rows (PM.places B n) es.toList))
theorem fd_open {w0 w : World} {L : List Pr} {g : Nat} {bv : Value} {B : List UInt8} {d : Int} {n : Nat} (H : Sp w0 (Fd g bv B d n :: L) w) :
    ∃ mb es clock, FdOk B n es clock ∧ Sp w0 (FdB g bv d mb n :: Is mb (.map es clock) :: Rows (PM.places B n) es.toList :: L) w := by
  obtain ⟨mb, H⟩ := H.unex
  obtain ⟨es, H⟩ := H.unex
  obtain ⟨clock, H⟩ := H.unex
  obtain ⟨hok, H⟩ := H.unex
  have H2 := H.unstar.swap.unstar
  exact ⟨mb, es, clock, hok, H2.pick 3 [2, 0, 1]⟩
theorem fd_shut {w0 w : World} {L : List Pr} {g : Nat} {bv : Value} {B : List UInt8} {d : Int} {n mb : Nat} {es : Array MapEntry} {clock : Nat} (hok : FdOk B n es clock)
    (H : Sp w0 (FdB g bv d mb n :: Is mb (.map es clock) :: Rows (PM.places B n) es.toList :: L) w) : Sp w0 (Fd g bv B d n :: L) w :=
  Sp.ex mb (Sp.ex es (Sp.ex clock (Sp.ex hok (Sp.star (Sp.swap (Sp.star (H.pick 3 [1, 2, 0])))))))
theorem FdOk.new {B : List UInt8} {n : Nat} {es : Array MapEntry} {clock : Nat} (h : FdOk B n es clock) (hk : ∀ e ∈ es.toList, e.key ≠ key3 (PM.at3 B n)) (v : Value) :
    FdOk B (n + 1) (es.push ⟨key3 (PM.at3 B n), v, clock⟩) (clock + 1) where
  ok := h.ok.push v hk
  all i hi := by
    rcases Nat.lt_or_ge i n with h1 | h1
    · obtain ⟨e, he, hk⟩ := h.all i h1
      exact ⟨e, by simp [he], hk⟩
    · obtain rfl : i = n := by omega
      exact ⟨⟨key3 (PM.at3 B i), v, clock⟩, by simp, rfl⟩
theorem FdOk.old {B : List UInt8} {n : Nat} {es : Array MapEntry} {clock : Nat} (h : FdOk B n es clock) {j : Nat} {e : MapEntry} (hj : es.toList[j]? = some e) (hk : e.key = key3 (PM.at3 B n)) (v : Value) :
    FdOk B (n + 1) (es.modify j fun e => { e with val := v }) clock where
  ok := h.ok.modify j v
  all i hi := by
    have hm : ∀ e' ∈ es.toList, ∃ e2 ∈ (es.modify j fun e => { e with val := v }).toList, e2.key = e'.key := fun e' he' => by
      obtain ⟨q, hq, rfl⟩ := List.getElem_of_mem he'
      refine ⟨(es.modify j fun e => { e with val := v }).toList[q]'(by simpa using hq), List.getElem_mem _, ?_⟩
      simp only [Array.toList_modify, List.getElem_modify]
      split <;> rfl
    rcases Nat.lt_or_ge i n with h1 | h1
    · obtain ⟨e', he', hk'⟩ := h.all i h1
      obtain ⟨e2, h2, h3⟩ := hm e' he'
      exact ⟨e2, h2, h3.trans hk'⟩
    · obtain rfl : i = n := by omega
      obtain ⟨e2, h2, h3⟩ := hm e (List.mem_of_getElem? hj)
      exact ⟨e2, h2, h3.trans hk⟩
theorem FdOk.none {B : List UInt8} {n : Nat} {es : Array MapEntry} {clock : Nat} (h : FdOk B n es clock) {k : Three} (hk : ∀ e ∈ es.toList, e.key ≠ key3 k) : PM.places B n k = [] :=
  PM.places_none fun i hi he => by
    obtain ⟨e, h1, h2⟩ := h.all i hi
    exact hk e h1 (by rw [h2, he])
end Go.Proofs.Ytdlbhoedmaifpaa
