/- Memory by pieces: what a list of pieces says of a world, each piece of blocks of its own; and how an operation or a call turns one piece and leaves the others. -/
import Derived.Test.YtdlbhoedmaifpaaBase
import Derived.Test.YtdlbhoedmaifpaaOwn
namespace Go.Proofs.Ytdlbhoedmaifpaa
open Go.RowKit

/-- A heap, or a part of one. -/
abbrev Hp := Nat → Option Obj
def hpOf (w : World) : Hp := fun b => w.heap[b]?
/-- What is said of a part of a heap. -/
abbrev Pr := Hp → Prop
open Classical in
/-- The part of a heap that lies in the blocks of s. -/
noncomputable def rs (s : Nat → Prop) (h : Hp) : Hp := fun b => if s b then h b else none
theorem rs_pos {s : Nat → Prop} {h : Hp} {b : Nat} (e : s b) : rs s h b = h b := if_pos e
theorem rs_neg {s : Nat → Prop} {h : Hp} {b : Nat} (e : ¬ s b) : rs s h b = none := if_neg e
theorem rs_some {s : Nat → Prop} {h : Hp} {b : Nat} {o : Obj} (e : rs s h b = some o) : s b ∧ h b = some o := by
  by_cases k : s b
  · rw [rs_pos k] at e; exact ⟨k, e⟩
  · rw [rs_neg k] at e; cases e
theorem rs_eq {s t : Nat → Prop} {h h' : Hp} (k : ∀ b, (s b ∧ t b ∧ h b = h' b) ∨ (¬ s b ∧ ¬ t b) ∨ (h b = none ∧ ¬ t b) ∨ (¬ s b ∧ h' b = none)) : rs s h = rs t h' := by
  funext b
  rcases k b with ⟨h1, h2, h3⟩ | ⟨h1, h2⟩ | ⟨h1, h2⟩ | ⟨h1, h2⟩
  · rw [rs_pos h1, rs_pos h2, h3]
  · rw [rs_neg h1, rs_neg h2]
  · rw [rs_neg h2]
    by_cases e : s b
    · rw [rs_pos e, h1]
    · rw [rs_neg e]
  · rw [rs_neg h1]
    by_cases e : t b
    · rw [rs_pos e, h2]
    · rw [rs_neg e]
theorem rs_rs {s t : Nat → Prop} {h : Hp} : rs s (rs t h) = rs (fun b => s b ∧ t b) h := by
  funext b
  by_cases e : s b
  · rw [rs_pos e]
    by_cases e2 : t b
    · rw [rs_pos e2, rs_pos ⟨e, e2⟩]
    · rw [rs_neg e2, rs_neg (fun k => e2 k.2)]
  · rw [rs_neg e, rs_neg (fun k => e k.1)]
theorem rs_iff {s t : Nat → Prop} {h : Hp} (k : ∀ b, s b ↔ t b) : rs s h = rs t h := by
  have : s = t := funext fun b => propext (k b)
  rw [this]
noncomputable def cut (h : Hp) (own : Nat → Nat) (i : Nat) : Hp := rs (fun b => own b = i) h
/-- The world w, which came of w0, bears these pieces, each in blocks of its own. -/
structure Sp (w0 : World) (L : List Pr) (w : World) : Prop where
  os : w.os = w0.os
  tape : w.tape = w0.tape
  output : w.output = w0.output
  own : ∃ own : Nat → Nat, ∀ (i : Nat) (A : Pr), L[i]? = some A → A (cut (hpOf w) own i)
def Emp : Pr := fun _ => True
/-- Block g is just this. -/
def Is (g : Nat) (o : Obj) : Pr := fun h => h g = some o
/-- Block g is just these cells. -/
def Bk (g : Nat) (t : TypeId) (cs : List Value) : Pr := Is g (.cells cs.toArray t (0, 0))
/-- All that was there in w0 is as it was. -/
def Same (w0 : World) : Pr := fun h => ∀ b, b < w0.heap.size → h b = w0.heap[b]?
def Ex {α : Sort _} (A : α → Pr) : Pr := fun h => ∃ x, A x h
def Star (A B : Pr) : Pr := fun h => ∃ s : Nat → Prop, A (rs s h) ∧ B (rs (fun b => ¬ s b) h)
/-- What holds in every world that bears the pieces. -/
def Ent (L : List Pr) (φ : World → Prop) : Prop := ∀ w0 w, Sp w0 L w → φ w

theorem Ent.pure {L : List Pr} {φ : World → Prop} (h : ∀ w, φ w) : Ent L φ := fun _ w _ => h w
theorem Ent.mono {L : List Pr} {φ ψ : World → Prop} (h : Ent L φ) (k : ∀ w, φ w → ψ w) : Ent L ψ := fun _ _ H => k _ (h _ _ H)
theorem Sp.get {w0 w : World} {L : List Pr} {φ : World → Prop} (H : Sp w0 L w) (h : Ent L φ) : φ w := h _ _ H

theorem cut_eq {h h' : Hp} {own own' : Nat → Nat} {i j : Nat} (k : ∀ b, (own b = i ∧ own' b = j ∧ h b = h' b) ∨ (own b ≠ i ∧ own' b ≠ j) ∨ (h b = none ∧ own' b ≠ j) ∨ (own b ≠ i ∧ h' b = none)) : cut h own i = cut h' own' j := rs_eq k
theorem cut_iff {h : Hp} {own own' : Nat → Nat} {i j : Nat} (k : ∀ b, own b = i ↔ own' b = j) : cut h own i = cut h own' j := rs_iff k

theorem Sp.start (w : World) : Sp w [Same w] w := ⟨rfl, rfl, rfl, fun _ => 0, fun i A h => by
  match i with
  | 0 =>
    obtain rfl : Same w = A := by simpa using h
    intro b hb; exact rs_pos rfl
  | i + 1 => simp at h⟩
theorem Sp.below {w0 w : World} {L : List Pr} (H : Sp w0 L w) (k : Nat) (hk : L[k]? = some (Same w0)) : Below w0.heap.size w0 w := by
  obtain ⟨h1, h2, h3, own, h⟩ := H
  have hs := h k _ hk
  have hb : ∀ b, b < w0.heap.size → w.heap[b]? = w0.heap[b]? := fun b hb => by
    have h5 := hs b hb
    rw [Array.getElem?_eq_getElem hb] at h5 ⊢
    exact (rs_some h5).2
  refine ⟨h1, h2, h3, ?_, hb⟩
  rcases Nat.eq_zero_or_pos w0.heap.size with h0 | h0
  · omega
  · have h6 := hb (w0.heap.size - 1) (by omega)
    rw [Array.getElem?_eq_getElem (show w0.heap.size - 1 < w0.heap.size by omega)] at h6
    have := (Array.getElem?_eq_some_iff.1 h6).1
    omega
/-- The pieces anew: σ of the first n, then the rest. -/
theorem Sp.pick {w0 w : World} {L : List Pr} (n : Nat) (σ : List Nat) (H : Sp w0 L w) (hσ : σ.Nodup ∧ ∀ i ∈ σ, i < n := by decide) :
    Sp w0 (σ.map (fun i => L.getD i Emp) ++ L.drop n) w := by
  obtain ⟨h1, h2, h3, own, h⟩ := H
  obtain ⟨hnd, hlt⟩ := hσ
  refine ⟨h1, h2, h3, fun b => if own b ∈ σ then σ.idxOf (own b) else if own b < n then σ.length + L.length else σ.length + (own b - n), fun j A hj => ?_⟩
  by_cases hjs : j < σ.length
  · rw [List.getElem?_append_left (by simpa using hjs), List.getElem?_map, List.getElem?_eq_getElem hjs] at hj
    simp only [Option.map_some, Option.some.injEq] at hj
    rw [List.getD_eq_getElem?_getD] at hj
    cases hl : L[σ[j]]? with
    | none => rw [hl] at hj; subst hj; trivial
    | some B =>
      rw [hl] at hj
      simp only [Option.getD_some] at hj
      subst hj
      have := h _ _ hl
      rw [cut_iff (own := own) (i := σ[j]) (j := j) (fun b => ?_)] at this
      · exact this
      · constructor
        · intro e
          simp only [e, List.getElem_mem, if_true]
          exact hnd.idxOf_getElem j hjs
        · intro e
          by_cases hm : own b ∈ σ
          · rw [if_pos hm] at e
            have h7 := List.getElem_idxOf (List.idxOf_lt_length_of_mem hm)
            simp only [e] at h7
            exact h7.symm
          · rw [if_neg hm] at e
            by_cases hn : own b < n
            · rw [if_pos hn] at e; omega
            · rw [if_neg hn] at e; omega
  · rw [List.getElem?_append_right (by simpa using hjs), List.getElem?_drop, List.length_map] at hj
    have := h _ _ hj
    have hjl : n + (j - σ.length) < L.length := (List.getElem?_eq_some_iff.1 hj).1
    rw [cut_iff (own := own) (i := n + (j - σ.length)) (j := j) (fun b => ?_)] at this
    · exact this
    · constructor
      · intro e
        rw [if_neg (fun hm => by have := hlt _ hm; omega), if_neg (by omega)]; omega
      · intro e
        by_cases hm : own b ∈ σ
        · rw [if_pos hm] at e
          have := List.idxOf_lt_length_of_mem hm
          omega
        · rw [if_neg hm] at e
          by_cases hn : own b < n
          · rw [if_pos hn] at e; omega
          · rw [if_neg hn] at e; omega
theorem Sp.tail {w0 w : World} {A : Pr} {L : List Pr} (H : Sp w0 (A :: L) w) : Sp w0 L w := H.pick 1 []
theorem Ent.cons {L : List Pr} {φ : World → Prop} (A : Pr) (h : Ent L φ) : Ent (A :: L) φ := fun _ _ H => h _ _ H.tail
theorem Ent.pick {L : List Pr} {φ : World → Prop} (n : Nat) (σ : List Nat) (h : Ent (σ.map (fun i => L.getD i Emp) ++ L.drop n) φ) (hσ : σ.Nodup ∧ ∀ i ∈ σ, i < n := by decide) : Ent L φ := fun _ _ H => h _ _ (H.pick n σ hσ)
theorem Sp.tail2 {w0 w : World} {A B : Pr} {L : List Pr} (H : Sp w0 (A :: B :: L) w) : Sp w0 L w := H.tail.tail
theorem Sp.swap {w0 w : World} {A B : Pr} {L : List Pr} (H : Sp w0 (A :: B :: L) w) : Sp w0 (B :: A :: L) w := H.pick 2 [1, 0]

/-- A world that kept all blocks, and perhaps made new ones. -/
theorem Sp.grow {w0 w w' : World} {L : List Pr} (H : Sp w0 L w) (hos : w'.os = w.os) (ht : w'.tape = w.tape) (ho : w'.output = w.output) (hb : ∀ k, k < w.heap.size → w'.heap[k]? = w.heap[k]?) : Sp w0 L w' := by
  obtain ⟨h1, h2, h3, own, h⟩ := H
  refine ⟨hos.trans h1, ht.trans h2, ho.trans h3, fun b => if b < w.heap.size then own b else L.length, fun i A hi => ?_⟩
  have hil := (List.getElem?_eq_some_iff.1 hi).1
  refine cast (congrArg A (cut_eq fun b => ?_)) (h i A hi)
  by_cases hbl : b < w.heap.size
  · by_cases e : own b = i
    · exact .inl ⟨e, by rw [if_pos hbl]; exact e, (hb b hbl).symm⟩
    · exact .inr (.inl ⟨e, by rw [if_pos hbl]; exact e⟩)
  · exact .inr (.inr (.inl ⟨Array.getElem?_eq_none (by omega), by rw [if_neg hbl]; omega⟩))
theorem Sp.of_below {w0 w w' : World} {L : List Pr} (H : Sp w0 L w) (h : Below w.heap.size w w') : Sp w0 L w' := H.grow h.os h.tape h.output h.block
theorem Sp.drew {w0 w : World} {L : List Pr} (H : Sp w0 L w) : Sp w0 L w.drew := ⟨H.os, H.tape, H.output, H.own⟩
theorem Sp.drewN {w0 w : World} {L : List Pr} (H : Sp w0 L w) (n : Nat) : Sp w0 L (w.drewN n) := ⟨H.os, H.tape, H.output, H.own⟩
/-- A new block. -/
theorem Sp.new {w0 w : World} {L : List Pr} (H : Sp w0 L w) (o : Obj) : Sp w0 (Is w.heap.size o :: L) (w.alloc o) := by
  obtain ⟨h1, h2, h3, own, h⟩ := H
  refine ⟨h1, h2, h3, fun b => if b = w.heap.size then 0 else own b + 1, fun i A hi => ?_⟩
  match i with
  | 0 =>
    obtain rfl : Is w.heap.size o = A := by simpa using hi
    exact (rs_pos (by simp)).trans (heap_alloc_new w o)
  | i + 1 =>
    refine cast (congrArg A (cut_eq fun b => ?_)) (h i A (by simpa using hi))
    by_cases e : b = w.heap.size
    · exact .inr (.inr (.inl ⟨Array.getElem?_eq_none (by omega), by rw [if_pos e]; omega⟩))
    · have hh : (w.alloc o).heap[b]? = w.heap[b]? := by
        show (w.heap.push o)[b]? = _
        rw [Array.getElem?_push, if_neg e]
      rw [if_neg e]
      by_cases e2 : own b = i
      · exact .inl ⟨e2, by omega, hh.symm⟩
      · exact .inr (.inl ⟨e2, by omega⟩)
theorem Sp.alloc {w0 w : World} {L : List Pr} (H : Sp w0 L w) (o : Obj) : Sp w0 L (w.alloc o) := (H.new o).tail
theorem Sp.newBk {w0 w : World} {L : List Pr} (H : Sp w0 L w) (cs : List Value) (t : TypeId) : Sp w0 (Bk w.heap.size t cs :: L) (w.alloc (.cells cs.toArray t)) := H.new _

/-- The first piece turns; what is not its own stays; new blocks are its own. -/
theorem Sp.turn {w0 w w' : World} {A A' : Pr} {L : List Pr} (H : Sp w0 (A :: L) w) (hos : w'.os = w.os) (ht : w'.tape = w.tape) (ho : w'.output = w.output)
    (h : ∀ s : Nat → Prop, A (rs s (hpOf w)) → (∀ b, b < w.heap.size → ¬ s b → w'.heap[b]? = w.heap[b]?) ∧ A' (rs (fun b => s b ∨ w.heap.size ≤ b) (hpOf w'))) : Sp w0 (A' :: L) w' := by
  obtain ⟨h1, h2, h3, own, hL⟩ := H
  obtain ⟨k1, k2⟩ := h (fun b => own b = 0) (hL 0 A rfl)
  refine ⟨hos.trans h1, ht.trans h2, ho.trans h3, fun b => if w.heap.size ≤ b then 0 else own b, fun i B hi => ?_⟩
  match i with
  | 0 =>
    obtain rfl : A' = B := by simpa using hi
    refine cast (congrArg A' (rs_iff fun b => ?_)) k2
    show _ ↔ (if w.heap.size ≤ b then 0 else own b) = 0
    by_cases e : w.heap.size ≤ b
    · rw [if_pos e]; simp [e]
    · rw [if_neg e]; simp [e]
  | i + 1 =>
    refine cast (congrArg B (cut_eq fun b => ?_)) (hL (i + 1) B (by simpa using hi))
    by_cases e : w.heap.size ≤ b
    · exact .inr (.inr (.inl ⟨Array.getElem?_eq_none e, by rw [if_pos e]; omega⟩))
    · rw [if_neg e]
      by_cases e2 : own b = i + 1
      · exact .inl ⟨e2, e2, (k1 b (by omega) (by omega)).symm⟩
      · exact .inr (.inl ⟨e2, e2⟩)
open Classical in
theorem Sp.unstar {w0 w : World} {A B : Pr} {L : List Pr} (H : Sp w0 (Star A B :: L) w) : Sp w0 (A :: B :: L) w := by
  obtain ⟨h1, h2, h3, own, hL⟩ := H
  obtain ⟨s, hA, hB⟩ := hL 0 _ rfl
  refine ⟨h1, h2, h3, fun b => if own b = 0 then (if s b then 0 else 1) else own b + 1, fun i C hi => ?_⟩
  unfold cut at hA hB
  rw [rs_rs] at hA hB
  match i with
  | 0 =>
    obtain rfl : A = C := by simpa using hi
    refine cast (congrArg A (rs_iff fun b => ?_)) hA
    by_cases e : own b = 0 <;> by_cases e2 : s b <;> simp [e, e2]
  | 1 =>
    obtain rfl : B = C := by simpa using hi
    refine cast (congrArg B (rs_iff fun b => ?_)) hB
    by_cases e : own b = 0 <;> by_cases e2 : s b <;> simp [e, e2]
  | i + 2 =>
    refine cast (congrArg C (cut_iff fun b => ?_)) (hL (i + 1) C (by simpa using hi))
    by_cases e : own b = 0
    · rw [if_pos e]; split <;> omega
    · rw [if_neg e]; omega
theorem Sp.star {w0 w : World} {A B : Pr} {L : List Pr} (H : Sp w0 (A :: B :: L) w) : Sp w0 (Star A B :: L) w := by
  obtain ⟨h1, h2, h3, own, hL⟩ := H
  have hA := hL 0 _ rfl
  have hB := hL 1 _ rfl
  refine ⟨h1, h2, h3, fun b => if own b ≤ 1 then 0 else own b - 1, fun i C hi => ?_⟩
  match i with
  | 0 =>
    obtain rfl : Star A B = C := by simpa using hi
    refine ⟨fun b => own b = 0, ?_, ?_⟩
    · unfold cut; rw [rs_rs]
      refine cast (congrArg A (rs_iff fun b => ?_)) hA
      by_cases e : own b = 0 <;> simp [e]
    · unfold cut; rw [rs_rs]
      refine cast (congrArg B (rs_iff fun b => ?_)) hB
      by_cases e : own b = 0
      · simp [e]
      · by_cases e2 : own b = 1
        · simp [e2]
        · have : ¬ own b ≤ 1 := by omega
          have h5 : ¬ (own b - 1 = 0) := by omega
          simp [e, e2, this, h5]
  | i + 1 =>
    refine cast (congrArg C (cut_iff fun b => ?_)) (hL (i + 2) C (by simpa using hi))
    by_cases e : own b ≤ 1
    · rw [if_pos e]; omega
    · rw [if_neg e]; omega
theorem Sp.unex {α : Sort _} {w0 w : World} {A : α → Pr} {L : List Pr} (H : Sp w0 (Ex A :: L) w) : ∃ x, Sp w0 (A x :: L) w := by
  obtain ⟨h1, h2, h3, own, hL⟩ := H
  obtain ⟨x, hx⟩ := hL 0 _ rfl
  refine ⟨x, h1, h2, h3, own, fun i C hi => ?_⟩
  match i with
  | 0 =>
    obtain rfl : A x = C := by simpa using hi
    exact hx
  | i + 1 => exact hL (i + 1) C (by simpa using hi)
theorem Sp.ex {α : Sort _} {w0 w : World} {A : α → Pr} {L : List Pr} (x : α) (H : Sp w0 (A x :: L) w) : Sp w0 (Ex A :: L) w := by
  obtain ⟨h1, h2, h3, own, hL⟩ := H
  refine ⟨h1, h2, h3, own, fun i C hi => ?_⟩
  match i with
  | 0 =>
    obtain rfl : Ex A = C := by simpa using hi
    exact ⟨x, hL 0 _ rfl⟩
  | i + 1 => exact hL (i + 1) C (by simpa using hi)

/-- What a piece that names a block tells. -/
theorem Sp.is_ {w0 w : World} {L : List Pr} (H : Sp w0 L w) (k : Nat) {g : Nat} {o : Obj} (hk : L[k]? = some (Is g o)) : w.heap[g]? = some o := by
  obtain ⟨_, _, _, own, h⟩ := H
  have := h k _ hk
  exact (rs_some this).2
theorem Sp.blk {w0 w : World} {L : List Pr} (H : Sp w0 L w) (k : Nat) {g : Nat} {t : TypeId} {cs : List Value} (hk : L[k]? = some (Bk g t cs)) : Blk w g t cs := H.is_ k hk
theorem Sp.cell {w0 w : World} {L : List Pr} (H : Sp w0 L w) (k : Nat) {g : Nat} {t : TypeId} {cs : List Value} (hk : L[k]? = some (Bk g t cs)) (i : Nat) : w.cell? ⟨g, i, none⟩ = cs[i]? := (H.blk k hk).cell i
theorem Sp.frozen {w0 w : World} {L : List Pr} (H : Sp w0 L w) (k : Nat) {g : Nat} {t : TypeId} {cs : List Value} (hk : L[k]? = some (Bk g t cs)) (i : Nat) : w.frozen? ⟨g, i, none⟩ = false := (H.blk k hk).frozen i
/-- A store into the first piece. -/
theorem Sp.set {w0 w : World} {L : List Pr} {g : Nat} {t : TypeId} {cs : List Value} (H : Sp w0 (Bk g t cs :: L) w) (i : Nat) (u : Value) : Sp w0 (Bk g t (cs.set i u) :: L) (w.setCell ⟨g, i, none⟩ u) := by
  have hb' : Blk (w.setCell ⟨g, i, none⟩ u) g t (cs.set i u) := (H.blk 0 rfl).set_ i u
  refine H.turn rfl rfl rfl fun s hs => ?_
  have hsg := (rs_some hs).1
  exact ⟨fun b _ hsb => Below.heap_setCell _ _ _ _ (by rintro rfl; exact hsb hsg), (rs_pos (.inl hsg)).trans hb'⟩
/-- An object of another kind, written anew. -/
theorem Sp.put {w0 w : World} {L : List Pr} {g : Nat} {o : Obj} (H : Sp w0 (Is g o :: L) w) (o' : Obj) : Sp w0 (Is g o' :: L) { w with heap := w.heap.setIfInBounds g o' } := by
  have hg := heap_lt (H.is_ 0 rfl)
  refine H.turn rfl rfl rfl fun s hs => ?_
  have hsg := (rs_some hs).1
  refine ⟨fun b _ hsb => ?_, (rs_pos (.inl hsg)).trans ?_⟩
  · show (w.heap.setIfInBounds g o')[b]? = _
    rw [Array.getElem?_setIfInBounds, if_neg]
    rintro rfl
    exact hsb hsg
  · show (w.heap.setIfInBounds g o')[g]? = _
    rw [Array.getElem?_setIfInBounds, if_pos rfl, if_pos hg]

/-- A row that is owned: 'World.ownsRow' as a piece. -/
def Row (e : TypeId) (size : Nat) (v : Value) (n : Nat) (xs : List Value) : Pr := fun h =>
  xs.length = n * size ∧ ((v = .slice none 0 0 ∧ n = 0) ∨
   ∃ g cap cur, v = .slice (some ⟨g, 0, none⟩) n cap ∧ h g = some (.cells cur e (0, 0)) ∧ n ≤ cap ∧ cap ≤ maxLen ∧ cur.size = cap * size ∧ cur.toList.take (n * size) = xs)
theorem Sp.owns {w0 w : World} {L : List Pr} (H : Sp w0 L w) (k : Nat) {e : TypeId} {size n : Nat} {v : Value} {xs : List Value} (hk : L[k]? = some (Row e size v n xs)) : w.ownsRow 0 e size v n xs := by
  obtain ⟨_, _, _, own, h⟩ := H
  obtain ⟨h1, h2⟩ := h k _ hk
  refine ⟨h1, h2.imp id ?_⟩
  rintro ⟨g, cap, cur, hv, hg, r⟩
  exact ⟨g, cap, cur, hv, Nat.zero_le _, (rs_some hg).2, r⟩
theorem Sp.rowNil {w0 w : World} {L : List Pr} (H : Sp w0 L w) (e : TypeId) (size : Nat) : Sp w0 (Row e size (.slice none 0 0) 0 [] :: L) w := by
  obtain ⟨h1, h2, h3, own, h⟩ := H
  refine ⟨h1, h2, h3, fun b => own b + 1, fun i A hi => ?_⟩
  match i with
  | 0 =>
    obtain rfl : Row e size (.slice none 0 0) 0 [] = A := by simpa using hi
    exact ⟨by simp, .inl ⟨rfl, rfl⟩⟩
  | i + 1 => exact cast (congrArg A (cut_iff fun b => by omega)) (h i A (by simpa using hi))
/-- Behind an append onto the row in front. -/
theorem Sp.appended {w0 w w' : World} {L : List Pr} {e : TypeId} {size n n' : Nat} {v v' : Value} {xs xs' : List Value} (H : Sp w0 (Row e size v n xs :: L) w)
    (ho : w'.ownsRow 0 e size v' n' xs') (hg : w.grownBy w' v.ownBlock) (ha : v'.ownBlock = v.ownBlock ∨ v'.ownBlock = some w.heap.size) : Sp w0 (Row e size v' n' xs' :: L) w' := by
  refine H.turn hg.os hg.tape hg.output fun s hs => ?_
  have hown : ∀ g, v.ownBlock = some g → s g := fun g hv => by
    rcases hs.2 with ⟨rfl, _⟩ | ⟨g', cap, cur, rfl, hh, _⟩
    · simp [Value.ownBlock] at hv
    · simp only [Value.ownBlock, Option.some.injEq] at hv
      subst hv
      exact (rs_some hh).1
  refine ⟨fun b hb hsb => hg.block b hb fun e => hsb (hown b e.symm), ho.1, ho.2.imp id ?_⟩
  rintro ⟨g, cap, cur, rfl, _, hh, r⟩
  refine ⟨g, cap, cur, rfl, (rs_pos ?_).trans hh, r⟩
  rcases ha with ha | ha
  · exact .inl (hown g (by rw [← ha]; rfl))
  · simp only [Value.ownBlock, Option.some.injEq] at ha
    exact .inr (by omega)
/-- A block just made, as a row that is full. -/
theorem Sp.bkRow {w0 w : World} {L : List Pr} {g : Nat} {t : TypeId} {cs : List Value} (H : Sp w0 (Bk g t cs :: L) w) (size n : Nat) (hn : cs.length = n * size) (hm : n ≤ maxLen) : Sp w0 (Row t size (.slice (some ⟨g, 0, none⟩) n n) n cs :: L) w :=
  H.turn rfl rfl rfl fun s hs => ⟨fun _ _ _ => rfl, hn, .inr ⟨g, n, cs.toArray, rfl, (rs_pos (.inl (rs_some hs).1)).trans (rs_some hs).2, Nat.le_refl _, hm, by simpa using hn, by simp [← hn]⟩⟩

/-- A slice of cells that reads as a list; each element is one cell. -/
def Sl (w : World) (v : Value) (xs : List Value) : Prop := ∃ A c, v = .slice A xs.length c ∧ Rd w A xs ∧ xs.length ≤ c ∧ c ≤ maxLen
theorem Byt.sl {w : World} {v : Value} {l : List UInt8} (h : Byt w v l) : Sl w v (cells8 l) := by
  obtain ⟨A, c, e, r⟩ := h
  exact ⟨A, c, by simpa [cells8] using e, r.1, by simpa [cells8] using r.2⟩
theorem Sp.row_byt {w0 w : World} {L : List Pr} (H : Sp w0 L w) (k : Nat) {e : TypeId} {v : Value} {l : List UInt8} (hk : L[k]? = some (Row e 1 v l.length (cells8 l))) : Byt w v l := own_byt (H.owns k hk)
/-- What was read in the start's world is read still. -/
theorem Ent.same {w0 : World} {L : List Pr} (k : Nat) (hk : L[k]? = some (Same w0)) {v : Value} {l : List UInt8} (h : Byt w0 v l) : ∀ w, Sp w0 L w → Byt w v l := fun w H => by
  have hb := H.below k hk
  exact h.keep fun p n hp => hb.cell (cell_lt hp)
/-- How worlds go on where nothing that is said of pieces is lost. -/
def Keep (w w' : World) : Prop := w'.os = w.os ∧ w'.tape = w.tape ∧ w'.output = w.output ∧ w.heap.size ≤ w'.heap.size ∧ ∀ k, k < w.heap.size → w'.heap[k]? = w.heap[k]?
theorem Keep.refl (w : World) : Keep w w := ⟨rfl, rfl, rfl, Nat.le_refl _, fun _ _ => rfl⟩
theorem Keep.trans {a b c : World} (h : Keep a b) (k : Keep b c) : Keep a c :=
  ⟨k.1.trans h.1, k.2.1.trans h.2.1, k.2.2.1.trans h.2.2.1, Nat.le_trans h.2.2.2.1 k.2.2.2.1, fun i hi => (k.2.2.2.2 i (Nat.lt_of_lt_of_le hi h.2.2.2.1)).trans (h.2.2.2.2 i hi)⟩
theorem Keep.sep {w0 w w' : World} {L : List Pr} (h : Keep w w') (H : Sp w0 L w) : Sp w0 L w' := H.grow h.1 h.2.1 h.2.2.1 h.2.2.2.2
theorem Keep.below {w w' : World} (h : Keep w w') : Below w.heap.size w w' := ⟨h.1, h.2.1, h.2.2.1, h.2.2.2.1, h.2.2.2.2⟩
theorem Below.keep {w w' : World} (h : Below w.heap.size w w') : Keep w w' := ⟨h.os, h.tape, h.output, h.size, h.block⟩
theorem Keep.alloc (w : World) (o : Obj) : Keep w (w.alloc o) := Below.keep ((Below.refl _ _).alloc (Nat.le_refl _) _)
theorem Keep.drew (w : World) : Keep w w.drew := ⟨rfl, rfl, rfl, Nat.le_refl _, fun _ _ => rfl⟩
theorem Keep.drewN (w : World) (n : Nat) : Keep w (w.drewN n) := ⟨rfl, rfl, rfl, Nat.le_refl _, fun _ _ => rfl⟩
end Go.Proofs.Ytdlbhoedmaifpaa
