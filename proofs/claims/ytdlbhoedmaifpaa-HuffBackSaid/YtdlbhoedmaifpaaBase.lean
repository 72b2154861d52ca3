/- Small words for memory, used by all walks of this seat: a slice that reads as a list, a block that is known whole, what a call may have changed. -/
import Derived.WalkKit
import Derived.WalkSpells
import Derived.WalkLawsBesides
import Derived.Deep.QuietTactic
import Derived.BigQuiet
import Derived.Lib.Hide
namespace Go.Proofs.Ytdlbhoedmaifpaa
open Go.RowKit

/-- The cells from A on read as xs. -/
def Rd (w : World) (A : Option Addr) (xs : List Value) : Prop := xs ≠ [] → ∃ ad, A = some ad ∧ ∀ j u, xs[j]? = some u → w.cell? (ad.add j) = some u
theorem Rd.at_ {w : World} {A : Option Addr} {xs : List Value} (h : Rd w A xs) {k : Nat} (hk : k < xs.length) : ∃ ad, A = some ad ∧ w.cell? (ad.add k) = some xs[k] := by
  obtain ⟨ad, e, hc⟩ := h (by rintro rfl; simp at hk)
  exact ⟨ad, e, hc k _ (List.getElem?_eq_getElem hk)⟩
theorem Rd.nil {w : World} {A : Option Addr} : Rd w A [] := fun h => absurd rfl h
theorem Rd.keep {w w' : World} {A : Option Addr} {xs : List Value} (h : Rd w A xs) (hk : ∀ (p : Addr) u, u ∈ xs → w.cell? p = some u → w'.cell? p = w.cell? p) : Rd w' A xs := fun hn => by
  obtain ⟨ad, e, hc⟩ := h hn
  exact ⟨ad, e, fun j u hu => by rw [hk _ u (List.mem_of_getElem? hu) (hc j u hu)]; exact hc j u hu⟩
def cells64 (l : List Int) : List Value := l.map (Value.int .i64)
def cellsN (l : List Nat) : List Value := l.map fun n : Nat => Value.int .i64 (n : Int)
def cells8 (l : List UInt8) : List Value := l.map fun c : UInt8 => Value.int .u8 (c.toNat : Int)
theorem Rd.at8 {w : World} {A : Option Addr} {l : List UInt8} (h : Rd w A (cells8 l)) {k : Nat} (hk : k < l.length) :
    ∃ ad, A = some ad ∧ w.cell? (ad.add k) = some (.int .u8 (l[k].toNat : Int)) := by
  obtain ⟨ad, e, hc⟩ := h.at_ (k := k) (by simpa [cells8] using hk)
  exact ⟨ad, e, by simpa [cells8] using hc⟩
/-- A slice of bytes. -/
def Byt (w : World) (v : Value) (l : List UInt8) : Prop := ∃ A c, v = .slice A l.length c ∧ Rd w A (cells8 l) ∧ l.length ≤ c ∧ c ≤ maxLen
theorem Byt.keep {w w' : World} {v : Value} {l : List UInt8} (h : Byt w v l) (hk : ∀ (p : Addr) (n : Int), w.cell? p = some (.int .u8 n) → w'.cell? p = w.cell? p) : Byt w' v l := by
  obtain ⟨A, c, e, hr, h1, h2⟩ := h
  exact ⟨A, c, e, hr.keep fun p u hu hc => by
    simp only [cells8, List.mem_map] at hu
    obtain ⟨x, _, rfl⟩ := hu
    exact hk p _ hc, h1, h2⟩

/-- Block g is just the cells cs, none of them frozen. -/
def Blk (w : World) (g : Nat) (t : TypeId) (cs : List Value) : Prop := w.heap[g]? = some (.cells cs.toArray t (0, 0))
section
variable {w w' : World} {g : Nat} {t : TypeId} {cs : List Value}
theorem Blk.lt (h : Blk w g t cs) : g < w.heap.size := by
  rcases Nat.lt_or_ge g w.heap.size with hlt | hge
  · exact hlt
  · unfold Blk at h; rw [Array.getElem?_eq_none hge] at h; cases h
theorem Blk.cell (h : Blk w g t cs) (i : Nat) : w.cell? ⟨g, i, none⟩ = cs[i]? := by
  unfold Blk at h
  simp [World.cell?, h]
theorem Blk.cell_any (h : Blk w g t cs) {p : Addr} (hp : p.block = g) {u : Value} (hu : w.cell? p = some u) : u ∈ cs := by
  unfold Blk at h
  subst hp
  simp only [World.cell?, h] at hu
  split at hu
  · cases hu
  · exact List.mem_of_getElem? (by simpa using hu)
theorem Blk.frozen (h : Blk w g t cs) (i : Nat) : w.frozen? ⟨g, i, none⟩ = false := by
  unfold Blk at h
  simp [World.frozen?, h]
theorem Blk.drewN (h : Blk w g t cs) (n : Nat) : Blk (w.drewN n) g t cs := h
theorem Blk.alloc (h : Blk w g t cs) (o : Obj) : Blk (w.alloc o) g t cs := (Below.heap_alloc w o g h.lt).trans h
theorem Blk.new (w : World) (t : TypeId) (cs : List Value) : Blk (w.alloc (.cells cs.toArray t)) w.heap.size t cs := heap_alloc_new w _
theorem Blk.set_ (h : Blk w g t cs) (i : Nat) (u : Value) : Blk (w.setCell ⟨g, i, none⟩ u) g t (cs.set i u) := by
  unfold Blk at h ⊢
  simp [World.setCell, Array.getElem?_modify, h]
theorem Blk.far (h : Blk w g t cs) {p : Addr} (hp : g ≠ p.block) (u : Value) : Blk (w.setCell p u) g t cs := (Below.heap_setCell w p u g hp).trans h
end

theorem Rd.of_blk {w : World} {g : Nat} {t : TypeId} {cs : List Value} (h : Blk w g t cs) : Rd w (some ⟨g, 0, none⟩) cs := fun _ => ⟨_, rfl, fun j u hu => by
  unfold Addr.add
  split
  · rename_i h0; subst h0; rw [h.cell]; exact hu
  · show w.cell? ⟨g, 0 + j, none⟩ = _
    rw [Nat.zero_add, h.cell]; exact hu⟩
theorem Byt.of_blk {w : World} {g : Nat} {t : TypeId} (l : List UInt8) (h : Blk w g t (cells8 l)) (hm : l.length ≤ maxLen) : Byt w (.slice (some ⟨g, 0, none⟩) l.length l.length) l :=
  ⟨_, _, rfl, Rd.of_blk h, Nat.le_refl _, hm⟩
theorem Byt.nil (w : World) : Byt w (.slice none 0 0) [] := ⟨none, 0, rfl, Rd.nil, Nat.le_refl _, by simp [maxLen]⟩
theorem cell_lt0 {w : World} {p : Addr} {u : Value} (h : w.cell? p = some u) : p.block < w.heap.size := by
  rcases Nat.lt_or_ge p.block w.heap.size with hlt | hge
  · exact hlt
  · unfold World.cell? at h; rw [Array.getElem?_eq_none hge] at h; cases h
theorem cell_alloc_old {w : World} {p : Addr} {u : Value} (o : Obj) (h : w.cell? p = some u) : (w.alloc o).cell? p = w.cell? p :=
  World.cell?_of_block (Below.heap_alloc w o p.block (cell_lt0 h))
theorem Rd.alloc {w : World} {A : Option Addr} {xs : List Value} (h : Rd w A xs) (o : Obj) : Rd (w.alloc o) A xs := h.keep fun _ _ _ hc => cell_alloc_old o hc
theorem Byt.alloc {w : World} {v : Value} {l : List UInt8} (h : Byt w v l) (o : Obj) : Byt (w.alloc o) v l := h.keep fun _ _ hc => cell_alloc_old o hc
/-- A new block, with or without a mark, reads as what it was made of. -/
theorem Rd.new {w : World} {g : Nat} (cs : List Value) (t : TypeId) (fr : Nat × Nat) (hg : w.heap.size = g) : Rd (w.alloc (.cells cs.toArray t fr)) (some ⟨g, 0, none⟩) cs := fun _ => ⟨_, rfl, fun j u hu => by
  subst hg
  have hb : (w.alloc (.cells cs.toArray t fr)).heap[w.heap.size]? = some (.cells cs.toArray t fr) := heap_alloc_new w _
  have hc : ∀ i, (w.alloc (.cells cs.toArray t fr)).cell? ⟨w.heap.size, i, none⟩ = cs[i]? := fun i => by unfold World.cell?; rw [hb]; simp
  unfold Addr.add
  split
  · rename_i h0; subst h0; rw [hc]; exact hu
  · show (w.alloc _).cell? ⟨w.heap.size, 0 + j, none⟩ = _
    rw [Nat.zero_add, hc]; exact hu⟩
theorem Byt.new {w : World} {g n c : Nat} (l : List UInt8) (t : TypeId) (fr : Nat × Nat) (hg : w.heap.size = g) (hn : n = l.length) (hc : c = l.length) (hm : l.length ≤ maxLen) :
    Byt (w.alloc (.cells (cells8 l).toArray t fr)) (.slice (some ⟨g, 0, none⟩) n c) l := by
  subst hn hc
  exact ⟨_, _, rfl, Rd.new _ t fr hg, Nat.le_refl _, hm⟩
/-- What may have changed, of the blocks that were there: those of M alone. -/
structure Mod (M : Nat → Prop) (w w' : World) : Prop where
  os : w'.os = w.os
  tape : w'.tape = w.tape
  output : w'.output = w.output
  size : w.heap.size ≤ w'.heap.size
  block : ∀ k, k < w.heap.size → ¬ M k → w'.heap[k]? = w.heap[k]?
section
variable {M M' : Nat → Prop} {w w1 w2 w' : World}
theorem Mod.refl (M : Nat → Prop) (w : World) : Mod M w w := ⟨rfl, rfl, rfl, Nat.le_refl _, fun _ _ _ => rfl⟩
theorem Mod.trans (h : Mod M w w1) (k : Mod M' w1 w2) (hm : ∀ b, M' b → b < w.heap.size → M b) : Mod M w w2 :=
  ⟨k.os.trans h.os, k.tape.trans h.tape, k.output.trans h.output, Nat.le_trans h.size k.size, fun i hi hM =>
    (k.block i (Nat.lt_of_lt_of_le hi h.size) (fun hc => hM (hm i hc hi))).trans (h.block i hi hM)⟩
theorem Mod.mono (h : Mod M w w') (hm : ∀ b, b < w.heap.size → M b → M' b) : Mod M' w w' :=
  ⟨h.os, h.tape, h.output, h.size, fun i hi hM => h.block i hi fun hc => hM (hm i hi hc)⟩
theorem Mod.drewN (h : Mod M w w1) (n : Nat) : Mod M w (w1.drewN n) := ⟨h.os, h.tape, h.output, h.size, h.block⟩
theorem Mod.drew (h : Mod M w w1) : Mod M w w1.drew := ⟨h.os, h.tape, h.output, h.size, h.block⟩
theorem Mod.alloc (h : Mod M w w1) (o : Obj) : Mod M w (w1.alloc o) :=
  h.trans (M' := fun _ => False) ⟨rfl, rfl, rfl, by simp, fun k hk _ => Below.heap_alloc _ _ _ hk⟩ (fun _ hb => hb.elim)
theorem Mod.setCell (h : Mod M w w1) {p : Addr} (hp : p.block < w.heap.size → M p.block) (u : Value) : Mod M w (w1.setCell p u) :=
  h.trans (M' := fun b => b = p.block) ⟨rfl, rfl, rfl, by simp [World.setCell], fun k _ hM => Below.heap_setCell _ _ _ _ hM⟩ (fun b hb hlt => by subst hb; exact hp hlt)
theorem Mod.cell (h : Mod M w w') {p : Addr} (hp : p.block < w.heap.size) (hm : ¬ M p.block) : w'.cell? p = w.cell? p := World.cell?_of_block (h.block p.block hp hm)
theorem cell_lt {p : Addr} {u : Value} (h : w.cell? p = some u) : p.block < w.heap.size := cell_lt0 h
theorem Mod.below {B : Nat} (h : Mod M w w') (hB : B ≤ w.heap.size) (hm : ∀ b, b < B → ¬ M b) : Below B w w' :=
  ⟨h.os, h.tape, h.output, h.size, fun k hk => h.block k (by omega) (hm k hk)⟩
theorem Mod.of_below (h : Below w.heap.size w w') : Mod M w w' := ⟨h.os, h.tape, h.output, h.size, fun k hk _ => h.block k hk⟩
theorem Mod.blk {g : Nat} {t : TypeId} {cs : List Value} (h : Mod M w w') (hb : Blk w g t cs) (hm : ¬ M g) : Blk w' g t cs := (h.block g hb.lt hm).trans hb
/-- A cell that holds something that block g does not hold is as it was, where g alone may have changed. -/
theorem Mod.cell_kind {g : Nat} {t : TypeId} {cs : List Value} (h : Mod (· = g) w w') (hb : Blk w g t cs) {p : Addr} {u : Value} (hu : w.cell? p = some u) (hne : u ∉ cs) : w'.cell? p = w.cell? p :=
  h.cell (cell_lt hu) (fun e => hne (hb.cell_any e hu))
end
theorem bel_drewN {B : Nat} {w w' : World} (h : Below B w w') (n : Nat) : Below B w (w'.drewN n) := ⟨h.os, h.tape, h.output, h.size, h.block⟩
theorem ret_u32 {a : Int} {b : Nat} (h : a = b) : Ending.returned (.int .u32 a) = .returned (.int .u32 (b : Int)) := by rw [h]
theorem ret_i64 {a b : Int} (h : a = b) : Ending.returned (.int .i64 a) = .returned (.int .i64 b) := by rw [h]
theorem ret_bool {a b : Bool} (h : a = b) : Ending.returned (.bool a) = .returned (.bool b) := by rw [h]
end Go.Proofs.Ytdlbhoedmaifpaa
