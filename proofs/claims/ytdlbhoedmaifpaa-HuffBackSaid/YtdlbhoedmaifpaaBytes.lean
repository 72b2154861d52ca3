/- Bytes: slices of bytes taken apart; strings of them. -/
import Derived.Test.YtdlbhoedmaifpaaSepOps
import Derived.Lib.LazyBuf
namespace Go.Proofs.Ytdlbhoedmaifpaa
open Go.RowKit
theorem Byt.take {w : World} {A : Option Addr} {n c : Nat} {l : List UInt8} (h : Byt w (.slice A n c) l) (k : Nat) (hk : k ≤ l.length) : Byt w (.slice A k c) (l.take k) := by
  obtain ⟨A', c', e, hr, h1, h2⟩ := h
  injection e with e1 e2 e3
  subst e1 e3
  refine ⟨A, c, by rw [List.length_take, Nat.min_eq_left hk], fun hn => ?_, by simp; omega, h2⟩
  obtain ⟨ad, e, hc⟩ := hr (by intro h0; apply hn; unfold cells8 at h0 ⊢; rw [List.map_take, h0, List.take_nil])
  refine ⟨ad, e, fun j u hu => hc j u ?_⟩
  unfold cells8 at hu ⊢
  rw [List.map_take, List.getElem?_take] at hu
  split at hu
  · exact hu
  · cases hu

theorem Byt.below {w w' : World} {v : Value} {l : List UInt8} (h : Byt w v l) (hB : Below w.heap.size w w') : Byt w' v l := h.keep fun _ _ hc => hB.cell (cell_lt hc)
theorem field_addr (a : Addr) (m j : Nat) (hj : 0 < j) : (⟨(a.add m).block, (a.add m).off + j, none⟩ : Addr) = a.add (m + j) := by
  unfold Addr.add
  rw [if_neg (show ¬ (m + j = 0) by omega)]
  by_cases hm : m = 0
  · subst hm; simp
  · rw [if_neg hm]; simp [Nat.add_assoc]
theorem Byt.drop {w : World} {A : Option Addr} {n c : Nat} {l : List UInt8} (h : Byt w (.slice A n c) l) (k : Nat) (hk : k ≤ n) : Byt w (.slice (A.map (·.add k)) (n - k) (c - k)) (l.drop k) := by
  obtain ⟨A', c', e, hr, h1, h2⟩ := h
  injection e with e1 e2 e3
  subst e1 e2 e3
  refine ⟨_, _, by rw [List.length_drop], fun hn => ?_, by simp; omega, by omega⟩
  obtain ⟨ad, rfl, hc⟩ := hr (by intro h0; apply hn; unfold cells8 at h0 ⊢; rw [List.map_drop, h0, List.drop_nil])
  refine ⟨ad.add k, rfl, fun j u hu => ?_⟩
  unfold cells8 at hu
  rw [List.map_drop, List.getElem?_drop] at hu
  rw [Go.Addr.add_add]
  exact hc _ u hu
theorem Byt.drop0 {w : World} {A : Option Addr} {n c : Nat} {l : List UInt8} (h : Byt w (.slice A n c) l) (k : Nat) (hk : k ≤ n) (hc : c = k) : Byt w (.slice A (n - k) (c - k)) (l.drop k) := by
  obtain ⟨A', c', e, hr, h1, h2⟩ := h
  injection e with e1 e2 e3
  subst e1 e2 e3
  have : l.drop k = [] := List.drop_eq_nil_iff.2 (by omega)
  rw [this]
  exact ⟨A, c - k, by simp; omega, Rd.nil, by simp, by omega⟩
/-- string(b). -/
def strOf (l : List UInt8) : ByteArray := ⟨l.toArray⟩
theorem run_str {P : Program} (w : World) (src dst e : TypeId) (v : Value) (l : List UInt8) (hs : P.underlying src = some (.slice e)) (he : P.underlying e = some (.int .u8)) (hd : P.underlying dst = some .string) (h : Byt w v l) :
    (convert src dst v).run P w = .ok (.string (strOf l)) w := by
  obtain ⟨A, c, rfl, hr, _, _⟩ := h
  have hnil : l = [] → strOf l = ByteArray.empty := fun h => by subst h; rfl
  rcases A with _ | ad
  · have hl : l = [] := by
      rcases l with _ | ⟨x, l⟩
      · rfl
      · obtain ⟨ad, h, _⟩ := hr (by simp [cells8]); cases h
    rw [hnil hl]
    exact run_convert_bytes_nil w src e hs he _ _ dst hd
  · have hload : (loadCells ad l.length).run P w = .ok ((l.map fun c : UInt8 => (c.toNat : Int)).map (Value.int .u8)).toArray w := by
      have := run_loadCells_list (P := P) w ad ((l.map fun c : UInt8 => (c.toNat : Int)).map (Value.int .u8)) (fun j v hj => by
        obtain ⟨ad', h, hc⟩ := hr (by rintro h0; unfold cells8 at h0; rw [List.map_map] at hj; have : l = [] := by simpa using h0
                                      subst this; simp at hj)
        injection h with h
        subst h
        refine hc j v ?_
        rw [List.map_map] at hj
        exact hj)
      simpa using this
    rw [run_convert_bytes_string w src dst e _ _ _ hs he hd, run_bytesToString w _ _ _ _ hload, foldl_push_bytes]
    congr 2
    simp [strOf, ByteArray.empty, ByteArray.emptyWithCapacity, List.map_map, Function.comp_def]
    rfl
theorem strOf_inj {a b : List UInt8} : strOf a = strOf b ↔ a = b := by
  unfold strOf
  simp
/-- What a call gives back, and what then holds. -/
def Ret (φ : Value → World → Prop) (e : Ending) (w' : World) : Prop := ∃ v, e = .returned v ∧ φ v w'
theorem Byt.keep_ {w w' : World} {v : Value} {l : List UInt8} (h : Byt w v l) (k : Keep w w') : Byt w' v l := h.below k.below
end Go.Proofs.Ytdlbhoedmaifpaa
