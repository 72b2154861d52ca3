/- MatchMap: a map by three bytes: its operations. -/
import Derived.Test.YtdlbhoedmaifpaaLib1
import Derived.Maps.Keyed
import Derived.WideKeyEntry
import Derived.DeepKeys4
namespace Go.Proofs.Ytdlbhoedmaifpaa
open Go.RowKit Go.MapKept
abbrev Three := UInt8 × UInt8 × UInt8
/-- Three bytes, as a key. -/
def key3 (k : Three) : Value := .agg #[.int .u8 (k.1.toNat : Int), .int .u8 (k.2.1.toNat : Int), .int .u8 (k.2.2.toNat : Int)]
theorem key3_inj {x y : Three} (h : key3 x = key3 y) : x = y := by
  unfold key3 at h
  injection h with h
  injection h with h
  simp only [List.cons.injEq, Value.int.injEq, true_and, and_true, Int.natCast_inj] at h
  obtain ⟨h1, h2, h3⟩ := h
  exact Prod.ext (UInt8.toNat_inj.1 h1) (Prod.ext (UInt8.toNat_inj.1 h2) (UInt8.toNat_inj.1 h3))
theorem keyed3 : Maps.Keyed Try.prog 127 :=
  Maps.Keyed.of_law (deep_law_laid (m := 2) (by kernel_rfl) (by decide) (by decide +kernel) (by kernel_rfl) (by kernel_rfl))
theorem wf8 (a : UInt8) : (Lit.int .u8 (a.toNat : Int)).wf = true := by
  have := a.toNat_lt
  have h1 : IntKind.u8.min = 0 := rfl
  have h2 : IntKind.u8.max = 255 := rfl
  simp only [Lit.wf, h1, h2, Bool.and_eq_true, decide_eq_true_eq]
  omega
theorem key3_of (k : Three) : ∃ l, keyOf Try.prog 127 (key3 k) = some l := by
  have h1 : Try.prog.underlying 127 = some (.array 3 5) := by kernel_rfl
  have h2 : Try.prog.keyType 127 = true := by kernel_rfl
  have h4 : Try.prog.underlying 5 = some (.int .u8) := by kernel_rfl
  have h5 : Try.prog.cellsOf 127 = 3 := by kernel_rfl
  have h6 : Try.prog.cellsOf 5 = 1 := by kernel_rfl
  have h3 : (key3 k).formed Try.prog 127 = true := by
    simp [key3, Value.formed, h1, h5]
  obtain ⟨n, hn⟩ : ∃ n, Try.prog.types.size = n + 1 := ⟨Try.prog.types.size - 1, by
    have : 0 < Try.prog.types.size := by decide +kernel
    omega⟩
  unfold keyOf
  rw [h1]
  simp only [h2, h3, Bool.and_self, if_true, hn]
  have h7 : Try.prog.keyLits (n + 1 + 1) 127 (key3 k).cells.toList = some [.int .u8 (k.1.toNat : Int), .int .u8 (k.2.1.toNat : Int), .int .u8 (k.2.2.toNat : Int)] := by
    simp [Program.keyLits, h1, h4, h5, h6, key3, Value.cells, List.range_succ, wf8]
  rw [h7]
  exact ⟨_, rfl⟩
/-- A map's entries: keys of three bytes, all different. -/
structure MapOk (es : Array MapEntry) (clock : Nat) : Prop where
  st : Stamped es clock
  ks : ∀ e ∈ es.toList, ∃ k, e.key = key3 k
theorem MapOk.empty : MapOk #[] 0 := ⟨stamped_empty 0, by simp⟩
theorem MapOk.push {es : Array MapEntry} {clock : Nat} (h : MapOk es clock) {k : Three} (v : Value) (hk : ∀ e ∈ es.toList, e.key ≠ key3 k) : MapOk (es.push ⟨key3 k, v, clock⟩) (clock + 1) :=
  ⟨stamped_push h.st hk, fun e he => by
    simp only [Array.toList_push, List.mem_append, List.mem_singleton] at he
    rcases he with he | rfl
    · exact h.ks e he
    · exact ⟨k, rfl⟩⟩
theorem MapOk.modify {es : Array MapEntry} {clock : Nat} (h : MapOk es clock) (j : Nat) (v : Value) : MapOk (es.modify j fun e => { e with val := v }) clock :=
  ⟨stamped_modify h.st _ _ (fun _ _ => rfl) (fun _ _ _ => rfl), fun e he => by
    obtain ⟨i, hi, rfl⟩ := List.getElem_of_mem he
    have hi2 : i < es.toList.length := by simpa using hi
    obtain ⟨k, hk⟩ := h.ks es.toList[i] (List.getElem_mem hi2)
    refine ⟨k, ?_⟩
    rw [← hk]
    simp only [Array.toList_modify]
    rw [List.getElem_modify]
    split <;> rfl⟩
section
variable {w : World} {b : Nat} {es : Array MapEntry} {clock : Nat} {k : Three}
theorem MapOk.find (h : MapOk es clock) (w : World) (k : Three) :
    ((Instr.findKey 127 (key3 k) es.toList).run Try.prog w = .ok none w ∧ ∀ e ∈ es.toList, e.key ≠ key3 k) ∨
      ∃ j e, (Instr.findKey 127 (key3 k) es.toList).run Try.prog w = .ok (some (j, e.val)) w ∧ es.toList[j]? = some e ∧ e.key = key3 k := by
  obtain ⟨l, hl⟩ := key3_of k
  exact keyed3.find w hl es.toList fun e he => by
    obtain ⟨k', hk'⟩ := h.ks e he
    rw [hk']
    exact key3_of k'
theorem MapOk.find_none (h : MapOk es clock) (w : World) (hk : ∀ e ∈ es.toList, e.key ≠ key3 k) : (Instr.findKey 127 (key3 k) es.toList).run Try.prog w = .ok none w := by
  rcases h.find w k with ⟨h1, _⟩ | ⟨j, e, _, h2, h3⟩
  · exact h1
  · exact absurd h3 (hk e (List.mem_of_getElem? h2))
theorem MapOk.find_some (h : MapOk es clock) (w : World) {j : Nat} {e : MapEntry} (hj : es.toList[j]? = some e) (hk : e.key = key3 k) : (Instr.findKey 127 (key3 k) es.toList).run Try.prog w = .ok (some (j, e.val)) w := by
  rcases h.find w k with ⟨_, h1⟩ | ⟨i, e', h1, h2, h3⟩
  · exact absurd hk (h1 e (List.mem_of_getElem? hj))
  · have hn := ((stamped_iff es clock).1 h.st).2.2
    have hij : i = j := by
      obtain ⟨hi, he⟩ := List.getElem?_eq_some_iff.1 h2
      obtain ⟨hj', he2⟩ := List.getElem?_eq_some_iff.1 hj
      rcases Nat.lt_trichotomy i j with hlt | hlt | hlt
      · exact absurd (by rw [he, he2, h3, hk]) (List.pairwise_iff_getElem.1 hn i j hi hj' hlt)
      · exact hlt
      · exact absurd (by rw [he, he2, h3, hk]) (List.pairwise_iff_getElem.1 hn j i hj' hi hlt)
    subst hij
    rw [hj] at h2
    cases h2
    exact h1
theorem map_ty : Try.prog.underlying 122 = some (.map 127 52) := by kernel_rfl
theorem entry_new (h : MapOk es clock) (hb : w.heap[b]? = some (.map es clock)) (hk : ∀ e ∈ es.toList, e.key ≠ key3 k) :
    (Instr.mapEntry 122 (.map (some b)) (key3 k)).run Try.prog w = .ok (.tuple #[.slice none 0 0, .int .i64 (clock : Int)]) { w with heap := w.heap.setIfInBounds b (.map (es.push ⟨key3 k, .slice none 0 0, clock⟩) (clock + 1)) } := by
  obtain ⟨l, hl⟩ := key3_of k
  simp [Instr.mapEntry, run_underlying map_ty, MapKept.run_getObj_map hb, keyed3.check w false hl, h.find_none w hk, MapKept.run_setObj_map _ hb, Result.andThen, goInt]
theorem store_new (h : MapOk es clock) (v : Value) (hb : w.heap[b]? = some (.map (es.push ⟨key3 k, .slice none 0 0, clock⟩) (clock + 1))) (hk : ∀ e ∈ es.toList, e.key ≠ key3 k) :
    (Instr.entryStore 122 (.map (some b)) (.int .i64 (clock : Int)) v).run Try.prog w = .ok () { w with heap := w.heap.setIfInBounds b (.map (es.push ⟨key3 k, v, clock⟩) (clock + 1)) } := by
  have hs := (h.push (.slice none 0 0) hk).st
  have hidx : (es.push ⟨key3 k, .slice none 0 0, clock⟩).findIdx? (fun e => ((e.born : Nat) : Int) == ((clock : Nat) : Int)) = some es.size := by
    rw [WideElems.findIdx_arr]
    exact WideElems.findIdx_born (l := (es.push ⟨key3 k, .slice none 0 0, clock⟩).toList) (j := es.size) (e0 := ⟨key3 k, .slice none 0 0, clock⟩) hs.2.1 (by simp)
  have hmod : (es.push ⟨key3 k, .slice none 0 0, clock⟩).modify es.size (fun e => { e with val := v }) = es.push ⟨key3 k, v, clock⟩ := by
    apply Array.ext'
    rw [Array.toList_modify, Array.toList_push, Array.toList_push, ← Array.length_toList, WideElems.modify_last]
  simp [Instr.entryStore, MapKept.run_getObj_map hb, asInt, asIntOf, hidx, hmod, MapKept.run_setObj_map _ hb, Result.andThen]
theorem entry_old (h : MapOk es clock) (hb : w.heap[b]? = some (.map es clock)) {j : Nat} {e : MapEntry} (hj : es.toList[j]? = some e) (hk : e.key = key3 k) :
    (Instr.mapEntry 122 (.map (some b)) (key3 k)).run Try.prog w = .ok (.tuple #[e.val, .int .i64 (e.born : Int)]) { w with heap := w.heap.setIfInBounds b (.map es clock) } := by
  obtain ⟨l, hl⟩ := key3_of k
  have hj2 : es[j]? = some e := by simpa using hj
  have hsame : es.modify j (fun e => { e with key := key3 k }) = es := by
    apply Array.ext'
    rw [Array.toList_modify, ChangeMaps.modify_eq_set _ _ _ _ hj]
    have : ({ e with key := key3 k } : MapEntry) = e := by rw [← hk]
    rw [this]
    exact WideElems.set_self _ _ _ hj
  simp [Instr.mapEntry, run_underlying map_ty, MapKept.run_getObj_map hb, keyed3.check w false hl, h.find_some w hj hk, hj2, hk, keyed3.stays w hl, hsame, MapKept.run_setObj_map _ hb, Result.andThen, goInt]
theorem store_old (h : MapOk es clock) (v : Value) (hb : w.heap[b]? = some (.map es clock)) {j : Nat} {e : MapEntry} (hj : es.toList[j]? = some e) :
    (Instr.entryStore 122 (.map (some b)) (.int .i64 (e.born : Int)) v).run Try.prog w = .ok () { w with heap := w.heap.setIfInBounds b (.map (es.modify j fun e => { e with val := v }) clock) } := by
  have hidx : es.findIdx? (fun x => ((x.born : Nat) : Int) == ((e.born : Nat) : Int)) = some j := by
    rw [WideElems.findIdx_arr]
    exact WideElems.findIdx_born h.st.2.1 hj
  simp [Instr.entryStore, MapKept.run_getObj_map hb, asInt, asIntOf, hidx, MapKept.run_setObj_map _ hb, Result.andThen]
theorem look_new (h : MapOk es clock) (hb : w.heap[b]? = some (.map es clock)) (hk : ∀ e ∈ es.toList, e.key ≠ key3 k) :
    (Instr.lookup 122 (.map (some b)) (key3 k) false).run Try.prog w = .ok (.slice none 0 0) w := by
  obtain ⟨l, hl⟩ := key3_of k
  simp [Instr.lookup, run_underlying map_ty, MapKept.run_getObj_map hb, keyed3.check w _ hl, h.find_none w hk, Result.andThen]
theorem look_old (h : MapOk es clock) (hb : w.heap[b]? = some (.map es clock)) {j : Nat} {e : MapEntry} (hj : es.toList[j]? = some e) (hk : e.key = key3 k) :
    (Instr.lookup 122 (.map (some b)) (key3 k) false).run Try.prog w = .ok e.val w := by
  obtain ⟨l, hl⟩ := key3_of k
  simp [Instr.lookup, run_underlying map_ty, MapKept.run_getObj_map hb, keyed3.check w _ hl, h.find_some w hj hk, Result.andThen]
end
end Go.Proofs.Ytdlbhoedmaifpaa
