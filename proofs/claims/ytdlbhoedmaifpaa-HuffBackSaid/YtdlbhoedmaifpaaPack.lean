/- Pack: huff's packs, three cells each; a row of them; loads and stores of whole packs. -/
import Derived.Test.YtdlbhoedmaifpaaStable
import Derived.Test.YtdlbhoedmaifpaaLib4
namespace Go.Proofs.Ytdlbhoedmaifpaa
open Go.RowKit
section
variable {P : Program}
/-- A struct or an array loaded whole. -/
theorem run_load_agg {w : World} {ad : Addr} {t : TypeId} {cs : List Value} (hc : ∀ j v, cs[j]? = some v → w.cell? (ad.add j) = some v) (ha : ∀ w, (isAgg t).run P w = .ok true w) (hs : ∀ w, (sizeOf t).run P w = .ok cs.length w) :
    (Instr.loadAt t (.pointer (some ad))).run P w = .ok (.agg cs.toArray) w := by
  have hl := run_loadCells_list (P := P) w ad cs hc
  simp [Instr.loadAt, Instr.sureAddr, loadVar, ha, hs, hl, Result.andThen]
theorem wp_load_agg {w : World} {o : Oper} {a : Act} {K : Act → World → Prop} {Q : Exit → Act → World → Prop} (t : TypeId) (x : Operand) (ho : o.op = .load t x)
    (ad : Addr) (cs : List Value) (hx : a.eval x = .pointer (some ad)) (hc : ∀ j v, cs[j]? = some v → w.cell? (ad.add j) = some v) (ha : ∀ w, (isAgg t).run P w = .ok true w) (hs : ∀ w, (sizeOf t).run P w = .ok cs.length w)
    (h : K (a.put o.dst (.agg cs.toArray)) w) : o.wp P a w K Q := by
  unfold Oper.wp execOp
  simp only [ho, Sem.run_bind, Sem.run_pure, Result.andThen_ok, hx, run_load_agg hc ha hs]
  exact h
theorem wpList_load_agg {w : World} {ops : Array Oper} {rest : List Oper} {o : Oper} {a : Act} {Q : Exit → Act → World → Prop} (hgd : o.guard = none) (t : TypeId) (x : Operand) (ho : o.op = .load t x)
    (ad : Addr) (cs : List Value) (hx : a.eval x = .pointer (some ad)) (hc : ∀ j v, cs[j]? = some v → w.cell? (ad.add j) = some v) (ha : ∀ w, (isAgg t).run P w = .ok true w) (hs : ∀ w, (sizeOf t).run P w = .ok cs.length w)
    (h : wpList P ops Q rest (a.put o.dst (.agg cs.toArray)) w) : wpList P ops Q (o :: rest) a w :=
  wpList_plain hgd fun _ hK => wp_load_agg t x ho ad cs hx hc ha hs (hK _ _ h)
/-- An element of a row that is owned, stored whole. -/
theorem Sp.rowStore {w0 w : World} {L : List Pr} {e : TypeId} {z n i : Nat} {v : Value} {xs ds : List Value} (H : Sp w0 (Row e z v n xs :: L) w) (hi : i < n) (hd : ds.length = z) (h1 : ∀ v ∈ ds, v.oneCell' = true) :
    ∃ ad c w', v = .slice (some ad) n c ∧ n ≤ c ∧ (storeCells (ad.add (i * z)) ds 0).run P w = .ok () w' ∧ Sp w0 (Row e z v n (xs.take (i * z) ++ ds ++ xs.drop (i * z + z)) :: L) w' := by
  have h := H.owns 0 rfl
  rcases h.2 with ⟨rfl, rfl⟩ | ⟨g, cap, cur, rfl, _, hh, h2, h3, h4, h5⟩
  · omega
  · have e1 : ((⟨g, 0, none⟩ : Addr).add (i * z)) = ⟨g, i * z, none⟩ := addr_zero g _
    have hiz : i * z + z ≤ n * z := by rw [← Nat.succ_mul]; exact Nat.mul_le_mul_right _ hi
    have hnz : n * z ≤ cap * z := Nat.mul_le_mul_right _ h2
    have hst := run_storeCells_at P g (i * z) e ds 0 cur w hh (by rw [hd, h4]; omega) h1
    rw [setRow_put w g _ _ _ _ hh] at hst
    refine ⟨⟨g, 0, none⟩, cap, _, rfl, h2, by rw [e1]; exact hst, ?_⟩
    have hg := (Array.getElem?_eq_some_iff.1 hh).1
    refine H.turn rfl rfl rfl fun s hs => ?_
    have hsg : s g := by
      rcases hs.2 with ⟨hv, _⟩ | ⟨g', cap', cur', hv, hg', _⟩
      · cases hv
      · injection hv with hv
        injection hv with hv
        injection hv with hv
        subst hv
        exact (rs_some hg').1
    have hxl : xs.length = n * z := h.1
    refine ⟨fun b _ hsb => ?_, ?_, .inr ⟨g, cap, (cur.toList.take (i * z + 0) ++ ds ++ cur.toList.drop (i * z + 0 + ds.length)).toArray, rfl, (rs_pos (.inl hsg)).trans ?_, h2, h3, ?_, ?_⟩⟩
    · show (w.heap.setIfInBounds g _)[b]? = _
      rw [Array.getElem?_setIfInBounds, if_neg]
      rintro rfl
      exact hsb hsg
    · rw [List.length_append, List.length_append, List.length_take, List.length_drop, hd, hxl]; omega
    · show (w.heap.setIfInBounds g _)[g]? = _
      rw [Array.getElem?_setIfInBounds, if_pos rfl, if_pos hg]
    · simp only [Nat.add_zero, List.size_toArray, List.length_append, List.length_take, List.length_drop, Array.length_toList, hd, h4]
      omega
    · rw [Nat.add_zero, hd, ← h5, List.take_take, Nat.min_eq_left (by omega), List.drop_take]
      have e2 : (cur.toList.take (i * z) ++ ds).length = i * z + z := by rw [List.length_append, List.length_take, Array.length_toList, h4, hd]; omega
      rw [List.toList_toArray, List.take_append, e2, List.take_of_length_le (by omega)]
theorem run_store_agg {w w' : World} {ad : Addr} {t : TypeId} {ds : List Value} (hst : (storeCells ad ds 0).run P w = .ok () w') (ha : ∀ w, (sizeOf t).run P w = .ok ds.length w) :
    (Instr.storeAt t (.pointer (some ad)) (.agg ds.toArray)).run P w = .ok () w' := by
  simp [Instr.storeAt, Instr.sureAddr, storeVar, ha, hst, Result.andThen, Value.cells]
theorem wp_store_agg {w w' : World} {o : Oper} {a : Act} {K : Act → World → Prop} {Q : Exit → Act → World → Prop} (t : TypeId) (x y : Operand) (ho : o.op = .store t x y)
    (ad : Addr) (ds : List Value) (hx : a.eval x = .pointer (some ad)) (hy : a.eval y = .agg ds.toArray) (hst : (storeCells ad ds 0).run P w = .ok () w') (ha : ∀ w, (sizeOf t).run P w = .ok ds.length w)
    (h : K (a.put o.dst undef) w') : o.wp P a w K Q := by
  unfold Oper.wp execOp
  simp only [ho, Sem.run_bind, Sem.run_pure, Result.andThen_ok, hx, hy, run_store_agg hst ha]
  exact h
end
/-- A pack: its count, its symbol, where its two are. -/
structure PK where
  c : Int
  s : Int
  p : Option Nat
def PK.ptr (x : PK) : Value := .pointer (x.p.map fun g => ⟨g, 0, none⟩)
def PK.cells (x : PK) : List Value := [.int .i64 x.c, .int .i64 x.s, x.ptr]
def PK.val (x : PK) : Value := .agg #[.int .i64 x.c, .int .i64 x.s, x.ptr]
theorem PK.one (x : PK) : ∀ u ∈ x.cells, u.oneCell' = true := by
  intro u hu
  simp only [PK.cells, List.mem_cons, List.not_mem_nil, or_false] at hu
  rcases hu with rfl | rfl | rfl <;> rfl
def pk0 : PK := ⟨0, 0, none⟩
def cellsK (l : List PK) : List Value := l.flatMap PK.cells
theorem cellsK_len (l : List PK) : (cellsK l).length = l.length * 3 := by
  induction l with
  | nil => rfl
  | cons x l ih =>
    show (x.cells ++ cellsK l).length = _
    rw [List.length_append, ih, List.length_cons]
    show 3 + _ = _
    omega
theorem cellsK_append (a b : List PK) : cellsK (a ++ b) = cellsK a ++ cellsK b := List.flatMap_append
theorem cellsK_one (l : List PK) : ∀ u ∈ cellsK l, u.oneCell' = true := by
  intro u hu
  obtain ⟨x, _, hx⟩ := List.mem_flatMap.1 hu
  exact x.one u hx
theorem cellsK_get (l : List PK) (i j : Nat) (hi : i < l.length) (u : Value) (hj : (l.getD i pk0).cells[j]? = some u) : (cellsK l)[i * 3 + j]? = some u := by
  induction l generalizing i with
  | nil => simp at hi
  | cons x l ih =>
    have hj3 : j < 3 := by
      have := (List.getElem?_eq_some_iff.1 hj).1
      exact this
    show (x.cells ++ cellsK l)[i * 3 + j]? = _
    cases i with
    | zero =>
      rw [List.getElem?_append_left (by show _ < 3; omega), Nat.zero_mul, Nat.zero_add]
      exact hj
    | succ i =>
      rw [List.getElem?_append_right (by show 3 ≤ _; omega), show (i + 1) * 3 + j - x.cells.length = i * 3 + j by show _ - 3 = _; omega]
      exact ih i (by simpa using hi) (by simpa using hj)
theorem cellsK_set (l : List PK) (i : Nat) (hi : i < l.length) (x : PK) : (cellsK l).take (i * 3) ++ x.cells ++ (cellsK l).drop (i * 3 + 3) = cellsK (l.set i x) := by
  have h1 : l = l.take i ++ l.getD i pk0 :: l.drop (i + 1) := by
    rw [List.getD_eq_getElem?_getD, List.getElem?_eq_getElem hi]
    simp
  obtain ⟨a, ha⟩ : ∃ a, l.take i = a := ⟨_, rfl⟩
  obtain ⟨b, hb⟩ : ∃ b, l.drop (i + 1) = b := ⟨_, rfl⟩
  rw [ha, hb] at h1
  have hal : a.length = i := by rw [← ha, List.length_take]; omega
  generalize l.getD i pk0 = y at h1
  subst h1
  rw [SS.set_app a b y x hal, cellsK_append, cellsK_append]
  have e1 : (cellsK a).length = i * 3 := by rw [cellsK_len, hal]
  rw [List.take_append_of_le_length (by omega), List.take_of_length_le (by omega), List.drop_append, e1]
  rw [List.drop_eq_nil_of_le (by omega), show i * 3 + 3 - i * 3 = 3 by omega]
  show cellsK a ++ x.cells ++ ([] ++ (y.cells ++ cellsK b).drop 3) = cellsK a ++ (x.cells ++ cellsK b)
  rw [List.append_assoc]
  rfl
/-- A row of packs that is owned. -/
def RowK (v : Value) (l : List PK) : Pr := Row 102 3 v l.length (cellsK l)
theorem RowK.form {w0 w : World} {L : List Pr} (H : Sp w0 L w) (k : Nat) {v : Value} {l : List PK} (hk : L[k]? = some (RowK v l)) : ∃ A c, v = .slice A l.length c ∧ l.length ≤ c ∧ c ≤ maxLen := Row.form H k hk
theorem RowK.rd {w0 w : World} {L : List Pr} (H : Sp w0 L w) (k : Nat) {ad : Addr} {n c : Nat} {l : List PK} (hk : L[k]? = some (RowK (.slice (some ad) n c) l)) (i : Nat) (hi : i < l.length) :
    ∀ j v, (l.getD i pk0).cells[j]? = some v → w.cell? ((ad.add (i * 3)).add j) = some v := fun j v hj => by
  obtain ⟨A, c2, e, hr, _, _⟩ := H.row_rd k hk
  injection e with e
  obtain ⟨ad', e2, hc⟩ := hr (by intro h0; have := cellsK_len l; rw [h0] at this; simp at this; omega)
  rw [← e] at e2
  injection e2 with e2
  subst e2
  rw [Go.Addr.add_add]
  exact hc _ _ (cellsK_get l i j hi v hj)
theorem RowK.store {w0 w : World} {L : List Pr} {ad : Addr} {n c i : Nat} {l : List PK} (x : PK) (H : Sp w0 (RowK (.slice (some ad) n c) l :: L) w) (hi : i < l.length) :
    ∃ w', (storeCells (ad.add (i * 3)) x.cells 0).run Try.prog w = .ok () w' ∧ Sp w0 (RowK (.slice (some ad) n c) (l.set i x) :: L) w' := by
  obtain ⟨ad', c', w', e, _, hr, H'⟩ := Sp.rowStore (P := Try.prog) (ds := x.cells) H hi rfl x.one
  injection e with e
  injection e with e
  subst e
  refine ⟨w', hr, ?_⟩
  rw [cellsK_set l i hi x] at H'
  unfold RowK
  rw [List.length_set]
  exact H'
end Go.Proofs.Ytdlbhoedmaifpaa
