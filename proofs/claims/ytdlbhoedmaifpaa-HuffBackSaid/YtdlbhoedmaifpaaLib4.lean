/- Lib4: arrays and structs loaded and stored whole. -/
import Derived.Test.YtdlbhoedmaifpaaBytesRep
namespace Go.Proofs.Ytdlbhoedmaifpaa
open Go.RowKit
section
variable {P : Program}
theorem addr_zero (g j : Nat) : (⟨g, 0, none⟩ : Addr).add j = ⟨g, j, none⟩ := by
  unfold Addr.add; split
  · rename_i h0; subst h0; rfl
  · simp
theorem run_load_whole {w : World} {g : Nat} {t te : TypeId} {cs : List Value} (hb : Blk w g te cs) (ha : ∀ w, (isAgg t).run P w = .ok true w) (hs : ∀ w, (sizeOf t).run P w = .ok cs.length w) :
    (Instr.loadAt t (.pointer (some ⟨g, 0, none⟩))).run P w = .ok (.agg cs.toArray) w := by
  have hl := run_loadCells_list (P := P) w ⟨g, 0, none⟩ cs (fun j v hj => by rw [addr_zero, hb.cell]; exact hj)
  simp [Instr.loadAt, Instr.sureAddr, loadVar, ha, hs, hl, Result.andThen]
theorem run_store_whole {w : World} {g : Nat} {t te : TypeId} {cs ds : List Value} (hb : Blk w g te cs) (hl : ds.length = cs.length) (ha : ∀ w, (sizeOf t).run P w = .ok ds.length w) (h1 : ∀ v ∈ ds, v.oneCell' = true) :
    (Instr.storeAt t (.pointer (some ⟨g, 0, none⟩)) (.agg ds.toArray)).run P w = .ok () { w with heap := w.heap.setIfInBounds g (.cells ds.toArray te (0, 0)) } := by
  have hst := run_storeCells_at P g 0 te ds 0 cs.toArray w hb (by simp; omega) h1
  rw [setRow_put w g _ _ _ _ hb] at hst
  have e : (List.take (0 + 0) cs.toArray.toList ++ ds ++ List.drop (0 + 0 + ds.length) cs.toArray.toList).toArray = ds.toArray := by
    simp [hl]
  rw [e] at hst
  simp [Instr.storeAt, Instr.sureAddr, storeVar, ha, hst, Result.andThen, Value.cells]
theorem wpList_load_whole {w : World} {ops : Array Oper} {rest : List Oper} {o : Oper} {a : Act} {Q : Exit → Act → World → Prop} (hgd : o.guard = none) (t : TypeId) (x : Operand) (ho : o.op = .load t x)
    (g : Nat) (te : TypeId) (cs : List Value) (hx : a.eval x = .pointer (some ⟨g, 0, none⟩)) (hb : Blk w g te cs) (ha : ∀ w, (isAgg t).run P w = .ok true w) (hs : ∀ w, (sizeOf t).run P w = .ok cs.length w)
    (h : wpList P ops Q rest (a.put o.dst (.agg cs.toArray)) w) : wpList P ops Q (o :: rest) a w :=
  wpList_plain hgd fun K hK => by
    unfold Oper.wp execOp
    simp only [ho, Sem.run_bind, Sem.run_pure, Result.andThen_ok, hx, run_load_whole hb ha hs]
    exact hK _ _ h
theorem wpList_store_whole {w0 w : World} {L : List Pr} {ops : Array Oper} {rest : List Oper} {o : Oper} {a : Act} {Q : Exit → Act → World → Prop} (hgd : o.guard = none) (t : TypeId) (x y : Operand) (ho : o.op = .store t x y)
    (g : Nat) (te : TypeId) (cs ds : List Value) (hx : a.eval x = .pointer (some ⟨g, 0, none⟩)) (hy : a.eval y = .agg ds.toArray) (H : Sp w0 (Bk g te cs :: L) w) (hl : ds.length = cs.length) (ha : ∀ w, (sizeOf t).run P w = .ok ds.length w) (h1 : ∀ v ∈ ds, v.oneCell' = true)
    (h : ∀ w', Sp w0 (Bk g te ds :: L) w' → wpList P ops Q rest (a.put o.dst undef) w') : wpList P ops Q (o :: rest) a w :=
  wpList_plain hgd fun K hK => by
    unfold Oper.wp execOp
    simp only [ho, Sem.run_bind, Sem.run_pure, Result.andThen_ok, hx, hy, run_store_whole (H.blk 0 rfl) hl ha h1]
    exact hK _ _ (h _ (H.put _))
theorem wpList_make_sp {w0 w : World} {L : List Pr} {ops : Array Oper} {rest : List Oper} {o : Oper} {a : Act} {Q : Exit → Act → World → Prop} (hg : o.guard = none) (l c : Operand) (t : TypeId) (hop : o.op = Op.makeSlice t l c)
    (e : TypeId) (i : TypeInfo) (z : Value) (h1 : P.underlying t = some (.slice e)) (h2 : P.info? e = some i) (h3 : i.zero = some z) (h4 : i.size = 1) (hz1 : z.cells = #[z])
    (n : Nat) (hl : a.eval l = .int .i64 (n : Int)) (hc : a.eval c = .int .i64 (n : Int)) (b2 : i.bytes * n ≤ 281474976710656) (b3 : n ≤ maxLen) (H : Sp w0 L w)
    (hK : ∀ (ad : Addr) w', Sp w0 (Row e 1 (.slice (some ad) n n) n (List.replicate n z) :: L) w' → wpList P ops Q rest (a.put o.dst (.slice (some ad) n n)) w') :
    wpList P ops Q (o :: rest) a w := by
  refine wpList_plain hg fun K hK' => ?_
  have hrun := run_make (P := P) w t e i z h1 h2 h3 .i64 .i64 (n : Int) (n : Int) (by omega) (Int.le_refl _) (by rw [← Int.natCast_mul]; omega) (by have h3 := b3; unfold maxLen at h3; omega)
  rw [hz1, h4, Nat.mul_one, show ((n : Int)).toNat = n from rfl] at hrun
  have hH := (H.newBk (List.replicate n z) e).bkRow 1 n (by rw [List.length_replicate, Nat.mul_one]) b3
  unfold Oper.wp
  simp [execOp, hop, hl, hc, hrun, Result.andThen]
  refine hK' _ _ (hK _ _ ?_)
  have e2 : madeCells #[z] n = (List.replicate n z).toArray := by rw [← toList_madeCells_one]
  rw [e2]
  exact hH
end
end Go.Proofs.Ytdlbhoedmaifpaa
