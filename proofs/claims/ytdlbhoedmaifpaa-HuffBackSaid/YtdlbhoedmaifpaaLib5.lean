/- Lib5: pieces weakened; a slice cut to nothing; append of noughts onto nothing; what slices.Concat is handed. -/
import Derived.Test.YtdlbhoedmaifpaaLib4
import Derived.Lib.AppendZeros
namespace Go.Proofs.Ytdlbhoedmaifpaa
open Go.RowKit
theorem Sp.imp {w0 w : World} {A A' : Pr} {L : List Pr} (H : Sp w0 (A :: L) w) (h : ∀ p, A p → A' p) : Sp w0 (A' :: L) w := by
  obtain ⟨h1, h2, h3, own, hL⟩ := H
  refine ⟨h1, h2, h3, own, fun i C hi => ?_⟩
  match i with
  | 0 =>
    obtain rfl : A' = C := by simpa using hi
    exact h _ (hL 0 _ rfl)
  | i + 1 => exact hL (i + 1) C (by simpa using hi)
/-- A row's slice, cut. -/
theorem Sp.rowCut {w0 w : World} {L : List Pr} {e : TypeId} {z n c : Nat} {A : Option Addr} {xs : List Value} (k : Nat) (hk : k ≤ n) (H : Sp w0 (Row e z (.slice A n c) n xs :: L) w) : Sp w0 (Row e z (.slice A k c) k (xs.take (k * z)) :: L) w := by
  refine H.imp fun p hp => ?_
  obtain ⟨h1, h2⟩ := hp
  have hkz : k * z ≤ n * z := Nat.mul_le_mul_right _ hk
  refine ⟨by rw [List.length_take, h1]; omega, ?_⟩
  rcases h2 with ⟨hv, h0⟩ | ⟨g, cap, cur, hv, hg, h3, h4, h5, h6⟩
  · injection hv with e1 e2 e3
    subst e1 e2 e3
    obtain rfl : k = 0 := by omega
    exact .inl ⟨rfl, rfl⟩
  · injection hv with e1 e2 e3
    subst e1 e3
    refine .inr ⟨g, c, cur, rfl, hg, by omega, h4, h5, ?_⟩
    rw [← h6, List.take_take, Nat.min_eq_left hkz]
section
variable {P : Program}
/-- append(nil, make(..)..). -/
theorem wpList_zeros_sp {w0 w : World} {L : List Pr} {ops : Array Oper} {rest : List Oper} {o : Oper} {a : Act} {Q : Exit → Act → World → Prop} (hgd : o.guard = none) (s x : Operand) (t tn : TypeId)
    (ho : o.op = .call { callee := .builtin .append, args := #[s, x], argTypes := #[t, tn] })
    (e : TypeId) (i : TypeInfo) (z : Value) (size bytes : Nat) (ht : P.underlying t = some (.slice e)) (htn : P.underlying tn = some (.int .i64)) (hi : P.info? e = some i) (hz : i.zero = some z)
    (hsize : i.size = size) (hby : i.bytes = bytes) (hzs : z.cells.size = size) (hsz : 0 < size)
    (n : Nat) (hs : a.eval s = .slice none 0 0) (hx : a.eval x = .int .i64 (n : Int)) (h0 : 0 < n) (hn : n ≤ 1000000000) (hbytes : bytes ≤ 1000) (H : Sp w0 L w)
    (h : ∀ g c w', n ≤ c → c ≤ maxLen → Sp w0 (Row e size (.slice (some ⟨g, 0, none⟩) n c) n ((Builtin.zeroCells z.cells n ++ Builtin.zeroCells z.cells (c - n)).toList.take (n * size)) :: L) w' → wpList P ops Q rest (a.put o.dst (.slice (some ⟨g, 0, none⟩) n c)) w') :
    wpList P ops Q (o :: rest) a w := by
  have hnb : n * i.bytes ≤ 281474976710656 := by
    rw [hby]
    exact Nat.le_trans (Nat.mul_le_mul hn hbytes) (by decide)
  have hr := Lib.run_append_nil_zeros (P := P) w t tn o.type e i z .i64 .i64 ht htn hi hz n h0 (by omega) (by omega) hnb
  refine Lib.wpList_append_run w hgd s x t tn ho _ _ hs hx _ _ hr ?_
  have hge := grownCap_ge w n 0 e
  have hcm : grownCap w n 0 e ≤ maxLen := grownCap_le_maxLen w n 0 e (by unfold maxLen; omega)
  generalize grownCap w n 0 e = c at hge hcm ⊢
  have H2 := (H.drew).newBk (Builtin.zeroCells z.cells n ++ Builtin.zeroCells z.cells (c - n)).toList e
  rw [Array.toArray_toList] at H2
  have hsz2 : w.drew.heap.size = w.heap.size := rfl
  rw [hsz2] at H2
  have hl : (Builtin.zeroCells z.cells n ++ Builtin.zeroCells z.cells (c - n)).toList.length = c * size := by
    rw [Array.length_toList, Array.size_append, size_zeroCells, size_zeroCells, hzs, ← Nat.add_mul]
    congr 1; omega
  have H3 := H2.bkRow size c hl hcm
  exact h _ c _ hge hcm (H3.rowCut n hge)
end
/-- A part that slices.Concat is handed: its slice, and what it reads. -/
structure Part where
  A : Option Addr
  n : Nat
  c : Nat
  xs : List Value
def Part.val (q : Part) : Value := .slice q.A q.n q.c
def Part.Ok (L : List Pr) (z : Nat) (q : Part) : Prop := q.xs.length = q.n * z ∧ Ent L (fun w => Rd w q.A q.xs) ∧ ∀ u ∈ q.xs, u.oneCell' = true
def Part.sum (qs : List Part) : Nat := (qs.map Part.n).sum
theorem Part.sum_snoc (qs : List Part) (q : Part) : Part.sum (qs ++ [q]) = Part.sum qs + q.n := by unfold Part.sum; simp
theorem Part.sum_take (qs : List Part) (i : Nat) : Part.sum (qs.take i) ≤ Part.sum qs := by
  have h := List.take_append_drop i qs
  have : Part.sum qs = Part.sum (qs.take i) + Part.sum (qs.drop i) := by
    conv => lhs; rw [← h]
    unfold Part.sum; simp only [List.map_append, List.sum_append]
  omega
def Part.cat (qs : List Part) : List Value := qs.flatMap Part.xs
theorem Part.cat_snoc (qs : List Part) (q : Part) : Part.cat (qs ++ [q]) = Part.cat qs ++ q.xs := by unfold Part.cat; simp
end Go.Proofs.Ytdlbhoedmaifpaa
